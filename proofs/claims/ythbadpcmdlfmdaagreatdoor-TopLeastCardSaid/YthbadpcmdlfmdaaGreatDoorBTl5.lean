/-
  Texts that belong together: Rec3, Str, Rec4, VNum3, VNum6, Rec5, Rec6, Rec7, RecMath3, RecMath4, TlMath, TlMath2, VBitsAdd, VBitsW, VBits1, VBits2, Seq, Tl1, TlL1, Laid.
-/
import Derived.Test.YthbadpcmdlfmdaaGreatDoorBTl4
import Derived.Test.YthbadpcmdlfmdaaGreatDoorBitsWrite
import Derived.Test.YthbadpcmdlfmdaaGreatDoorBitsCopy
import Derived.Test.YthbadpcmdlfmdaaGreatDoorBitsCheck
import Derived.Test.YthbadpcmdlfmdaaGreatDoorBitsLib
import Derived.Test.YthbadpcmdlfmdaaGreatDoorRows
import Derived.LaidLaws
import Derived.LaidMore
import Derived.LaidHandle
import Derived.MakeChecks
import Derived.LaidByTextLater
import Derived.Stop.Joined
import Derived.ProofKit
set_option linter.unusedVariables false
set_option linter.unusedSimpArgs false
set_option linter.unusedSectionVars false
namespace Go.Proofs.YthbadpcmdlfmdaaGreatDoor
open Go.RowKit
open Mv Disk Num
set_option maxRecDepth 4000
namespace Rec
theorem recB_len (x : List Nat) : (recB x).length = 5 * x.length := by
 unfold recB
 induction x with
 | nil=>rfl
 | cons a x ih=>rw [List.flatMap_cons,List.length_append,ih];simp [five];omega
theorem recs_len {w : Nat} : ∀ l : List (List Nat), l.all (rowOK w) = true → (l.flatMap recB).length = 5 * w * l.length
 | [],_=>by simp
 | x :: l,h=>by
  rw [List.all_cons,Bool.and_eq_true] at h
  have h1:=h.1
  unfold rowOK at h1
  rw [Bool.and_eq_true,decide_eq_true_eq] at h1
  rw [List.flatMap_cons,List.length_append,recB_len,recs_len l h.2,h1.2,List.length_cons,Nat.mul_succ];omega
theorem all_take {α : Type} {p : α → Bool} {l : List α} {i : Nat} (hi : i < l.length) (h : (l.take i).all p = true) (hx : p l[i] = true) : (l.take (i + 1)).all p = true := by
 rw [List.take_succ_eq_append_getElem hi,List.all_append,h]
 simp [hx]
set_option maxHeartbeats 4000000 in
theorem rec_Write (v : Value) (d : D) (s : ByteArray) (w : Int) (l : List (List Nat)) (vl : Value) (S : Mem) (hd : DkR S v d) (hz : Dz d) (hl : SlOf RowR S vl l) (hb : ∀ x ∈ l, ∀ n ∈ x, n < 18446744073709551616) :
  ACall Tryz.prog 7 #[v,.string s,.int .i64 w,vl] S (DkRes (writeP d s w l) S):=by
 have href:=rec_refused v d S hd hz
 obtain ⟨hs,hlen,⟨pa,ca,rfl,ha1,ha2,ha3⟩,hae⟩:=hl
 unfold writeP
 by_cases hw1:w<1
 ·rw [if_pos (.inl hw1)]
  obtain ⟨pe,ce,pw,cw,rfl,hE,hW⟩:=id hd
  refine ACall.enter (rs:=[.cell 8 28,.tmp 9]) 65 [(0,.agg #[.int .i64 d.size,.slice pe d.ext.length ce,.slice pw d.waits.length cw,.int .i64 d.fuse,.bool d.down]),(1,.string s),(2,.int .i64 w),(3,.slice pa hs.length ca)] Tryz.func7 rfl rfl (Nat.le_of_ble_eq_true rfl) rfl ⟨rfl,rfl,rfl,rfl,trivial⟩ ?_
  iterate 2 refine s1_ ?_
  refine k_b5 rfl ?_
  intro b4 f4
  have g4:=f4
  repeat ((with_reducible replace g4:=fresh_set g4);obtain ⟨g4,_⟩:=g4)
  refine nl_ ?_
  refine ARun.alloc (lit_lt rfl) ty_zero_28 ?_
  intro b8 f8
  have g8:=f8
  repeat ((with_reducible replace g8:=fresh_set g8);obtain ⟨g8,_⟩:=g8)
  refine nl_ ?_
  iterate 19 refine s1_ ?_
  refine su_ [(0,_),(1,_),(2,_),(3,_),(4,_),(8,_),(9,_),(25,_)] ?_
  refine cT_ ?_
  iterate 3 refine s1_ ?_
  refine ca_ rfl ((href.frame f4).frame f8) ?_
  rintro _ S1 ⟨Sa,⟨M2,⟨v,rfl,hl2,hdk⟩,fc,hSa⟩,fd,h1⟩
  rw [h1,hSa];rw [hSa] at fd;clear h1 S1 hSa Sa
  obtain ⟨qe,de,qw,dw,rfl,_⟩:=id hdk
  obtain ⟨ge,_⟩:=fresh_set fd
  iterate 6 refine s1_ ?_
  refine su_ [(0,_),(1,_),(2,_),(3,_),(4,_),(8,_),(9,_),(25,_)] ?_
  iterate 2 refine s1_ ?_
  refine ⟨_,M2,⟨_,_,_,rfl,.inr ⟨ty_agg_28,[_,_,_,_,_],ty_size_28,rds_,rfl⟩,⟨_,_,rfl,rfl,rfl⟩,rfl⟩,less_,?_⟩
  exact ⟨_,rfl,hl2,hdk⟩
 by_cases hw2:8<w
 ·rw [if_pos (.inr (.inl hw2))]
  obtain ⟨pe,ce,pw,cw,rfl,hE,hW⟩:=id hd
  refine ACall.enter (rs:=[.cell 8 28,.tmp 9]) 65 [(0,.agg #[.int .i64 d.size,.slice pe d.ext.length ce,.slice pw d.waits.length cw,.int .i64 d.fuse,.bool d.down]),(1,.string s),(2,.int .i64 w),(3,.slice pa hs.length ca)] Tryz.func7 rfl rfl (Nat.le_of_ble_eq_true rfl) rfl ⟨rfl,rfl,rfl,rfl,trivial⟩ ?_
  iterate 2 refine s1_ ?_
  refine k_b5 rfl ?_
  intro b4 f4
  have g4:=f4
  repeat ((with_reducible replace g4:=fresh_set g4);obtain ⟨g4,_⟩:=g4)
  refine nl_ ?_
  refine ARun.alloc (lit_lt rfl) ty_zero_28 ?_
  intro b8 f8
  have g8:=f8
  repeat ((with_reducible replace g8:=fresh_set g8);obtain ⟨g8,_⟩:=g8)
  refine nl_ ?_
  iterate 19 refine s1_ ?_
  refine su_ [(0,_),(1,_),(2,_),(3,_),(4,_),(8,_),(9,_),(25,_)] ?_
  refine cT_ ?_
  iterate 3 refine s1_ ?_
  refine ca_ rfl ((href.frame f4).frame f8) ?_
  rintro _ S1 ⟨Sa,⟨M2,⟨v,rfl,hl2,hdk⟩,fc,hSa⟩,fd,h1⟩
  rw [h1,hSa];rw [hSa] at fd;clear h1 S1 hSa Sa
  obtain ⟨qe,de,qw,dw,rfl,_⟩:=id hdk
  obtain ⟨ge,_⟩:=fresh_set fd
  iterate 6 refine s1_ ?_
  refine su_ [(0,_),(1,_),(2,_),(3,_),(4,_),(8,_),(9,_),(25,_)] ?_
  iterate 2 refine s1_ ?_
  refine ⟨_,M2,⟨_,_,_,rfl,.inr ⟨ty_agg_28,[_,_,_,_,_],ty_size_28,rds_,rfl⟩,⟨_,_,rfl,rfl,rfl⟩,rfl⟩,less_,?_⟩
  exact ⟨_,rfl,hl2,hdk⟩
 by_cases hw3:65536<l.length
 ·rw [if_pos (.inr (.inr hw3))]
  obtain ⟨pe,ce,pw,cw,rfl,hE,hW⟩:=id hd
  refine ACall.enter (rs:=[.cell 8 28,.tmp 9]) 65 [(0,.agg #[.int .i64 d.size,.slice pe d.ext.length ce,.slice pw d.waits.length cw,.int .i64 d.fuse,.bool d.down]),(1,.string s),(2,.int .i64 w),(3,.slice pa hs.length ca)] Tryz.func7 rfl rfl (Nat.le_of_ble_eq_true rfl) rfl ⟨rfl,rfl,rfl,rfl,trivial⟩ ?_
  iterate 2 refine s1_ ?_
  refine k_b5 rfl ?_
  intro b4 f4
  have g4:=f4
  repeat ((with_reducible replace g4:=fresh_set g4);obtain ⟨g4,_⟩:=g4)
  refine nl_ ?_
  refine ARun.alloc (lit_lt rfl) ty_zero_28 ?_
  intro b8 f8
  have g8:=f8
  repeat ((with_reducible replace g8:=fresh_set g8);obtain ⟨g8,_⟩:=g8)
  refine nl_ ?_
  iterate 19 refine s1_ ?_
  refine su_ [(0,_),(1,_),(2,_),(3,_),(4,_),(8,_),(9,_),(25,_)] ?_
  refine cT_ ?_
  iterate 3 refine s1_ ?_
  refine ca_ rfl ((href.frame f4).frame f8) ?_
  rintro _ S1 ⟨Sa,⟨M2,⟨v,rfl,hl2,hdk⟩,fc,hSa⟩,fd,h1⟩
  rw [h1,hSa];rw [hSa] at fd;clear h1 S1 hSa Sa
  obtain ⟨qe,de,qw,dw,rfl,_⟩:=id hdk
  obtain ⟨ge,_⟩:=fresh_set fd
  iterate 6 refine s1_ ?_
  refine su_ [(0,_),(1,_),(2,_),(3,_),(4,_),(8,_),(9,_),(25,_)] ?_
  iterate 2 refine s1_ ?_
  refine ⟨_,M2,⟨_,_,_,rfl,.inr ⟨ty_agg_28,[_,_,_,_,_],ty_size_28,rds_,rfl⟩,⟨_,_,rfl,rfl,rfl⟩,rfl⟩,less_,?_⟩
  exact ⟨_,rfl,hl2,hdk⟩
 rw [if_neg (by omega)]
 obtain ⟨k,rfl⟩:=Int.eq_ofNat_of_zero_le (by omega:0≤w)
 rw [Int.toNat_natCast]
 have hput:=fun (h:l.all (rowOK k)=true)=>rec_put v d s k l.length (bs (l.flatMap recB)) S hd hz (by omega) (by omega) (by rw [size_bs,recs_len l h];unfold eachN;rw [if_neg (by omega)])
 have htk:∀ i,i≤l.length→(l.take i).all (rowOK k)=true→((l.take i).flatMap recB).length≤5*k*65536:=fun i hi h=>by
  rw [recs_len _ h,List.length_take]
  exact Nat.mul_le_mul_left _ (by omega)
 have hk40:5*k*65536≤2621440:=by omega
 obtain ⟨pe,ce,pw,cw,rfl,hE,hW⟩:=id hd
 refine ACall.enter (rs:=[.cell 8 28,.tmp 9]) 65 [(0,.agg #[.int .i64 d.size,.slice pe d.ext.length ce,.slice pw d.waits.length cw,.int .i64 d.fuse,.bool d.down]),(1,.string s),(2,.int .i64 (k:Int)),(3,.slice pa hs.length ca)] Tryz.func7 rfl rfl (Nat.le_of_ble_eq_true rfl) rfl ⟨rfl,rfl,rfl,rfl,trivial⟩ ?_
 iterate 2 refine s1_ ?_
 refine k_b5 rfl ?_
 intro b4 f4
 have g4:=f4
 repeat ((with_reducible replace g4:=fresh_set g4);obtain ⟨g4,_⟩:=g4)
 refine nl_ ?_
 refine ARun.alloc (lit_lt rfl) ty_zero_28 ?_
 intro b8 f8
 have g8:=f8
 repeat ((with_reducible replace g8:=fresh_set g8);obtain ⟨g8,_⟩:=g8)
 refine nl_ ?_
 iterate 19 refine s1_ ?_
 refine su_ [(0,_),(1,_),(2,_),(3,_),(4,_),(8,_),(9,_),(25,_)] ?_
 refine cF_ ?_
 iterate 4 refine s1_ ?_
 refine ARun.alloc (lit_lt rfl) ty_zero_57 ?_
 intro b10 f10
 have g10:=f10
 repeat ((with_reducible replace g10:=fresh_set g10);obtain ⟨g10,_⟩:=g10)
 refine nl_ ?_
 iterate 2 refine s1_ ?_
 have hnew:=Bl.R.new ((S.set b4 (bx d pe ce pw cw)).set b8 zb) b10
 have hb4:((S.set b4 (bx d pe ce pw cw)).set b8 zb).own b4=some (bx d pe ce pw cw):=own_
 have hb8:((S.set b4 (bx d pe ce pw cw)).set b8 zb).own b8=some zb:=own_
 have hB:S.Less ((S.set b4 (bx d pe ce pw cw)).set b8 zb):=less_
 have n4:S.own b4=none:=g4.1
 have n8:S.own b8=none:=g8.1
 iterate 9 refine s1_ ?_
 refine AWP.loop (X:=Nat × Mem) (fun x=>[(1,.string s),(2,.int .i64 (k:Int)),(3,.slice pa hs.length ca),(4,.pointer (some ⟨b4,0,none⟩)),(8,.pointer (some ⟨b8,0,none⟩)),(10,.pointer (some ⟨b10,0,none⟩)),(30,.slice pa hs.length ca),(31,.int .i64 (hs.length:Int)),(32,.int .i64 (x.1:Int))]) (fun x=>x.2) (fun x=>x.1≤l.length∧Bl.R ((S.set b4 (bx d pe ce pw cw)).set b8 zb) b10 ((l.take x.1).flatMap recB) x.2∧(l.take x.1).all (rowOK k)=true) (fun x=>l.length-x.1) ((0,((S.set b4 (bx d pe ce pw cw)).set b8 zb).set b10 (Bl.blk (.pointer none) (.slice none 0 0)))) ⟨rfl,rfl,rfl,rfl,rfl,rfl,rfl,rfl,rfl,trivial⟩ (Mem.Less.refl _) (⟨Nat.zero_le _,hnew,rfl⟩) ?_
 rintro ⟨i,T⟩ ⟨hi,hT,hq⟩
 (try dsimp only at *)
 have hBT:=hT.less f10
 have hST:=hB.trans hBT
 have o4:=hBT.own hb4
 have o8:=hBT.own hb8
 iterate 6 refine s1_ ?_
 refine AWP.condB rfl (fun hl=>?_) (fun hl=>?_)
 ·have hil:i<l.length:=by have:=of_decide_eq_true hl;omega
  have hia:i<hs.length:=by omega
  obtain ⟨b0,off,rfl,hkn⟩:=ha3.resolve_left (by intro h;rw [h] at hia;exact absurd hia (Nat.not_lt_zero _))
  have hkk:=(hkn i hia).less hST
  have hrow:=(hae i hil hia).less hST
  have hmem:=List.getElem_mem hil
  have hRec:=numV_Record l[i] hs[i] T hrow (hb _ hmem)
  unfold recP at hRec
  obtain ⟨xa,xc,hxe,-⟩:=id hrow
  by_cases hr:recOK l[i]=true
  ·rw [if_pos hr] at hRec
   iterate 11 refine s1_ ?_
   refine su_ [(1,_),(2,_),(3,_),(4,_),(8,_),(10,_),(30,_),(31,_),(32,_),(33,_),(12,_)] ?_
   iterate 3 refine s1_ ?_
   refine ca_ rfl (hRec) ?_
   rintro _ S1 ⟨rfl,h1⟩
   rw [h1];clear h1 S1
   rw [hxe]
   iterate 7 refine s1_ ?_
   refine su_ [(1,_),(2,_),(3,_),(4,_),(8,_),(10,_),(30,_),(31,_),(32,_),(33,_),(12,_),(13,_),(14,_)] ?_
   by_cases hx:(l[i]).length=k
   ·iterate 13 refine s1_ ?_
    refine su_ [(1,_),(2,_),(3,_),(4,_),(8,_),(10,_),(30,_),(31,_),(32,_),(33,_),(12,_),(13,_),(14,_),(48,_)] ?_
    refine cF_ ?_
    have hsz:(bs (recB l[i])).size=5*k:=by rw [size_bs,recB_len,hx]
    have hti:=htk i hi hq
    iterate 4 refine s1_ ?_
    refine ca_ rfl (Bl.WriteString _ b10 _ T (bs (recB l[i])) f10 hT (by omega)) ?_
    rintro _ T2 ⟨rfl,hT2⟩
    rw [show (l.take i).flatMap recB ++ (bs (recB l[i])).data.toList=(l.take (i+1)).flatMap recB from by rw [List.take_succ_eq_append_getElem hil,List.flatMap_append];simp [bs]] at hT2
    iterate 3 refine s1_ ?_
    refine su_ [(1,_),(2,_),(3,_),(4,_),(8,_),(10,_),(30,_),(31,_),(32,_),(33,_),(12,_),(13,_),(14,_),(48,_)] ?_
    iterate 5 refine s1_ ?_
    refine ⟨(i+1,T2),?_,?_,?_,?_⟩
    all_goals (try dsimp only)
    ·exact ⟨rfl,rfl,rfl,rfl,rfl,rfl,rfl,rfl,some_int (by omega),trivial⟩
    ·exact Mem.Less.refl _
    ·exact ⟨hil,hT2,all_take hil hq (by unfold rowOK;rw [hr,decide_eq_true hx];rfl)⟩
    ·omega
   ·iterate 13 refine s1_ ?_
    refine su_ [(1,_),(2,_),(3,_),(4,_),(8,_),(10,_),(30,_),(31,_),(32,_),(33,_),(12,_),(13,_),(14,_),(48,_)] ?_
    refine cT_ ?_
    rw [if_neg (fun h=>by have:=List.all_eq_true.1 h _ hmem;unfold rowOK at this;rw [Bool.and_eq_true,decide_eq_true_eq] at this;exact hx this.2)]
    iterate 3 refine s1_ ?_
    refine ca_ rfl (href.over hST) ?_
    rintro _ T2 ⟨M2,⟨v,rfl,hl2,hdk⟩,hMT,hkeep⟩
    obtain ⟨p8,q8⟩:=hkeep b8 _ n8 o8
    obtain ⟨qe,de,qw,dw,rfl,_⟩:=id hdk
    iterate 6 refine s1_ ?_
    refine su_ [(1,_),(2,_),(3,_),(4,_),(8,_),(10,_),(30,_),(31,_),(32,_),(33,_),(12,_),(13,_),(14,_),(48,_),(9,_)] ?_
    iterate 7 refine s1_ ?_
    refine ⟨_,M2,⟨_,_,_,rfl,.inr ⟨ty_agg_28,[_,_,_,_,_],ty_size_28,rds_,rfl⟩,⟨_,_,rfl,rfl,rfl⟩,rfl⟩,less_set_skip hMT q8,?_⟩
    exact ⟨_,rfl,hl2,hdk⟩
  ·rw [if_neg hr] at hRec
   rw [if_neg (fun h=>by have:=List.all_eq_true.1 h _ hmem;unfold rowOK at this;rw [Bool.and_eq_true] at this;exact hr this.1)]
   iterate 11 refine s1_ ?_
   refine su_ [(1,_),(2,_),(3,_),(4,_),(8,_),(10,_),(30,_),(31,_),(32,_),(33,_),(12,_)] ?_
   iterate 3 refine s1_ ?_
   refine ca_ rfl (hRec) ?_
   rintro _ S1 ⟨rfl,h1⟩
   rw [h1];clear h1 S1
   iterate 7 refine s1_ ?_
   refine su_ [(1,_),(2,_),(3,_),(4,_),(8,_),(10,_),(30,_),(31,_),(32,_),(33,_),(12,_),(13,_),(14,_)] ?_
   iterate 13 refine s1_ ?_
   refine su_ [(1,_),(2,_),(3,_),(4,_),(8,_),(10,_),(30,_),(31,_),(32,_),(33,_),(12,_),(13,_),(14,_),(48,_)] ?_
   refine cT_ ?_
   iterate 3 refine s1_ ?_
   refine ca_ rfl (href.over hST) ?_
   rintro _ T2 ⟨M2,⟨v,rfl,hl2,hdk⟩,hMT,hkeep⟩
   obtain ⟨p8,q8⟩:=hkeep b8 _ n8 o8
   obtain ⟨qe,de,qw,dw,rfl,_⟩:=id hdk
   iterate 6 refine s1_ ?_
   refine su_ [(1,_),(2,_),(3,_),(4,_),(8,_),(10,_),(30,_),(31,_),(32,_),(33,_),(12,_),(13,_),(14,_),(48,_),(9,_)] ?_
   iterate 7 refine s1_ ?_
   refine ⟨_,M2,⟨_,_,_,rfl,.inr ⟨ty_agg_28,[_,_,_,_,_],ty_size_28,rds_,rfl⟩,⟨_,_,rfl,rfl,rfl⟩,rfl⟩,less_set_skip hMT q8,?_⟩
   exact ⟨_,rfl,hl2,hdk⟩
 ·obtain rfl:i=l.length:=by have:=of_decide_eq_false hl;omega
  rw [List.take_length] at hq hT
  rw [if_pos hq]
  have hti:(l.flatMap recB).length≤2621440:=by have:=htk l.length (Nat.le_refl _) (by rw [List.take_length];exact hq);rw [List.take_length] at this;omega
  have hStr:=Bl.StringE _ b10 _ T f10 hT (by omega)
  rw [hlen]
  iterate 6 refine s1_ ?_
  refine AWP.drawG [0,5,6,9] mixed ?_
  refine DG.pure 1 (by kernel_rfl) (by kernel_rfl) rfl rfl rfl rfl (lit_lt rfl) (fun _=>Calm.move rfl) ?_
  refine DG.pure 2 (by kernel_rfl) (by kernel_rfl) rfl rfl rfl rfl (lit_lt rfl) (fun _=>Calm.move rfl) ?_
  refine DG.pure 3 (by kernel_rfl) (by kernel_rfl) rfl rfl rfl rfl (lit_lt rfl) (fun _=>Calm.move rfl) ?_
  refine DG.pure 4 (by kernel_rfl) (by kernel_rfl) rfl rfl rfl rfl (lit_lt rfl) (fun _=>Calm.lenSl Tryz.underlying22 rfl) ?_
  refine DG.two 0 5 (by kernel_rfl) rfl ?_ rfl ?_
  ·refine s1_ ?_
   refine arun_nil ⟨fun h=>absurd h (by decide),?_⟩
   refine DG.only 5 (by kernel_rfl) rfl ?_
   refine ca_ rfl (hStr) ?_
   rintro _ S1 ⟨rfl,h1⟩
   rw [h1];clear h1 S1
   refine arun_nil ⟨fun h=>absurd h (by decide),?_⟩
   refine DG.only 6 (by kernel_rfl) rfl ?_
   refine ca_ rfl (((hput hq).frame f4).frame f8) ?_
   rintro _ S1 ⟨Sa,⟨M2,⟨v,rfl,hl2,hdk⟩,fc,hSa⟩,fd,h1⟩
   rw [h1,hSa];rw [hSa] at fd;clear h1 S1 hSa Sa
   obtain ⟨qe,de,qw,dw,rfl,_⟩:=id hdk
   obtain ⟨ge,_⟩:=fresh_set fd
   refine arun_nil ⟨fun h=>absurd h (by decide),?_⟩
   refine DG.pure 7 (by kernel_rfl) (by kernel_rfl) rfl rfl rfl rfl (lit_lt rfl) (fun _=>Calm.extract rfl rfl) ?_
   refine DG.pure 8 (by kernel_rfl) (by kernel_rfl) rfl rfl rfl rfl (lit_lt rfl) (fun _=>Calm.extract rfl rfl) ?_
   refine DG.only 9 (by kernel_rfl) rfl ?_
   refine s1_ ?_
   refine arun_nil ⟨fun h=>absurd h (by decide),?_⟩
   refine DG.pure 10 (by kernel_rfl) (by kernel_rfl) rfl rfl rfl rfl (lit_lt rfl) (fun _=>Calm.assign rfl) ?_
   refine DG.end_ (by kernel_rfl) ?_
   refine s1_ ?_
   refine su_ [(1,_),(2,_),(3,_),(4,_),(8,_),(10,_),(30,_),(31,_),(32,_),(33,_),(9,_)] ?_
   refine s1_ ?_
   refine ⟨_,M2,⟨_,_,_,rfl,.inr ⟨ty_agg_28,[_,_,_,_,_],ty_size_28,rds_,rfl⟩,⟨_,_,rfl,rfl,rfl⟩,rfl⟩,less_,?_⟩
   exact ⟨_,rfl,hl2,hdk⟩
  ·refine ca_ rfl (hStr) ?_
   rintro _ S1 ⟨rfl,h1⟩
   rw [h1];clear h1 S1
   refine arun_nil ⟨fun h=>absurd h (by decide),?_⟩
   refine DG.only 0 (by kernel_rfl) rfl ?_
   refine s1_ ?_
   refine arun_nil ⟨fun h=>absurd h (by decide),?_⟩
   refine DG.only 6 (by kernel_rfl) rfl ?_
   refine ca_ rfl (((hput hq).frame f4).frame f8) ?_
   rintro _ S1 ⟨Sa,⟨M2,⟨v,rfl,hl2,hdk⟩,fc,hSa⟩,fd,h1⟩
   rw [h1,hSa];rw [hSa] at fd;clear h1 S1 hSa Sa
   obtain ⟨qe,de,qw,dw,rfl,_⟩:=id hdk
   obtain ⟨ge,_⟩:=fresh_set fd
   refine arun_nil ⟨fun h=>absurd h (by decide),?_⟩
   refine DG.pure 7 (by kernel_rfl) (by kernel_rfl) rfl rfl rfl rfl (lit_lt rfl) (fun _=>Calm.extract rfl rfl) ?_
   refine DG.pure 8 (by kernel_rfl) (by kernel_rfl) rfl rfl rfl rfl (lit_lt rfl) (fun _=>Calm.extract rfl rfl) ?_
   refine DG.only 9 (by kernel_rfl) rfl ?_
   refine s1_ ?_
   refine arun_nil ⟨fun h=>absurd h (by decide),?_⟩
   refine DG.pure 10 (by kernel_rfl) (by kernel_rfl) rfl rfl rfl rfl (lit_lt rfl) (fun _=>Calm.assign rfl) ?_
   refine DG.end_ (by kernel_rfl) ?_
   refine s1_ ?_
   refine su_ [(1,_),(2,_),(3,_),(4,_),(8,_),(10,_),(30,_),(31,_),(32,_),(33,_),(9,_)] ?_
   refine s1_ ?_
   refine ⟨_,M2,⟨_,_,_,rfl,.inr ⟨ty_agg_28,[_,_,_,_,_],ty_size_28,rds_,rfl⟩,⟨_,_,rfl,rfl,rfl⟩,rfl⟩,less_,?_⟩
   exact ⟨_,rfl,hl2,hdk⟩
end Rec
end Go.Proofs.YthbadpcmdlfmdaaGreatDoor
namespace Go.Proofs.YthbadpcmdlfmdaaGreatDoor
open Go.RowKit
open Mv
set_option maxRecDepth 4000
namespace St
theorem len_list (s : ByteArray) : s.data.toList.length = s.size := Array.length_toList (xs := s.data)
theorem dw_nil {p : UInt8 → Bool} : ∀ {l : List UInt8}, l.dropWhile p = [] ↔ ∀ x ∈ l, p x = true
 | []=>⟨fun _ x hx=>(by cases hx),fun _=>rfl⟩
 | a :: l=>by
  by_cases ha:p a=true
  ·rw [List.dropWhile_cons_of_pos ha,dw_nil]
   exact ⟨fun h x hx=>(List.mem_cons.1 hx).elim (fun e=>e ▸ ha) (h x),fun h x hx=>h x (List.mem_cons_of_mem _ hx)⟩
  ·rw [List.dropWhile_cons_of_neg ha]
   exact ⟨fun h=>(by cases h),fun h=>absurd (h a (List.mem_cons_self ..)) ha⟩
/-- Without the bytes c at its end. -/
def rtrim (c : UInt8) (l : List UInt8) : List UInt8 := (l.reverse.dropWhile (· == c)).reverse
theorem rtrim_all (c : UInt8) (l : List UInt8) (h : ∀ x ∈ l, x = c) : rtrim c l = [] := by
 unfold rtrim
 rw [dw_nil.2 (fun x hx=>by simp [h x (List.mem_reverse.1 hx)])];rfl
theorem rtrim_app (c : UInt8) (l r : List UInt8) (h : ∀ x ∈ r, x = c) : rtrim c (l ++ r) = rtrim c l := by
 unfold rtrim
 rw [List.reverse_append]
 have:∀ (a b:List UInt8),(∀ x ∈ a,x=c)→(a ++ b).dropWhile (· == c)=b.dropWhile (· == c):=by
  intro a b ha
  induction a with
  | nil=>rfl
  | cons x a ih =>
   rw [List.cons_append,List.dropWhile_cons_of_pos (by simp [ha x (by simp)])]
   exact ih fun y hy=>ha y (by simp [hy])
 rw [this _ _ fun x hx=>h x (List.mem_reverse.1 hx)]
theorem rtrim_end (c x : UInt8) (l : List UInt8) (h : x ≠ c) : rtrim c (l ++ [x]) = l ++ [x] := by
 unfold rtrim
 rw [List.reverse_append,List.reverse_singleton,List.singleton_append,List.dropWhile_cons_of_neg (by simpa using h)]
 simp
theorem rtrim_take (c : UInt8) (l : List UInt8) (m : Nat) (hm : m ≤ l.length) (hd : ∀ x ∈ l.drop m, x = c) (he : m = 0 ∨ at8 l (m - 1) ≠ c) : rtrim c l = l.take m := by
 rw [← List.take_append_drop m l,rtrim_app c _ _ hd,List.take_append_drop]
 rcases he with rfl | he
 ·rfl
 ·by_cases h0:m=0
  ·subst h0;rfl
  ·obtain ⟨k,rfl⟩ : ∃ k,m=k+1:=⟨m-1,by omega⟩
   rw [List.take_succ_eq_append_getElem (by omega:k<l.length)]
   refine rtrim_end c _ _ fun e=>he ?_
   rw [Nat.add_sub_cancel,← e]
   simp [at8,List.getD_eq_getElem?_getD,List.getElem?_eq_getElem (by omega:k<l.length)]
theorem nb_inj {a b : UInt8} : nb a = nb b ↔ a = b := by
 unfold nb
 constructor
 ·intro h;exact UInt8.toNat_inj.1 (by omega)
 ·intro h;rw [h]
theorem trimRight (s : ByteArray) (c : UInt8) (S : Mem) (hs : s.size ≤ 9223372036854775807) :
  ACall Tryz.prog 99 #[.string s,.int .u8 (nb c)] S fun r S'=>r = .string (bs (rtrim c s.data.toList))∧S'=S:=by
 have hlen:=len_list s
 refine ACall.enter (rs:=[.tmp 4]) 23 [(0,.string s),(1,.int .u8 (nb c))] Tryz.func99 rfl rfl (Nat.le_of_ble_eq_true rfl) rfl ⟨rfl,rfl,trivial⟩ ?_
 iterate 7 refine s1_ ?_
 refine AWP.loop (X:=Nat) (fun m=>[(0,.string (bs (s.data.toList.take m))),(1,.int .u8 (nb c))]) (fun m=>S) (fun m=>m≤s.size ∧ ∀ x ∈ s.data.toList.drop m,x=c) (fun m=>m) (s.size) ⟨by rw [List.take_of_length_le (by omega),bs_of];rfl,rfl,trivial⟩ (Mem.Less.refl _) (⟨Nat.le_refl _,by rw [List.drop_of_length_le (by omega)];intro x hx;cases hx⟩) ?_
 rintro m ⟨hm,hd⟩
 (try dsimp only at *)
 have hz:(bs (s.data.toList.take m)).size=m:=by rw [size_bs,List.length_take];omega
 by_cases h0:m=0
 ·iterate 17 refine s1_ ?_
  refine su_ [(0,_),(1,_),(16,_)] ?_
  refine cF_ ?_
  iterate 11 refine s1_ ?_
  refine su_ [(0,_),(1,_),(16,_),(4,_)] ?_
  refine s1_ ?_
  refine ⟨_,S,⟨_,_,rfl,rfl,rfl⟩,less_,?_⟩
  exact ⟨by rw [rtrim_take c _ m (by omega) hd (.inl h0)];rfl,rfl⟩
 ·obtain ⟨k,rfl⟩ : ∃ k,m=k+1:=⟨m-1,by omega⟩
  have hat:at8 (bs (s.data.toList.take (k+1))).data.toList (((bs (s.data.toList.take (k+1))).size:Int)-1).toNat=at8 s.data.toList k:=by rw [hz,bs_data,show (((k+1:Nat):Int)-1).toNat=k from by omega];simp [at8,List.getD_eq_getElem?_getD,List.getElem?_take]
  have hdr:s.data.toList.drop k=at8 s.data.toList k :: s.data.toList.drop (k+1):=by rw [List.drop_eq_getElem_cons (by omega:k<s.data.toList.length)];simp [at8,List.getD_eq_getElem?_getD,List.getElem?_eq_getElem (by omega:k<s.data.toList.length)]
  by_cases hx:at8 s.data.toList k=c
  ·have hn:nb (at8 (bs (s.data.toList.take (k+1))).data.toList (((bs (s.data.toList.take (k+1))).size:Int)-1).toNat)=nb c:=by rw [hat,hx]
   iterate 17 refine s1_ ?_
   refine su_ [(0,_),(1,_),(16,_)] ?_
   refine cT_ ?_
   iterate 13 refine s1_ ?_
   refine ⟨k,?_,?_,?_,?_⟩
   all_goals (try dsimp only)
   ·exact ⟨by rw [show (bs (s.data.toList.take k))=(bs (s.data.toList.take (k+1))).extract 0 (((bs (s.data.toList.take (k+1))).size:Int)-1).toNat from by rw [hz,show (((k+1:Nat):Int)-1).toNat=k from by omega];apply str_ext;rw [Lib.extract_data,bs_data,bs_data];simp [List.take_take]];rfl,rfl,trivial⟩
   ·exact less_
   ·exact ⟨by omega,by rw [hdr];intro x hx';rcases List.mem_cons.1 hx' with e | e;exact e.trans hx;exact hd x e⟩
   ·omega
  ·have hn:nb (at8 (bs (s.data.toList.take (k+1))).data.toList (((bs (s.data.toList.take (k+1))).size:Int)-1).toNat)≠nb c:=by rw [hat];exact fun e=>hx (nb_inj.1 e)
   iterate 17 refine s1_ ?_
   refine su_ [(0,_),(1,_),(16,_)] ?_
   refine cF_ ?_
   iterate 11 refine s1_ ?_
   refine su_ [(0,_),(1,_),(16,_),(4,_)] ?_
   refine s1_ ?_
   refine ⟨_,S,⟨_,_,rfl,rfl,rfl⟩,less_,?_⟩
   exact ⟨by rw [rtrim_take c _ (k+1) (by omega) hd (.inr hx)];rfl,rfl⟩
theorem trimLeft (s : ByteArray) (c : UInt8) (S : Mem) (hs : s.size ≤ 9223372036854775807) :
  ACall Tryz.prog 98 #[.string s,.int .u8 (nb c)] S fun r S'=>r = .string (bs (s.data.toList.dropWhile (· == c)))∧S'=S:=by
 have hlen:=len_list s
 have hdw:∀ l:List UInt8,l.dropWhile (· == c) = [] ∨ ∃ x r,l.dropWhile (· == c)=x :: r∧x≠c:=fun l=>by
  induction l with
  | nil=>exact .inl rfl
  | cons x l ih =>
   by_cases h:x=c
   ·rw [List.dropWhile_cons_of_pos (by simp [h])];exact ih
   ·rw [List.dropWhile_cons_of_neg (by simpa using h)];exact .inr ⟨x,l,rfl,h⟩
 refine ACall.enter (rs:=[.tmp 4]) 17 [(0,.string s),(1,.int .u8 (nb c))] Tryz.func98 rfl rfl (Nat.le_of_ble_eq_true rfl) rfl ⟨rfl,rfl,trivial⟩ ?_
 iterate 7 refine s1_ ?_
 refine AWP.loop (X:=Nat) (fun m=>[(0,.string (bs (s.data.toList.drop m))),(1,.int .u8 (nb c))]) (fun m=>S) (fun m=>m≤s.size∧(s.data.toList.drop m).dropWhile (· == c)=s.data.toList.dropWhile (· == c)) (fun m=>s.size-m) (0) ⟨by rw [List.drop_zero,bs_of];rfl,rfl,trivial⟩ (Mem.Less.refl _) (⟨Nat.zero_le _,rfl⟩) ?_
 rintro m ⟨hm,hd⟩
 (try dsimp only at *)
 have hz:(bs (s.data.toList.drop m)).size=s.size-m:=by rw [size_bs,List.length_drop];omega
 by_cases h0:m=s.size
 ·iterate 14 refine s1_ ?_
  refine su_ [(0,_),(1,_),(13,_)] ?_
  refine cF_ ?_
  iterate 11 refine s1_ ?_
  refine su_ [(0,_),(1,_),(13,_),(4,_)] ?_
  refine s1_ ?_
  refine ⟨_,S,⟨_,_,rfl,rfl,rfl⟩,less_,?_⟩
  exact ⟨by rw [← hd,List.drop_of_length_le (by omega)];rfl,rfl⟩
 ·have hdr:s.data.toList.drop m=at8 s.data.toList m :: s.data.toList.drop (m+1):=by rw [List.drop_eq_getElem_cons (by omega:m<s.data.toList.length)];simp [at8,List.getD_eq_getElem?_getD,List.getElem?_eq_getElem (by omega:m<s.data.toList.length)]
  have hat:at8 (bs (s.data.toList.drop m)).data.toList (0:Int).toNat=at8 s.data.toList m:=by rw [bs_data,hdr];rfl
  by_cases hx:at8 s.data.toList m=c
  ·have hn:nb (at8 (bs (s.data.toList.drop m)).data.toList (0:Int).toNat)=nb c:=by rw [hat,hx]
   iterate 14 refine s1_ ?_
   refine su_ [(0,_),(1,_),(13,_)] ?_
   refine cT_ ?_
   iterate 10 refine s1_ ?_
   refine ⟨m+1,?_,?_,?_,?_⟩
   all_goals (try dsimp only)
   ·exact ⟨by rw [show (bs (s.data.toList.drop (m+1)))=(bs (s.data.toList.drop m)).extract 1 (bs (s.data.toList.drop m)).size from by apply str_ext;rw [Lib.extract_data,bs_data,bs_data,hz,hdr];simp;rw [List.take_of_length_le (by rw [List.length_drop];omega)]];rfl,rfl,trivial⟩
   ·exact less_
   ·exact ⟨by omega,by rw [← hd,hdr,List.dropWhile_cons_of_pos (by simp [hx])]⟩
   ·omega
  ·have hn:nb (at8 (bs (s.data.toList.drop m)).data.toList (0:Int).toNat)≠nb c:=by rw [hat];exact fun e=>hx (nb_inj.1 e)
   iterate 14 refine s1_ ?_
   refine su_ [(0,_),(1,_),(13,_)] ?_
   refine cF_ ?_
   iterate 11 refine s1_ ?_
   refine su_ [(0,_),(1,_),(13,_),(4,_)] ?_
   refine s1_ ?_
   refine ⟨_,S,⟨_,_,rfl,rfl,rfl⟩,less_,?_⟩
   exact ⟨by rw [← hd,hdr,List.dropWhile_cons_of_neg (by simpa using hx)];rfl,rfl⟩
theorem trim0 (s : ByteArray) (S : Mem) (hs : s.size ≤ 9223372036854775807) :
  ACall Tryz.prog 77 #[.string s,.string ⟨#[0]⟩] S fun r S'=>r = .string (bs ((rtrim 0 s.data.toList).dropWhile (· == 0)))∧S'=S:=by
 have z1:(⟨#[0]⟩ : ByteArray).size=1:=rfl
 have hne:(⟨#[0]⟩ : ByteArray)≠ByteArray.empty:=fun e=>by have:=congrArg ByteArray.size e;rw [z1] at this;exact absurd this (by decide)
 have hat:nb (at8 (⟨#[0]⟩ : ByteArray).data.toList (0:Int).toNat)=0:=rfl
 by_cases h0:s=ByteArray.empty
 ·subst h0
  refine ACall.enter (rs:=[.tmp 4]) 43 [(0,.string ByteArray.empty),(1,.string ⟨#[0]⟩)] Tryz.func77 rfl rfl (Nat.le_of_ble_eq_true rfl) rfl ⟨rfl,rfl,trivial⟩ ?_
  iterate 9 refine s1_ ?_
  refine rC (Calm.bin rfl rfl (bin_bool (bin_str_eql _ _) (decide_eq_true rfl))) ?_
  iterate 6 refine s1_ ?_
  refine su_ [(0,_),(1,_),(4,_),(12,_)] ?_
  refine cT_ ?_
  iterate 6 refine s1_ ?_
  refine su_ [(0,_),(1,_),(4,_),(12,_)] ?_
  iterate 2 refine s1_ ?_
  refine ⟨_,S,⟨_,_,rfl,rfl,rfl⟩,less_,?_⟩
  exact ⟨rfl,rfl⟩
 ·have hr:(bs (rtrim 0 s.data.toList)).size≤9223372036854775807:=by
   rw [size_bs]
   unfold rtrim
   rw [List.length_reverse]
   have h1:=(List.dropWhile_sublist (· == (0:UInt8)) (l:=s.data.toList.reverse)).length_le
   rw [List.length_reverse] at h1
   have:=len_list s
   omega
  have hl:=trimLeft (bs (rtrim 0 s.data.toList)) 0 S hr
  rw [bs_data] at hl
  refine ACall.enter (rs:=[.tmp 4]) 43 [(0,.string s),(1,.string ⟨#[0]⟩)] Tryz.func77 rfl rfl (Nat.le_of_ble_eq_true rfl) rfl ⟨rfl,rfl,trivial⟩ ?_
  iterate 9 refine s1_ ?_
  refine rC (Calm.bin rfl rfl (bin_bool (bin_str_eql _ _) (decide_eq_false h0))) ?_
  iterate 2 refine s1_ ?_
  first|refine k_q 9 ?_|refine rG 9 (Calm.bin rfl rfl (bin_bool (bin_str_eql _ _) (decide_eq_false hne))) ?_
  iterate 3 refine s1_ ?_
  refine su_ [(0,_),(1,_),(4,_),(12,_)] ?_
  refine cF_ ?_
  iterate 15 refine s1_ ?_
  refine su_ [(0,_),(1,_),(4,_),(12,_),(21,_)] ?_
  refine cT_ ?_
  refine s1_ ?_
  refine AWP.draw [(0,true),(1,true),(2,true),(4,true),(5,true),(3,false),(6,false),(7,true)] [] mixed (by kernel_rfl) ?_
  iterate 5 refine s1_ ?_
  refine draw_only rfl ?_
  refine ca_ rfl (trimRight s 0 S hs) ?_
  rintro _ S1 ⟨rfl,h1⟩
  rw [h1];clear h1 S1
  refine arun_nil ⟨fun _=>less_,?_⟩
  refine draw_only rfl ?_
  refine ca_ rfl (hl) ?_
  rintro _ S1 ⟨rfl,h1⟩
  rw [h1];clear h1 S1
  refine arun_nil ⟨fun _=>less_,?_⟩
  iterate 3 refine s1_ ?_
  refine su_ [(0,_),(1,_),(4,_),(12,_),(21,_)] ?_
  iterate 2 refine s1_ ?_
  refine ⟨_,S,⟨_,_,rfl,rfl,rfl⟩,less_,?_⟩
  exact ⟨rfl,rfl⟩
/-- Whether all bytes are 0. -/
theorem trim_nil (l : List UInt8) : ((rtrim 0 l).dropWhile (· == 0) = []) ↔ (l.all fun b => b == 0) = true := by
 constructor
 ·intro h
  rw [List.all_eq_true]
  intro x hx
  have h1:∀ y ∈ rtrim 0 l,(y == (0:UInt8))=true:=dw_nil.1 h
  have h2:∀ (r:List UInt8),(∀ y ∈ (r.dropWhile (· == (0:UInt8))),(y == (0:UInt8))=true) → ∀ y ∈ r,(y == (0:UInt8))=true:=by
   intro r
   induction r with
   | nil=>intro _ y hy;cases hy
   | cons a r ih =>
    by_cases ha:(a == (0:UInt8))=true
    ·rw [List.dropWhile_cons_of_pos (p:=fun x=>x == (0:UInt8)) ha]
     intro hh y hy
     rcases List.mem_cons.1 hy with rfl | hy
     ·exact ha
     ·exact ih hh y hy
    ·rw [List.dropWhile_cons_of_neg (p:=fun x=>x == (0:UInt8)) ha]
     exact fun hh=>hh
  exact h2 l.reverse (fun y hy=>h1 y (by unfold rtrim;exact List.mem_reverse.2 hy)) x (List.mem_reverse.2 hx)
 ·intro h
  rw [rtrim_all 0 l (fun x hx=>by have:=List.all_eq_true.1 h x hx;simpa using this)]
  rfl
theorem hasPrefix (s p : ByteArray) (S : Mem) (hs : s.size ≤ 9223372036854775807) (hp : p.size ≤ 9223372036854775807) :
  ACall Tryz.prog 111 #[.string s,.string p] S fun r S'=>r = .bool (decide (s.data.toList.take p.size=p.data.toList))∧S'=S:=by
 have hl:=len_list s
 have hlp:=len_list p
 by_cases h:p.size≤s.size
 ·have e:decide (s.extract 0 p.size=p)=decide (s.data.toList.take p.size=p.data.toList):=by
   rw [decide_eq_decide]
   constructor
   ·intro h;rw [← congrArg (fun x=>x.data.toList) h];simp [Lib.extract_data]
   ·intro h;apply str_ext;rw [← h];simp [Lib.extract_data]
  refine ACall.enter (rs:=[.tmp 4]) 18 [(0,.string s),(1,.string p)] Tryz.func111 rfl rfl (Nat.le_of_ble_eq_true rfl) rfl ⟨rfl,rfl,trivial⟩ ?_
  iterate 23 refine s1_ ?_
  refine su_ [(0,_),(1,_),(4,_)] ?_
  refine s1_ ?_
  refine ⟨_,S,⟨_,_,rfl,rfl,rfl⟩,less_,?_⟩
  exact ⟨by rw [← e];rfl,rfl⟩
 ·have e:decide (s.data.toList.take p.size=p.data.toList)=false:=decide_eq_false fun h=>by
   have:=congrArg List.length h
   rw [List.length_take] at this;omega
  rw [e]
  refine ACall.enter (rs:=[.tmp 4]) 18 [(0,.string s),(1,.string p)] Tryz.func111 rfl rfl (Nat.le_of_ble_eq_true rfl) rfl ⟨rfl,rfl,trivial⟩ ?_
  iterate 23 refine s1_ ?_
  refine su_ [(0,_),(1,_),(4,_)] ?_
  refine s1_ ?_
  refine ⟨_,S,⟨_,_,rfl,rfl,rfl⟩,less_,?_⟩
  exact ⟨rfl,rfl⟩
theorem HasPrefix (s p : ByteArray) (S : Mem) (hs : s.size ≤ 9223372036854775807) (hp : p.size ≤ 9223372036854775807) :
  ACall Tryz.prog 91 #[.string s,.string p] S fun r S'=>r = .bool (decide (s.data.toList.take p.size=p.data.toList))∧S'=S:=by
 refine ACall.enter (rs:=[.tmp 4]) 8 [(0,.string s),(1,.string p)] Tryz.func91 rfl rfl (Nat.le_of_ble_eq_true rfl) rfl ⟨rfl,rfl,trivial⟩ ?_
 iterate 9 refine s1_ ?_
 refine ca_ rfl (hasPrefix s p _ hs hp) ?_
 rintro _ S1 ⟨rfl,h1⟩
 rw [h1];clear h1 S1
 iterate 3 refine s1_ ?_
 refine su_ [(0,_),(1,_),(4,_)] ?_
 refine s1_ ?_
 refine ⟨_,S,⟨_,_,rfl,rfl,rfl⟩,less_,?_⟩
 exact ⟨rfl,rfl⟩
end St
end Go.Proofs.YthbadpcmdlfmdaaGreatDoor
namespace Go.Proofs.YthbadpcmdlfmdaaGreatDoor
open Go.RowKit
open Mv Disk Num
set_option maxRecDepth 4000
namespace Rec
theorem readD_size {d : D} (hR : Right d) {s : ByteArray} {k : Int} (h : (readD d s k).2 = 0) : (placeD d s k).2 = 0 ∧ (readD d s k).1.size = 64 := by
 have hp:(placeD d s k).2=0:=by
  by_cases q:(placeD d s k).2=0
  ·exact q
  ·rw [readD_see,if_pos q] at h;exact absurd h q
 refine ⟨hp,?_⟩
 rw [readD_see,if_neg (by simpa using hp)]
 obtain ⟨h1,h2,h3⟩:=place0 hp
 have hx:=exOf_has hR.ex.asc h1
 have he:=(eok_sec (hR.ex.ok _ hx.1)).2
 unfold seen
 rcases seeW_mem allK d.waits s k ((exOf d.ext s).2.extract (64*k.toNat) (64*k.toNat+64)) d.waits.length with e | ⟨w,hw,_,_,e⟩
 ·rw [e,ByteArray.size_extract];omega
 ·rw [e]
  obtain ⟨_,_,_,_,_,h64⟩:=hR.wr w hw
  exact h64
noncomputable def headD (d : D) (s : ByteArray) : Nat × Nat × Int :=
  if (readD d s 0).2 ≠ 0 then (0, 0, (readD d s 0).2) else
  if (formP (readD d s 0).1).2.2 ≠ 0 then (0, 0, (formP (readD d s 0).1).2.2) else
  if (needP (formP (readD d s 0).1).1 (formP (readD d s 0).1).2.1).2 ≠ 0 ∨ (sec (exOf d.ext s) : Int) ≠ (needN (formP (readD d s 0).1).1 (formP (readD d s 0).1).2.1 : Nat) then (0, 0, 2) else
  formP (readD d s 0).1
theorem readO_open {d : D} (h : (openD d).2 = 0) (s : ByteArray) (k : Int) : readO d s k = readD d s k := by unfold readO; rw [if_neg (by omega)]
theorem headP_open {d : D} (h : (openD d).2 = 0) (s : ByteArray) : headP d s = headD d s := by
 unfold headP headD
 rw [readO_open h]
 by_cases q:(readD d s 0).2≠0
 ·rw [if_pos q,if_pos q]
 rw [if_neg q,if_neg q]
 have hh:has d.ext s=true:=by
  have q:(readD d s 0).2=0:=by omega
  by_cases p:(placeD d s 0).2=0
  ·exact (place0 p).1
  ·rw [readD_see,if_pos p] at q;exact absurd q p
 have hs:(sectorsD d s).1=((sec (exOf d.ext s):Nat):Int):=by unfold sectorsD;rw [if_neg (by omega),if_pos hh]
 rw [hs]
theorem headP_shut {d : D} (h : (openD d).2 ≠ 0) (s : ByteArray) : headP d s = (0, 0, (openD d).2) := by
 have e:(readO d s 0).2=(openD d).2:=by unfold readO;rw [if_pos h]
 unfold headP
 rw [if_pos (by rw [e];exact h),e]
theorem rec_zeros (s : ByteArray) (S : Mem) (hs : s.size ≤ 9223372036854775807) : ACall Tryz.prog 51 #[.string s] S fun r S' => r = .bool (zeroL s.data.toList) ∧ S' = S := by
 have e:decide (bs ((St.rtrim 0 s.data.toList).dropWhile (· == 0))=ByteArray.empty)=zeroL s.data.toList:=by
  rw [Bool.eq_iff_iff,decide_eq_true_eq]
  unfold zeroL
  rw [← St.trim_nil]
  constructor
  ·intro h
   have:=congrArg (fun x=>x.data.toList) h
   rw [bs_data] at this
   exact this
  ·intro h;rw [h];rfl
 refine ACall.enter (rs:=[.tmp 2]) 6 [(0,.string s)] Tryz.func51 rfl rfl (Nat.le_of_ble_eq_true rfl) rfl ⟨rfl,trivial⟩ ?_
 iterate 8 refine s1_ ?_
 refine ca_ rfl (St.trim0 s _ hs) ?_
 rintro _ S1 ⟨rfl,h1⟩
 rw [h1];clear h1 S1
 iterate 4 refine s1_ ?_
 refine su_ [(0,_),(2,_)] ?_
 refine s1_ ?_
 refine ⟨_,S,⟨_,_,rfl,rfl,rfl⟩,less_,?_⟩
 exact ⟨by rw [← e];rfl,rfl⟩
def formV (p : Nat × Nat × Int) : Value := .tuple #[.int .i64 (p.1 : Nat), .int .u64 (p.2.1 : Nat), .int .i64 p.2.2]
theorem at8_getD (l : List UInt8) (j : Nat) : at8 l j = l.getD j 0 := rfl
set_option maxHeartbeats 1000000 in
theorem rec_form (s : ByteArray) (S : Mem) (hs : s.size = 64) : ACall Tryz.prog 73 #[.string s] S fun r S' => r = formV (formP s) ∧ S' = S := by
 have hpre:=fun M=>St.HasPrefix s ⟨#[87,82]⟩ M (by omega) (by show 2≤_;decide)
 have hl2:(⟨#[87,82]⟩ : ByteArray).data.toList = [87,82]:=rfl
 rw [hl2] at hpre
 have hsl:=St.len_list s
 unfold formV formP
 by_cases h1:s.data.toList.take 2 = [87,82]
 ·rw [show s.data.toList.take (⟨#[87,82]⟩ : ByteArray).size=s.data.toList.take 2 from rfl,decide_eq_true h1] at hpre
  by_cases h2:8<(s.data.toList.getD 2 0).toNat
  ·rw [if_pos (.inr (.inl h2))]
   have hn:(8:Int)<nb (at8 s.data.toList (2:Int).toNat):=by rw [at8_getD];unfold nb;exact Int.ofNat_lt.2 h2
   refine ACall.enter (rs:=[.tmp 2,.tmp 3,.tmp 4]) 36 [(0,.string s)] Tryz.func73 rfl rfl (Nat.le_of_ble_eq_true rfl) rfl ⟨rfl,trivial⟩ ?_
   iterate 11 refine s1_ ?_
   refine ca_ rfl (hpre _) ?_
   rintro _ S1 ⟨rfl,h1⟩
   rw [h1];clear h1 S1
   iterate 3 refine s1_ ?_
   first|refine k_q 10 ?_|refine rG 10 (Calm.indexStr (strT_spec ty_str_9) rfl rfl (by omega) (by omega)) ?_
   iterate 10 refine s1_ ?_
   refine su_ [(0,_),(2,_),(3,_),(4,_),(20,_)] ?_
   refine cT_ ?_
   iterate 9 refine s1_ ?_
   refine ⟨_,S,⟨_,_,rfl,⟨_,_,rfl,⟨_,_,rfl,rfl,rfl⟩,rfl⟩,rfl⟩,less_,?_⟩
   exact ⟨rfl,rfl⟩
  ·have hn : ¬ (8:Int)<nb (at8 s.data.toList (2:Int).toNat):=by rw [at8_getD];unfold nb;exact fun h=>h2 (Int.ofNat_lt.1 h)
   have hn0:=nb_nonneg (at8 s.data.toList (2:Int).toNat)
   have hex:∀ n:Nat,n≤64→(s.extract n s.size).data.toList=s.data.toList.drop n:=fun n hn=>by simp [Lib.extract_data];rw [List.take_of_length_le (by rw [List.length_drop];omega)]
   have hz:=fun M=>rec_zeros (s.extract 12 s.size) M (by rw [ByteArray.size_extract];omega)
   rw [hex 12 (by decide)] at hz
   by_cases h3:zeroL (s.data.toList.drop 12)=false
   ·rw [if_pos (.inr (.inr h3))]
    rw [h3] at hz
    refine ACall.enter (rs:=[.tmp 2,.tmp 3,.tmp 4]) 36 [(0,.string s)] Tryz.func73 rfl rfl (Nat.le_of_ble_eq_true rfl) rfl ⟨rfl,trivial⟩ ?_
    iterate 11 refine s1_ ?_
    refine ca_ rfl (hpre _) ?_
    rintro _ S1 ⟨rfl,h1⟩
    rw [h1];clear h1 S1
    iterate 3 refine s1_ ?_
    first|refine k_q 10 ?_|refine rG 10 (Calm.indexStr (strT_spec ty_str_9) rfl rfl (by omega) (by omega)) ?_
    iterate 5 refine s1_ ?_
    refine ARun.callG 8 false 15 rfl (lit_lt rfl) rfl (lit_lt rfl) go_51 rfl (hz _) ?_
    rintro _ S1 ⟨rfl,h1⟩
    rw [h1];clear h1 S1
    iterate 4 refine s1_ ?_
    refine su_ [(0,_),(2,_),(3,_),(4,_),(20,_)] ?_
    refine cT_ ?_
    iterate 9 refine s1_ ?_
    refine ⟨_,S,⟨_,_,rfl,⟨_,_,rfl,⟨_,_,rfl,rfl,rfl⟩,rfl⟩,rfl⟩,less_,?_⟩
    exact ⟨rfl,rfl⟩
   ·rw [if_neg (fun h=>by rcases h with h | h | h;exact h h1;exact h2 h;exact h3 h)]
    rw [Bool.not_eq_false] at h3
    rw [h3] at hz
    have ho:∀ M,ACall Tryz.prog 96 #[.string (s.extract 0 12)] M fun r S'=>r = .tuple #[.string (openS (s.extract 0 12)).1,.int .i64 (openS (s.extract 0 12)).2]∧S'=M:=fun M=>ACall.of_calls fun w=>crc_Open _ (by rw [ByteArray.size_extract,hs];decide) w
    have hof:=fun M=>numV_Of (s.extract 3 s.size) M (by rw [ByteArray.size_extract];omega) (by rw [ByteArray.size_extract];omega)
    rw [hex 3 (by decide)] at hof
    by_cases h4:(openS (s.extract 0 12)).2=0
    ·rw [if_neg (by omega)]
     rw [h4] at ho
     refine ACall.enter (rs:=[.tmp 2,.tmp 3,.tmp 4]) 36 [(0,.string s)] Tryz.func73 rfl rfl (Nat.le_of_ble_eq_true rfl) rfl ⟨rfl,trivial⟩ ?_
     iterate 11 refine s1_ ?_
     refine ca_ rfl (hpre _) ?_
     rintro _ S1 ⟨rfl,h1⟩
     rw [h1];clear h1 S1
     iterate 3 refine s1_ ?_
     first|refine k_q 10 ?_|refine rG 10 (Calm.indexStr (strT_spec ty_str_9) rfl rfl (by omega) (by omega)) ?_
     iterate 5 refine s1_ ?_
     refine ARun.callG 8 false 15 rfl (lit_lt rfl) rfl (lit_lt rfl) go_51 rfl (hz _) ?_
     rintro _ S1 ⟨rfl,h1⟩
     rw [h1];clear h1 S1
     iterate 4 refine s1_ ?_
     refine su_ [(0,_),(2,_),(3,_),(4,_),(20,_)] ?_
     refine cF_ ?_
     iterate 7 refine s1_ ?_
     refine ca_ rfl (ho _) ?_
     rintro _ S1 ⟨rfl,h1⟩
     rw [h1];clear h1 S1
     iterate 7 refine s1_ ?_
     refine su_ [(0,_),(2,_),(3,_),(4,_),(20,_),(6,_)] ?_
     iterate 6 refine s1_ ?_
     refine su_ [(0,_),(2,_),(3,_),(4,_),(20,_),(6,_),(28,_)] ?_
     refine cF_ ?_
     iterate 3 refine s1_ ?_
     refine AWP.draw [(0,true),(1,true),(2,true),(3,true),(4,true),(5,false),(6,true),(7,true),(8,true)] [] mixed (by kernel_rfl) ?_
     iterate 5 refine s1_ ?_
     refine draw_only rfl ?_
     refine ca_ rfl (hof _) ?_
     rintro _ S1 ⟨rfl,h1⟩
     rw [h1];clear h1 S1
     refine arun_nil ⟨fun _=>less_,?_⟩
     iterate 5 refine s1_ ?_
     refine su_ [(0,_),(2,_),(3,_),(4,_),(20,_),(6,_),(28,_)] ?_
     refine s1_ ?_
     refine ⟨_,S,⟨_,_,rfl,⟨_,_,rfl,⟨_,_,rfl,rfl,rfl⟩,rfl⟩,rfl⟩,less_,?_⟩
     exact ⟨rfl,rfl⟩
    ·rw [if_pos h4]
     refine ACall.enter (rs:=[.tmp 2,.tmp 3,.tmp 4]) 36 [(0,.string s)] Tryz.func73 rfl rfl (Nat.le_of_ble_eq_true rfl) rfl ⟨rfl,trivial⟩ ?_
     iterate 11 refine s1_ ?_
     refine ca_ rfl (hpre _) ?_
     rintro _ S1 ⟨rfl,h1⟩
     rw [h1];clear h1 S1
     iterate 3 refine s1_ ?_
     first|refine k_q 10 ?_|refine rG 10 (Calm.indexStr (strT_spec ty_str_9) rfl rfl (by omega) (by omega)) ?_
     iterate 5 refine s1_ ?_
     refine ARun.callG 8 false 15 rfl (lit_lt rfl) rfl (lit_lt rfl) go_51 rfl (hz _) ?_
     rintro _ S1 ⟨rfl,h1⟩
     rw [h1];clear h1 S1
     iterate 4 refine s1_ ?_
     refine su_ [(0,_),(2,_),(3,_),(4,_),(20,_)] ?_
     refine cF_ ?_
     iterate 7 refine s1_ ?_
     refine ca_ rfl (ho _) ?_
     rintro _ S1 ⟨rfl,h1⟩
     rw [h1];clear h1 S1
     iterate 7 refine s1_ ?_
     refine su_ [(0,_),(2,_),(3,_),(4,_),(20,_),(6,_)] ?_
     iterate 6 refine s1_ ?_
     refine su_ [(0,_),(2,_),(3,_),(4,_),(20,_),(6,_),(28,_)] ?_
     refine cT_ ?_
     iterate 8 refine s1_ ?_
     refine su_ [(0,_),(2,_),(3,_),(4,_),(20,_),(6,_),(28,_)] ?_
     iterate 2 refine s1_ ?_
     refine ⟨_,S,⟨_,_,rfl,⟨_,_,rfl,⟨_,_,rfl,rfl,rfl⟩,rfl⟩,rfl⟩,less_,?_⟩
     exact ⟨rfl,rfl⟩
 ·rw [if_pos (.inl h1)]
  rw [show s.data.toList.take (⟨#[87,82]⟩ : ByteArray).size=s.data.toList.take 2 from rfl,decide_eq_false h1] at hpre
  refine ACall.enter (rs:=[.tmp 2,.tmp 3,.tmp 4]) 36 [(0,.string s)] Tryz.func73 rfl rfl (Nat.le_of_ble_eq_true rfl) rfl ⟨rfl,trivial⟩ ?_
  iterate 11 refine s1_ ?_
  refine ca_ rfl (hpre _) ?_
  rintro _ S1 ⟨rfl,h1⟩
  rw [h1];clear h1 S1
  iterate 14 refine s1_ ?_
  refine su_ [(0,_),(2,_),(3,_),(4,_),(20,_)] ?_
  refine cT_ ?_
  iterate 9 refine s1_ ?_
  refine ⟨_,S,⟨_,_,rfl,⟨_,_,rfl,⟨_,_,rfl,rfl,rfl⟩,rfl⟩,rfl⟩,less_,?_⟩
  exact ⟨rfl,rfl⟩
theorem knows_snd {S : Mem} {b o : Nat} {u v : Value} (h : S.Knows ⟨b, o, none⟩ [u, v]) : S.Knows ⟨b, o + 1, none⟩ [v] := fun w hv j x hj => by
 cases j with
 | zero =>
  have:=h w hv 1 v rfl
  simp only [List.getElem?_cons_zero,Option.some.injEq] at hj
  subst hj
  rw [addr_add] at this ⊢
  exact this
 | succ j=>simp at hj
theorem rec_name (s n : ByteArray) (x : ByteArray) (kb : Nat) (S : Mem) (hk : S.Knows ⟨kb, 0, none⟩ [.string s]) :
  ACall Tryz.prog 75 #[.agg #[.string n,.string x],.pointer (some ⟨kb,0,none⟩)] S fun r S'=>r = .bool (decide (n=s))∧S'=S:=by
 refine ACall.enter (rs:=[.tmp 3]) 8 [(0,.agg #[.string n,.string x]),(1,.pointer (some ⟨kb,0,none⟩))] Tryz.func75 rfl rfl (Nat.le_of_ble_eq_true rfl) rfl ⟨rfl,rfl,trivial⟩ ?_
 iterate 2 refine s1_ ?_
 refine ARun.boxA (cs:=[_,_]) (lit_lt rfl) rfl ?_
 intro b2 f2
 have g2:=f2
 repeat ((with_reducible replace g2:=fresh_set g2);obtain ⟨g2,_⟩:=g2)
 refine nl_ ?_
 iterate 12 refine s1_ ?_
 refine su_ [(0,_),(1,_),(2,_),(3,_)] ?_
 refine s1_ ?_
 refine ⟨_,S,⟨_,_,rfl,rfl,rfl⟩,less_,?_⟩
 exact ⟨rfl,rfl⟩
theorem rec_index (v : Value) (l : List Ext) (s : ByteArray) (kb : Nat) (S : Mem) (hl : Sl 2 extF S v l) (hk : S.Knows ⟨kb, 0, none⟩ [.string s]) (x : Ext) (hx : x ∈ l) (hxs : x.1 = s) (ha : Asc l) :
  ACall Tryz.prog 74 #[v,.func (.func 75) #[] #[.pointer (some ⟨kb,0,none⟩)]] S fun r S'=>(∃ j,∃ h:j<l.length,r = .int .i64 (j:Int)∧l[j]=x)∧S'=S:=by
 obtain ⟨a,cap,rfl,h1,h2,h3⟩:=id hl
 refine ACall.enter (rs:=[.tmp 4]) 19 [(0,.slice a l.length cap),(1,.func (.func 75) #[] #[.pointer (some ⟨kb,0,none⟩)])] Tryz.func74 rfl rfl (Nat.le_of_ble_eq_true rfl) rfl ⟨rfl,rfl,trivial⟩ ?_
 iterate 13 refine s1_ ?_
 refine su_ [(0,_),(1,_),(4,_),(7,_),(8,_)] ?_
 refine s1_ ?_
 refine AWP.loop (X:=Nat) (fun i=>[(0,.slice a l.length cap),(1,.func (.func 75) #[] #[.pointer (some ⟨kb,0,none⟩)]),(7,.int .i64 l.length),(8,.int .i64 i)]) (fun i=>S) (fun i=>i≤l.length ∧ ∀ j (h:j<l.length),j<i→l[j].1≠s) (fun i=>l.length-i) (0) ⟨rfl,rfl,rfl,rfl,trivial⟩ (Mem.Less.refl _) (⟨Nat.zero_le _,fun j _ h=>absurd h (Nat.not_lt_zero _)⟩) ?_
 rintro i ⟨hi,hall⟩
 (try dsimp only at *)
 obtain ⟨j0,hj0,e0⟩:=List.getElem_of_mem hx
 have hc:i<l.length:=by rcases Nat.lt_or_ge i l.length with h | h;exact h;exact absurd (by rw [e0];exact hxs) (hall j0 hj0 (by omega))
 iterate 6 refine s1_ ?_
 refine cT_ ?_
 obtain ⟨b,off,rfl,hkk⟩:=h3.resolve_left (fun e=>by subst e;simp at hc)
 have hki:=hkk i hc
 unfold extF at hki
 iterate 10 refine s1_ ?_
 refine su_ [(0,_),(1,_),(7,_),(8,_),(9,_),(5,_)] ?_
 iterate 7 refine s1_ ?_
 refine ARun.callV (lit_lt rfl) go_75 rfl rfl (rec_name s l[i].1 l[i].2 kb _ hk) ?_
 rintro _ S1 ⟨rfl,h1⟩
 rw [h1];clear h1 S1
 iterate 2 refine s1_ ?_
 refine su_ [(0,_),(1,_),(7,_),(8,_),(9,_),(5,_),(16,_)] ?_
 refine AWP.condB rfl (fun hb=>?_) (fun hb=>?_)
 ·have hb:=of_decide_eq_true hb
  iterate 6 refine s1_ ?_
  refine su_ [(0,_),(1,_),(7,_),(8,_),(9,_),(5,_),(16,_),(4,_)] ?_
  iterate 6 refine s1_ ?_
  refine ⟨_,S,⟨_,_,rfl,rfl,rfl⟩,less_,?_⟩
  exact ⟨⟨i,hc,rfl,by have e1:=exOf_mem ha (List.getElem_mem hc);have e2:=exOf_mem ha hx;rw [← e1,← e2,hb,hxs]⟩,rfl⟩
 ·have hb:=of_decide_eq_false hb
  iterate 8 refine s1_ ?_
  refine ⟨i+1,?_,?_,?_,?_⟩
  all_goals (try dsimp only)
  ·exact ⟨rfl,rfl,rfl,rfl,trivial⟩
  ·exact less_
  ·exact ⟨hc,fun j h hj=>by rcases Nat.lt_or_ge j i with h' | h';exact hall j h h';obtain rfl:j=i:=(by omega);exact hb⟩
  ·omega
end Rec
end Go.Proofs.YthbadpcmdlfmdaaGreatDoor
namespace Go.Proofs.YthbadpcmdlfmdaaGreatDoor
open Go.RowKit
open Mv Num
set_option maxRecDepth 4000
namespace Num
end Num
namespace Num
theorem bs_drop (s : ByteArray) (i : Nat) : s.extract i s.size = bs (s.data.toList.drop i) := by
 apply str_ext;rw [data_extract,bs_data,List.take_of_length_le (by rw [size_data];exact Nat.le_refl _)]
end Num
end Go.Proofs.YthbadpcmdlfmdaaGreatDoor
namespace Go.Proofs.YthbadpcmdlfmdaaGreatDoor
open Go.RowKit
open Mv Num
set_option maxRecDepth 4000
/-- What a split returns: rows that are known, and why. -/
def SplitR (s : ByteArray) (w : Int) (S : Mem) (r : Value) (S' : Mem) : Prop := ∃ v, r = .tuple #[v, .int .i64 (splitE s w)] ∧ S.Less S' ∧ SlOf RowR S' v (splitL s w)
theorem splitE_1 (s : ByteArray) (w : Int) (h : w < 1 ∨ 8 < w) : splitE s w = 1 ∧ splitL s w = [] := by
 have:splitE s w=1:=by unfold splitE;rw [if_pos h]
 exact ⟨this,by unfold splitL;rw [this];rfl⟩
theorem splitE_5 (s : ByteArray) (w : Int) (h : ¬ (w < 1 ∨ 8 < w)) (h2 : s.size % (5 * w.toNat) ≠ 0) : splitE s w = 5 ∧ splitL s w = [] := by
 have:splitE s w=5:=by unfold splitE;rw [if_neg h,if_pos h2]
 exact ⟨this,by unfold splitL;rw [this];rfl⟩
theorem splitE_0 (s : ByteArray) (w : Int) (h : ¬ (w < 1 ∨ 8 < w)) (h2 : s.size % (5 * w.toNat) = 0) : splitE s w = 0 ∧ splitL s w = rowsTo s.data.toList w.toNat (s.size / (5 * w.toNat)) := by
 have:splitE s w=0:=by unfold splitE;rw [if_neg h,if_neg (by omega)]
 exact ⟨this,by unfold splitL;rw [this,if_pos rfl,rowsOf,size_data]⟩
/-- A row that is being read: its numbers, and zeros behind them. -/
def rowZ (l : List UInt8) (w p j : Nat) : List Value := (nrow l j p).map (fun n : Nat => Value.int .u64 (n : Int)) ++ List.replicate (w - j) (.int .u64 0)
theorem nrow_length (l : List UInt8) (w p : Nat) : (nrow l w p).length = w := by simp [nrow]
theorem nrow_succ (l : List UInt8) (w p : Nat) : nrow l (w + 1) p = nrow l w p ++ [ofB ((l.drop (p + 5 * w)).take 5)] := by simp [nrow, List.range_succ]
theorem rowZ_length (l : List UInt8) (w p j : Nat) (h : j ≤ w) : (rowZ l w p j).length = w := by simp [rowZ, nrow_length]; omega
theorem rowZ_set (l : List UInt8) (w p j : Nat) (h : j < w) : (rowZ l w p j).set j (.int .u64 (ofB ((l.drop (p + 5 * j)).take 5) : Nat)) = rowZ l w p (j + 1) := by
 unfold rowZ
 obtain ⟨m,hm⟩ : ∃ m,w-j=m+1:=⟨w-j-1,by omega⟩
 rw [hm,List.set_append_right _ _ (by simp [nrow_length]),List.replicate_succ]
 simp only [List.length_map,nrow_length,Nat.sub_self,List.set_cons_zero,nrow_succ,List.map_append,List.append_assoc,show w-(j+1)=m from by omega]
 rfl
theorem rowZ_full (l : List UInt8) (w p : Nat) : rowZ l w p w = (nrow l w p).map (fun n : Nat => Value.int .u64 (n : Int)) := by simp [rowZ]
theorem rowZ_zero (l : List UInt8) (w p : Nat) : rowZ l w p 0 = List.replicate w (.int .u64 0) := by simp [rowZ, nrow]
theorem bs_extract (l : List UInt8) (j : Nat) : (bs l).extract j (bs l).size = bs (l.drop j) := by rw [bs_drop, bs_data]
set_option maxHeartbeats 4000000 in
theorem numV_Split (s : ByteArray) (w : Int) (S : Mem) (hs : s.size ≤ 16777216) :
  ACall Tryz.prog 21 #[.string s,.int .i64 w] S (SplitR s w S):=by
 have hsz:=size_list s
 by_cases c1:w<1
 ·obtain ⟨q1,q2⟩:=splitE_1 s w (.inl c1)
  refine ACall.enter (rs:=[.tmp 4,.tmp 5]) 50 [(0,.string s),(1,.int .i64 w)] Tryz.func21 rfl rfl (Nat.le_of_ble_eq_true rfl) rfl ⟨rfl,rfl,trivial⟩ ?_
  iterate 19 refine s1_ ?_
  refine su_ [(0,_),(1,_),(4,_),(5,_),(9,_)] ?_
  refine cT_ ?_
  iterate 9 refine s1_ ?_
  refine ⟨_,S,⟨_,_,rfl,⟨_,_,rfl,rfl,rfl⟩,rfl⟩,less_,?_⟩
  exact ⟨_,by rw [q1];rfl,Mem.Less.refl _,by rw [q2];exact SlOf.nil _ _⟩
 by_cases c2:8<w
 ·obtain ⟨q1,q2⟩:=splitE_1 s w (.inr c2)
  refine ACall.enter (rs:=[.tmp 4,.tmp 5]) 50 [(0,.string s),(1,.int .i64 w)] Tryz.func21 rfl rfl (Nat.le_of_ble_eq_true rfl) rfl ⟨rfl,rfl,trivial⟩ ?_
  iterate 19 refine s1_ ?_
  refine su_ [(0,_),(1,_),(4,_),(5,_),(9,_)] ?_
  refine cT_ ?_
  iterate 9 refine s1_ ?_
  refine ⟨_,S,⟨_,_,rfl,⟨_,_,rfl,rfl,rfl⟩,rfl⟩,less_,?_⟩
  exact ⟨_,by rw [q1];rfl,Mem.Less.refl _,by rw [q2];exact SlOf.nil _ _⟩
 obtain ⟨W,rfl⟩ : ∃ W:Nat,w=W:=⟨w.toNat,by omega⟩
 by_cases c3:s.size % (5*W)=0
 ·obtain ⟨q1,q2⟩:=splitE_0 s W (by omega) c3
  rw [Int.toNat_natCast] at q2
  obtain ⟨B,hB⟩ : ∃ B,B=5*W:=⟨_,rfl⟩
  rw [← hB] at c3 q2
  obtain ⟨Q,hQ⟩ : ∃ Q,Q=s.size / B:=⟨_,rfl⟩
  have hQB:s.size=Q*B:=by rw [hQ,Nat.mul_comm];have:=Nat.div_add_mod s.size B;omega
  rw [← hQ] at q2
  have hc3:((s.size:Int) % (5*(W:Int)))=0:=by rw [show (5*(W:Int))=((B:Nat):Int) from by omega,← Int.natCast_emod,c3];rfl
  refine ACall.enter (rs:=[.tmp 4,.tmp 5]) 50 [(0,.string s),(1,.int .i64 (W:Int))] Tryz.func21 rfl rfl (Nat.le_of_ble_eq_true rfl) rfl ⟨rfl,rfl,trivial⟩ ?_
  iterate 19 refine s1_ ?_
  refine su_ [(0,_),(1,_),(4,_),(5,_),(9,_)] ?_
  refine cF_ ?_
  iterate 7 refine s1_ ?_
  refine rC (Calm.bin rfl rfl (bin_bool (bin_neq _ _) (bnot_dec_false hc3))) ?_
  iterate 3 refine s1_ ?_
  refine su_ [(0,_),(1,_),(4,_),(5,_),(9,_),(16,_)] ?_
  refine cF_ ?_
  iterate 10 refine s1_ ?_
  refine AWP.loop (X:=Nat × Mem × Option (Nat × Nat) × List Value) (fun x=>[(0,.string (bs (s.data.toList.drop (x.1*B)))),(1,.int .i64 W),(6,outV x.2.2.1 x.2.2.2.length)]) (fun x=>outM x.2.1 x.2.2.1 40 x.2.2.2) (fun x=>x.1≤Q∧x.2.2.2.length=x.1∧GrowI RowR S x.2.1 x.2.2.1 x.2.2.2 (rowsTo s.data.toList W x.1)) (fun x=>Q-x.1) ((0,S,none,[])) ⟨by rw [Nat.zero_mul,List.drop_zero,bs_of];rfl,rfl,rfl,trivial⟩ (Mem.Less.refl _) (⟨Nat.zero_le _,rfl,GrowI.nil _ _⟩) ?_
  rintro ⟨k,M,o,hs⟩ ⟨hk,hkl,hI⟩
  (try dsimp only at *)
  have hkQ:k*B≤Q*B:=Nat.mul_le_mul_right _ hk
  have hk5:k*5≤k*B:=Nat.mul_le_mul_left _ (by omega)
  have hlen:(s.data.toList.drop (k*B)).length=s.size-k*B:=by rw [List.length_drop];omega
  obtain ⟨R,hR⟩ : ∃ R,R=s.data.toList.drop (k*B):=⟨_,rfl⟩
  rw [← hR] at hlen ⊢
  have hRs:=bs_size R
  by_cases hl:k<Q
  ·have hkB:(k+1)*B≤Q*B:=Nat.mul_le_mul_right _ hl
   rw [Nat.succ_mul] at hkB
   iterate 4 refine s1_ ?_
   refine rC (Calm.bin rfl rfl (bin_bool (bin_str_neq _ _) (bnot_dec_true (fun e=>by have h0:R.length=0:=(by rw [← bs_size R,e];rfl);omega)))) ?_
   iterate 2 refine s1_ ?_
   refine su_ [(0,_),(1,_),(6,_),(24,_)] ?_
   refine cT_ ?_
   iterate 7 refine s1_ ?_
   refine ARun.makeSlice (lit_lt rfl) ty_sl_40 rfl rfl (by omega) (by omega) (by omega) (by omega) ?_
   intro b30 f30
   have g30:=f30
   repeat ((with_reducible replace g30:=fresh_set g30);obtain ⟨g30,_⟩:=g30)
   iterate 3 refine s1_ ?_
   refine su_ [(0,_),(1,_),(6,_),(24,_),(7,_)] ?_
   simp only [Nat.mul_one,madeL_one,Int.toNat_natCast]
   obtain ⟨hfM,hnq⟩:=fresh_outM f30
   iterate 8 refine s1_ ?_
   refine su_ [(0,_),(1,_),(6,_),(24,_),(7,_),(32,_),(33,_)] ?_
   refine s1_ ?_
   refine AWP.loop (X:=Nat) (fun x=>[(0,.string (bs R)),(1,.int .i64 W),(6,outV o hs.length),(7,.slice (some ⟨b30,0,none⟩) W W),(32,.int .i64 W),(33,.int .i64 x)]) (fun x=>(outM M o 40 hs).set b30 ⟨50,rowZ s.data.toList W (k*B) x,W⟩) (fun x=>x≤W) (fun x=>W-x) (0) ⟨rfl,rfl,rfl,rfl,rfl,rfl,trivial⟩ (by simp only [rowZ_zero];exact Mem.Less.refl _) (Nat.zero_le _) ?_
   rintro j hj
   (try dsimp only at *)
   iterate 6 refine s1_ ?_
   refine AWP.condB rfl (fun hjl=>?_) (fun hjl=>?_)
   ·have hjl:j<W:=by have:=of_decide_eq_true hjl;omega
    have hzl:=rowZ_length s.data.toList W (k*B) j hj
    have he:(bs R).extract (5*(j:Int)).toNat (bs R).size=bs (s.data.toList.drop (k*B+5*j)):=by rw [show (5*(j:Int)).toNat=5*j from by omega,bs_extract,hR,List.drop_drop]
    have hel:=bs_size (s.data.toList.drop (k*B+5*j))
    rw [List.length_drop] at hel
    iterate 10 refine s1_ ?_
    refine su_ [(0,_),(1,_),(6,_),(7,_),(32,_),(33,_),(34,_),(8,_)] ?_
    iterate 6 refine s1_ ?_
    refine rC (Calm.as (congrArg Value.string he) (Calm.sliceStr (strT_spec ty_str_9) rfl (bnd_none _ _) (bnd_some _ _ rfl (by omega) (by omega)))) ?_
    refine ca_ rfl (numV_Of (bs (s.data.toList.drop (k*B+5*j))) _ (by omega) (by omega)) ?_
    rintro _ S1 ⟨rfl,h1⟩
    rw [h1,bs_data];clear h1 S1
    iterate 5 refine s1_ ?_
    refine su_ [(0,_),(1,_),(6,_),(7,_),(32,_),(33,_),(34,_),(8,_)] ?_
    simp only [Nat.zero_add,Nat.mul_one,Int.toNat_natCast,rowZ_set _ _ _ _ hjl]
    iterate 5 refine s1_ ?_
    refine ⟨j+1,?_,?_,?_,?_⟩
    all_goals (try dsimp only)
    ·exact ⟨rfl,rfl,rfl,rfl,rfl,rfl,trivial⟩
    ·exact Mem.Less.refl _
    ·exact hjl
    ·omega
   ·have hjl:j=W:=by have:=of_decide_eq_false hjl;omega
    subst hjl
    rw [rowZ_full]
    have hnr:=nrow_length s.data.toList j (k*B)
    rw [outM_set _ _ _ _ _ _ hnq]
    have ho1:=hI.ok.set (r:=⟨50,(nrow s.data.toList j (k*B)).map (fun n:Nat=>Value.int .u64 (n:Int)),j⟩) hnq
    have hr:=sl_u64 (S:=M.set b30 ⟨50,(nrow s.data.toList j (k*B)).map (fun n:Nat=>Value.int .u64 (n:Int)),j⟩) (cap:=j) (Mem.own_set_same _ _ _) hnr (Nat.le_refl _) (by omega)
    have hlm:=Mem.less_set M b30 ⟨50,(nrow s.data.toList j (k*B)).map (fun n:Nat=>Value.int .u64 (n:Int)),j⟩ hfM.1
    obtain ⟨M1,hM1⟩ : ∃ M1,M1=M.set b30 ⟨50,(nrow s.data.toList j (k*B)).map (fun n:Nat=>Value.int .u64 (n:Int)),j⟩:=⟨_,rfl⟩
    rw [← hM1] at ho1 hr hlm ⊢
    iterate 8 refine s1_ ?_
    refine ARun.build1s (lit_lt rfl) ty_sl_22 rfl rfl ?_
    intro b47 f47
    have g47:=f47
    repeat ((with_reducible replace g47:=fresh_set g47);obtain ⟨g47,_⟩:=g47)
    refine ARun.appendO (lit_lt rfl) ty_sl_22 rfl rfl (appO_of ho1 rfl g47) rfl (news:=[_]) rds_ rfl (by omega) (by simp [Value.oneCell']) (by omega) (by omega) ?_
    intro b48 c48 ho2
    have hI2:=hI.step rowR_less hlm hr ho2
    rw [show k*B=k*(5*j) from by rw [hB],← rowsTo_succ] at hI2
    have hst2:(bs R).extract (5*(j:Int)).toNat (bs R).size=bs (s.data.toList.drop ((k+1)*B)):=by rw [show (5*(j:Int)).toNat=B from by omega,bs_extract,hR,List.drop_drop,Nat.succ_mul]
    iterate 4 refine s1_ ?_
    refine su_ [(0,_),(1,_),(6,_),(7,_),(32,_),(33,_),(34,_)] ?_
    iterate 4 refine s1_ ?_
    refine rC (Calm.as (congrArg Value.string hst2) (Calm.sliceStr (strT_spec ty_str_9) rfl (bnd_none _ _) (bnd_some _ _ rfl (by omega) (by omega)))) ?_
    iterate 3 refine s1_ ?_
    refine ⟨(k+1,M1,some (b48,c48),hs ++ [.slice (some ⟨b30,0,none⟩) j j]),?_,?_,?_,?_⟩
    all_goals (try dsimp only)
    ·exact ⟨rfl,rfl,by rw [List.length_append];rfl,trivial⟩
    ·exact Mem.Less.refl _
    ·exact ⟨hl,by rw [List.length_append,hkl];rfl,hI2⟩
    ·omega
  ·have hkQ2:k=Q:=by omega
   subst hkQ2
   have hR0:R = []:=List.eq_nil_of_length_eq_zero (by omega)
   iterate 4 refine s1_ ?_
   refine rC (Calm.bin rfl rfl (bin_bool (bin_str_neq _ _) (bnot_dec_false (by rw [hR0];rfl)))) ?_
   iterate 2 refine s1_ ?_
   refine su_ [(0,_),(1,_),(6,_),(24,_)] ?_
   refine cF_ ?_
   iterate 12 refine s1_ ?_
   refine su_ [(0,_),(1,_),(6,_),(24,_),(4,_),(5,_)] ?_
   refine s1_ ?_
   refine ⟨_,_,⟨_,_,rfl,⟨_,_,rfl,rfl,rfl⟩,rfl⟩,less_,?_⟩
   exact ⟨_,by rw [q1];rfl,hI.less.trans (outM_over hI.ok),by rw [q2];exact hI.slOf rowR_less (by omega)⟩
 ·obtain ⟨q1,q2⟩:=splitE_5 s W (by omega) (by rw [Int.toNat_natCast];exact c3)
  have hc3 : ¬ ((s.size:Int) % (5*(W:Int)))=0:=by rw [show (5*(W:Int))=((5*W:Nat):Int) from by omega,← Int.natCast_emod];omega
  refine ACall.enter (rs:=[.tmp 4,.tmp 5]) 50 [(0,.string s),(1,.int .i64 (W:Int))] Tryz.func21 rfl rfl (Nat.le_of_ble_eq_true rfl) rfl ⟨rfl,rfl,trivial⟩ ?_
  iterate 19 refine s1_ ?_
  refine su_ [(0,_),(1,_),(4,_),(5,_),(9,_)] ?_
  refine cF_ ?_
  iterate 7 refine s1_ ?_
  refine rC (Calm.bin rfl rfl (bin_bool (bin_neq _ _) (bnot_dec_true hc3))) ?_
  iterate 3 refine s1_ ?_
  refine su_ [(0,_),(1,_),(4,_),(5,_),(9,_),(16,_)] ?_
  refine cT_ ?_
  iterate 9 refine s1_ ?_
  refine ⟨_,S,⟨_,_,rfl,⟨_,_,rfl,rfl,rfl⟩,rfl⟩,less_,?_⟩
  exact ⟨_,by rw [q1];rfl,Mem.Less.refl _,by rw [q2];exact SlOf.nil _ _⟩
end Go.Proofs.YthbadpcmdlfmdaaGreatDoor
namespace Go.Proofs.YthbadpcmdlfmdaaGreatDoor
open Go.RowKit
open Mv Disk Num
set_option maxRecDepth 4000
namespace Rec
theorem form_le {s : ByteArray} (h : s.size = 64) : (formP s).1 ≤ 255 ∧ (formP s).2.1 < 18446744073709551616 ∧ ((formP s).2.2 = 0 → (formP s).1 ≤ 8) := by
 unfold formP
 by_cases q1:s.data.toList.take 2 ≠ [87,82]∨8<(s.data.toList.getD 2 0).toNat∨zeroL (s.data.toList.drop 12)=false
 ·rw [if_pos q1];exact ⟨by decide,by decide,fun h=>by simp at h⟩
 rw [if_neg q1]
 by_cases q2:(openS (s.extract 0 12)).2≠0
 ·rw [if_pos q2];exact ⟨Nat.zero_le _,Nat.lt_of_lt_of_le (Nat.zero_lt_succ 0) (by show 1≤18446744073709551616;decide),fun h=>absurd h q2⟩
 rw [if_neg q2]
 have h8:(s.data.toList.getD 2 0).toNat≤8:=by
  rcases Nat.lt_or_ge 8 (s.data.toList.getD 2 0).toNat with h | h
  ·exact absurd (.inr (.inl h)) q1
  ·exact h
 refine ⟨by show (s.data.toList.getD 2 0).toNat≤255;omega,?_,fun _=>h8⟩
 show ofB ((s.data.toList.drop 3).take 5)<_
 have:=ofB_lt ((s.data.toList.drop 3).take 5)
 have hl:((s.data.toList.drop 3).take 5).length=5:=by rw [List.length_take,List.length_drop,St.len_list,h];rfl
 rw [hl] at this
 omega
theorem need_iff {w c : Nat} (hw : w ≤ 8) : ((needP (w : Int) c).2 ≠ 0 ↔ 65536 < c) ∧ (c ≤ 65536 → needP (w : Int) c = (((needN w c : Nat) : Int), 0)) := by
 unfold needP
 by_cases h:65536<c
 ·rw [if_pos (by omega)];exact ⟨⟨fun _=>h,fun _=>by decide⟩,fun h'=>by omega⟩
 ·rw [if_neg (by omega),Int.toNat_natCast];exact ⟨⟨fun h'=>absurd rfl h',fun h'=>absurd h' h⟩,fun _=>rfl⟩
set_option maxHeartbeats 2000000 in
theorem rec_HeadAt (p : Nat) (d : D) (s : ByteArray) (M : Mem) (h : RdV M p d) (hR : Right d) :
  ACall Tryz.prog 48 #[.pointer (some ⟨p,0,none⟩),.string s] M fun r S'=>r=formV (headD d s)∧S'=M:=by
 have hread:=fun M h=>dev_Read p d s 0 M h hR
 unfold headD
 by_cases q1:(readD d s 0).2=0
 ·rw [if_neg (by omega)]
  obtain ⟨hpl,h64⟩:=readD_size hR q1
  obtain ⟨hhas,_,_⟩:=place0 hpl
  obtain ⟨hx,hxs⟩:=exOf_has hR.ex.asc hhas
  have hsec:=(eok_sec (hR.ex.ok _ hx)).2
  have hform:=fun M=>rec_form (readD d s 0).1 M h64
  obtain ⟨f1,f2,f3⟩:=form_le h64
  rw [show readD d s 0=((readD d s 0).1,0) from Prod.ext rfl q1] at hread
  generalize (readD d s 0).1=y at *
  rcases hf:formP y with ⟨w,c,e⟩
  rw [hf] at hform f1 f2 f3
  simp only [formV] at hform f1 f2 f3 ⊢
  by_cases q2:e=0
  ·subst q2
   rw [if_neg (by simp)]
   have f3:=f3 rfl
   have hneed:=fun M=>rec_Need (w:Int) c M
   obtain ⟨n1,n2⟩:=need_iff (c:=c) f3
   by_cases q3:65536<c
   ·have n1:=n1.2 q3
    rw [if_pos (.inl n1)]
    unfold needV at hneed
    generalize needP (w:Int) c=nn at *
    obtain ⟨qe,de,qw,dw,hp,hE,hW⟩:=id h
    have hidx:=fun M' kb hl hk=>rec_index (.slice qe d.ext.length de) d.ext s kb M' hl hk _ hx hxs hR.ex.asc
    refine ACall.enter (rs:=[.tmp 4,.tmp 5,.tmp 6]) 63 [(0,.pointer (some ⟨p,0,none⟩)),(1,.string s)] Tryz.func48 rfl rfl (Nat.le_of_ble_eq_true rfl) rfl ⟨rfl,rfl,trivial⟩ ?_
    iterate 2 refine s1_ ?_
    refine ARun.box1 (lit_lt rfl) rfl rfl ?_
    intro b3 f3
    have g3:=f3
    repeat ((with_reducible replace g3:=fresh_set g3);obtain ⟨g3,_⟩:=g3)
    have:=g3.ne hp;have:=g3.ne' hp
    refine nl_ ?_
    iterate 9 refine s1_ ?_
    refine ca_ rfl (hread _ (h.less less_)) ?_
    rintro _ S1 ⟨rfl,h1⟩
    rw [h1];clear h1 S1
    iterate 7 refine s1_ ?_
    refine su_ [(0,_),(1,_),(3,_),(4,_),(5,_),(6,_),(7,_),(8,_)] ?_
    iterate 7 refine s1_ ?_
    refine su_ [(0,_),(1,_),(3,_),(4,_),(5,_),(6,_),(7,_),(8,_),(20,_)] ?_
    refine cF_ ?_
    iterate 5 refine s1_ ?_
    refine ca_ rfl (hform _) ?_
    rintro _ S1 ⟨rfl,h1⟩
    rw [h1];clear h1 S1
    iterate 9 refine s1_ ?_
    refine su_ [(0,_),(1,_),(3,_),(4,_),(5,_),(6,_),(7,_),(8,_),(20,_),(9,_),(10,_)] ?_
    iterate 7 refine s1_ ?_
    refine su_ [(0,_),(1,_),(3,_),(4,_),(5,_),(6,_),(7,_),(8,_),(20,_),(9,_),(10,_),(29,_)] ?_
    refine cF_ ?_
    iterate 6 refine s1_ ?_
    refine ca_ rfl (hneed _) ?_
    rintro _ S1 ⟨rfl,h1⟩
    rw [h1];clear h1 S1
    iterate 7 refine s1_ ?_
    refine su_ [(0,_),(1,_),(3,_),(4,_),(5,_),(6,_),(7,_),(8,_),(20,_),(9,_),(10,_),(29,_),(11,_)] ?_
    iterate 8 refine s1_ ?_
    refine ca_ rfl (hidx _ b3 (hE.less less_) (Mem.rds.knows rds_)) ?_
    rintro _ S1 ⟨⟨j,hj,rfl,hjx⟩,h1⟩
    rw [h1];clear h1 S1
    iterate 3 refine s1_ ?_
    refine su_ [(0,_),(1,_),(3,_),(4,_),(5,_),(6,_),(7,_),(8,_),(20,_),(9,_),(10,_),(29,_),(11,_),(12,_)] ?_
    iterate 22 refine s1_ ?_
    refine su_ [(0,_),(1,_),(3,_),(4,_),(5,_),(6,_),(7,_),(8,_),(20,_),(9,_),(10,_),(29,_),(11,_),(12,_),(60,_)] ?_
    refine cT_ ?_
    iterate 9 refine s1_ ?_
    refine ⟨_,M,⟨_,_,rfl,⟨_,_,rfl,⟨_,_,rfl,rfl,rfl⟩,rfl⟩,rfl⟩,less_,?_⟩
    exact ⟨rfl,rfl⟩
   ·have n2:=n2 (by omega)
    rw [n2] at hneed ⊢
    unfold needV at hneed
    have hnl:=needN_le f3 (by omega:c≤65536)
    generalize needN w c=n at *
    obtain ⟨qe,de,qw,dw,hp,hE,hW⟩:=id h
    have hidx:=fun M' kb hl hk=>rec_index (.slice qe d.ext.length de) d.ext s kb M' hl hk _ hx hxs hR.ex.asc
    have hlim:=(right_len hR).1
    have hus:=Nat.le_trans (used_mem hx) (right_len hR).2
    obtain ⟨ea,ec,heq,g1,g2,g3⟩:=id hE
    cases heq
    have hkE:=g3.resolve_left (fun e=>by rw [e] at hx;cases hx)
    obtain ⟨eb,eo,rfl,hkE⟩:=hkE
    generalize exOf d.ext s=x at *
    by_cases q4:sec x=n
    ·rw [if_neg (by omega)]
     refine ACall.enter (rs:=[.tmp 4,.tmp 5,.tmp 6]) 63 [(0,.pointer (some ⟨p,0,none⟩)),(1,.string s)] Tryz.func48 rfl rfl (Nat.le_of_ble_eq_true rfl) rfl ⟨rfl,rfl,trivial⟩ ?_
     iterate 2 refine s1_ ?_
     refine ARun.box1 (lit_lt rfl) rfl rfl ?_
     intro b3 f3
     have g3:=f3
     repeat ((with_reducible replace g3:=fresh_set g3);obtain ⟨g3,_⟩:=g3)
     have:=g3.ne hp;have:=g3.ne' hp
     refine nl_ ?_
     iterate 9 refine s1_ ?_
     refine ca_ rfl (hread _ (h.less less_)) ?_
     rintro _ S1 ⟨rfl,h1⟩
     rw [h1];clear h1 S1
     iterate 7 refine s1_ ?_
     refine su_ [(0,_),(1,_),(3,_),(4,_),(5,_),(6,_),(7,_),(8,_)] ?_
     iterate 7 refine s1_ ?_
     refine su_ [(0,_),(1,_),(3,_),(4,_),(5,_),(6,_),(7,_),(8,_),(20,_)] ?_
     refine cF_ ?_
     iterate 5 refine s1_ ?_
     refine ca_ rfl (hform _) ?_
     rintro _ S1 ⟨rfl,h1⟩
     rw [h1];clear h1 S1
     iterate 9 refine s1_ ?_
     refine su_ [(0,_),(1,_),(3,_),(4,_),(5,_),(6,_),(7,_),(8,_),(20,_),(9,_),(10,_)] ?_
     iterate 7 refine s1_ ?_
     refine su_ [(0,_),(1,_),(3,_),(4,_),(5,_),(6,_),(7,_),(8,_),(20,_),(9,_),(10,_),(29,_)] ?_
     refine cF_ ?_
     iterate 6 refine s1_ ?_
     refine ca_ rfl (hneed _) ?_
     rintro _ S1 ⟨rfl,h1⟩
     rw [h1];clear h1 S1
     iterate 7 refine s1_ ?_
     refine su_ [(0,_),(1,_),(3,_),(4,_),(5,_),(6,_),(7,_),(8,_),(20,_),(9,_),(10,_),(29,_),(11,_)] ?_
     iterate 8 refine s1_ ?_
     refine ca_ rfl (hidx _ b3 (hE.less less_) (Mem.rds.knows rds_)) ?_
     rintro _ S1 ⟨⟨j,hj,rfl,hjx⟩,h1⟩
     rw [h1];clear h1 S1
     have hkj:=knows_snd (hkE j hj)
     rw [hjx] at hkj
     rw [show eo+j*2+1=eo+(j:Int).toNat*2+1 from by rw [Int.toNat_natCast]] at hkj
     iterate 3 refine s1_ ?_
     refine su_ [(0,_),(1,_),(3,_),(4,_),(5,_),(6,_),(7,_),(8,_),(20,_),(9,_),(10,_),(29,_),(11,_),(12,_)] ?_
     iterate 22 refine s1_ ?_
     refine su_ [(0,_),(1,_),(3,_),(4,_),(5,_),(6,_),(7,_),(8,_),(20,_),(9,_),(10,_),(29,_),(11,_),(12,_),(60,_)] ?_
     refine cF_ ?_
     iterate 11 refine s1_ ?_
     refine su_ [(0,_),(1,_),(3,_),(4,_),(5,_),(6,_),(7,_),(8,_),(20,_),(9,_),(10,_),(29,_),(11,_),(12,_),(60,_)] ?_
     refine s1_ ?_
     refine ⟨_,M,⟨_,_,rfl,⟨_,_,rfl,⟨_,_,rfl,rfl,rfl⟩,rfl⟩,rfl⟩,less_,?_⟩
     exact ⟨rfl,rfl⟩
    ·rw [if_pos (by right;show ((sec x:Nat):Int)≠_;omega)]
     refine ACall.enter (rs:=[.tmp 4,.tmp 5,.tmp 6]) 63 [(0,.pointer (some ⟨p,0,none⟩)),(1,.string s)] Tryz.func48 rfl rfl (Nat.le_of_ble_eq_true rfl) rfl ⟨rfl,rfl,trivial⟩ ?_
     iterate 2 refine s1_ ?_
     refine ARun.box1 (lit_lt rfl) rfl rfl ?_
     intro b3 f3
     have g3:=f3
     repeat ((with_reducible replace g3:=fresh_set g3);obtain ⟨g3,_⟩:=g3)
     have:=g3.ne hp;have:=g3.ne' hp
     refine nl_ ?_
     iterate 9 refine s1_ ?_
     refine ca_ rfl (hread _ (h.less less_)) ?_
     rintro _ S1 ⟨rfl,h1⟩
     rw [h1];clear h1 S1
     iterate 7 refine s1_ ?_
     refine su_ [(0,_),(1,_),(3,_),(4,_),(5,_),(6,_),(7,_),(8,_)] ?_
     iterate 7 refine s1_ ?_
     refine su_ [(0,_),(1,_),(3,_),(4,_),(5,_),(6,_),(7,_),(8,_),(20,_)] ?_
     refine cF_ ?_
     iterate 5 refine s1_ ?_
     refine ca_ rfl (hform _) ?_
     rintro _ S1 ⟨rfl,h1⟩
     rw [h1];clear h1 S1
     iterate 9 refine s1_ ?_
     refine su_ [(0,_),(1,_),(3,_),(4,_),(5,_),(6,_),(7,_),(8,_),(20,_),(9,_),(10,_)] ?_
     iterate 7 refine s1_ ?_
     refine su_ [(0,_),(1,_),(3,_),(4,_),(5,_),(6,_),(7,_),(8,_),(20,_),(9,_),(10,_),(29,_)] ?_
     refine cF_ ?_
     iterate 6 refine s1_ ?_
     refine ca_ rfl (hneed _) ?_
     rintro _ S1 ⟨rfl,h1⟩
     rw [h1];clear h1 S1
     iterate 7 refine s1_ ?_
     refine su_ [(0,_),(1,_),(3,_),(4,_),(5,_),(6,_),(7,_),(8,_),(20,_),(9,_),(10,_),(29,_),(11,_)] ?_
     iterate 8 refine s1_ ?_
     refine ca_ rfl (hidx _ b3 (hE.less less_) (Mem.rds.knows rds_)) ?_
     rintro _ S1 ⟨⟨j,hj,rfl,hjx⟩,h1⟩
     rw [h1];clear h1 S1
     have hkj:=knows_snd (hkE j hj)
     rw [hjx] at hkj
     rw [show eo+j*2+1=eo+(j:Int).toNat*2+1 from by rw [Int.toNat_natCast]] at hkj
     iterate 3 refine s1_ ?_
     refine su_ [(0,_),(1,_),(3,_),(4,_),(5,_),(6,_),(7,_),(8,_),(20,_),(9,_),(10,_),(29,_),(11,_),(12,_)] ?_
     iterate 22 refine s1_ ?_
     refine su_ [(0,_),(1,_),(3,_),(4,_),(5,_),(6,_),(7,_),(8,_),(20,_),(9,_),(10,_),(29,_),(11,_),(12,_),(60,_)] ?_
     refine cT_ ?_
     iterate 9 refine s1_ ?_
     refine ⟨_,M,⟨_,_,rfl,⟨_,_,rfl,⟨_,_,rfl,rfl,rfl⟩,rfl⟩,rfl⟩,less_,?_⟩
     exact ⟨rfl,rfl⟩
  ·rw [if_pos q2]
   obtain ⟨qe,de,qw,dw,hp,hE,hW⟩:=id h
   refine ACall.enter (rs:=[.tmp 4,.tmp 5,.tmp 6]) 63 [(0,.pointer (some ⟨p,0,none⟩)),(1,.string s)] Tryz.func48 rfl rfl (Nat.le_of_ble_eq_true rfl) rfl ⟨rfl,rfl,trivial⟩ ?_
   iterate 2 refine s1_ ?_
   refine ARun.box1 (lit_lt rfl) rfl rfl ?_
   intro b3 f3
   have g3:=f3
   repeat ((with_reducible replace g3:=fresh_set g3);obtain ⟨g3,_⟩:=g3)
   have:=g3.ne hp;have:=g3.ne' hp
   refine nl_ ?_
   iterate 9 refine s1_ ?_
   refine ca_ rfl (hread _ (h.less less_)) ?_
   rintro _ S1 ⟨rfl,h1⟩
   rw [h1];clear h1 S1
   iterate 7 refine s1_ ?_
   refine su_ [(0,_),(1,_),(3,_),(4,_),(5,_),(6,_),(7,_),(8,_)] ?_
   iterate 7 refine s1_ ?_
   refine su_ [(0,_),(1,_),(3,_),(4,_),(5,_),(6,_),(7,_),(8,_),(20,_)] ?_
   refine cF_ ?_
   iterate 5 refine s1_ ?_
   refine ca_ rfl (hform _) ?_
   rintro _ S1 ⟨rfl,h1⟩
   rw [h1];clear h1 S1
   iterate 9 refine s1_ ?_
   refine su_ [(0,_),(1,_),(3,_),(4,_),(5,_),(6,_),(7,_),(8,_),(20,_),(9,_),(10,_)] ?_
   iterate 7 refine s1_ ?_
   refine su_ [(0,_),(1,_),(3,_),(4,_),(5,_),(6,_),(7,_),(8,_),(20,_),(9,_),(10,_),(29,_)] ?_
   refine cT_ ?_
   iterate 8 refine s1_ ?_
   refine su_ [(0,_),(1,_),(3,_),(4,_),(5,_),(6,_),(7,_),(8,_),(20,_),(9,_),(10,_),(29,_)] ?_
   iterate 2 refine s1_ ?_
   refine ⟨_,M,⟨_,_,rfl,⟨_,_,rfl,⟨_,_,rfl,rfl,rfl⟩,rfl⟩,rfl⟩,less_,?_⟩
   exact ⟨rfl,rfl⟩
 ·rw [if_pos q1]
  obtain ⟨qe,de,qw,dw,hp,hE,hW⟩:=id h
  refine ACall.enter (rs:=[.tmp 4,.tmp 5,.tmp 6]) 63 [(0,.pointer (some ⟨p,0,none⟩)),(1,.string s)] Tryz.func48 rfl rfl (Nat.le_of_ble_eq_true rfl) rfl ⟨rfl,rfl,trivial⟩ ?_
  iterate 2 refine s1_ ?_
  refine ARun.box1 (lit_lt rfl) rfl rfl ?_
  intro b3 f3
  have g3:=f3
  repeat ((with_reducible replace g3:=fresh_set g3);obtain ⟨g3,_⟩:=g3)
  have:=g3.ne hp;have:=g3.ne' hp
  refine nl_ ?_
  iterate 9 refine s1_ ?_
  refine ca_ rfl (hread _ (h.less less_)) ?_
  rintro _ S1 ⟨rfl,h1⟩
  rw [h1];clear h1 S1
  iterate 7 refine s1_ ?_
  refine su_ [(0,_),(1,_),(3,_),(4,_),(5,_),(6,_),(7,_),(8,_)] ?_
  iterate 7 refine s1_ ?_
  refine su_ [(0,_),(1,_),(3,_),(4,_),(5,_),(6,_),(7,_),(8,_),(20,_)] ?_
  refine cT_ ?_
  iterate 8 refine s1_ ?_
  refine su_ [(0,_),(1,_),(3,_),(4,_),(5,_),(6,_),(7,_),(8,_),(20,_)] ?_
  iterate 2 refine s1_ ?_
  refine ⟨_,M,⟨_,_,rfl,⟨_,_,rfl,⟨_,_,rfl,rfl,rfl⟩,rfl⟩,rfl⟩,less_,?_⟩
  exact ⟨rfl,rfl⟩
end Rec
end Go.Proofs.YthbadpcmdlfmdaaGreatDoor
namespace Go.Proofs.YthbadpcmdlfmdaaGreatDoor
open Go.RowKit
open Mv Disk Num
set_option maxRecDepth 4000
namespace Rec
theorem head_ok {d : D} {s : ByteArray} (hR : Right d) {w c : Nat} (h : headD d s = (w, c, 0)) :
  has d.ext s=true∧w≤8∧c≤65536∧sec (exOf d.ext s)=needN w c:=by
 unfold headD at h
 by_cases q1:(readD d s 0).2=0
 ·rw [if_neg (by omega)] at h
  obtain ⟨hpl,h64⟩:=readD_size hR q1
  by_cases q2:(formP (readD d s 0).1).2.2=0
  ·rw [if_neg (by omega)] at h
   obtain ⟨f1,f2,f3⟩:=form_le h64
   split at h
   ·cases h
   ·rename_i q3
    rw [h] at q3 f3
    obtain ⟨n1,n2⟩:=need_iff (c:=c) (f3 rfl)
    refine ⟨(place0 hpl).1,f3 rfl,?_,?_⟩
    ·rcases Nat.lt_or_ge 65536 c with hc | hc
     ·exact absurd (.inl (n1.2 hc)) q3
     ·exact hc
    ·have q3:=not_or.1 q3
     have q4:((sec (exOf d.ext s):Nat):Int)=((needN w c:Nat):Int):=by
      by_cases q:((sec (exOf d.ext s):Nat):Int)=((needN w c:Nat):Int)
      ·exact q
      ·exact absurd q q3.2
     omega
  ·rw [if_pos q2] at h
   have:=congrArg (fun p=>p.2.2) h
   exact absurd this q2
 ·rw [if_pos q1] at h
  have:=congrArg (fun p=>p.2.2) h
  exact absurd this q1
theorem readD_in {d : D} {s : ByteArray} (hR : Right d) {n : Nat} (h1 : has d.ext s = true) (h2 : sec (exOf d.ext s) = n) {i : Nat} (hi : i < n) : (readD d s (i : Int)).2 = 0 ∧ (readD d s (i : Int)).1.size = 64 := by
 have hp:(placeD d s (i:Int)).2=0:=by unfold placeD;rw [if_pos h1,if_neg (by rw [h2];omega)]
 have h0:(readD d s (i:Int)).2=0:=by rw [readD_see,if_neg (by simpa using hp)]
 exact ⟨h0,(readD_size hR h0).2⟩
theorem bodyL_len {d : D} {s : ByteArray} (hR : Right d) (ho : (openD d).2 = 0) {n : Nat} (h1 : has d.ext s = true) (h2 : sec (exOf d.ext s) = n) : ∀ k, k + 1 ≤ n → (bodyL d s k).length = 64 * k
 | 0,_=>rfl
 | k+1,h=>by
  unfold bodyL
  rw [List.length_append,bodyL_len hR ho h1 h2 k (by omega),readO_open ho,St.len_list,(readD_in hR h1 h2 (i:=k+1) (by omega)).2];omega
def bodyV (p : Nat × ByteArray × Int) : Value := .tuple #[.int .i64 (p.1 : Nat), .string p.2.1, .int .i64 p.2.2]
set_option maxHeartbeats 4000000 in
theorem rec_body (v : Value) (d : D) (s : ByteArray) (text : Bool) (S : Mem) (hd : DkR S v d) (hz : Dz d) :
  ACall Tryz.prog 20 #[v,.string s,.bool text] S fun r S'=>r=bodyV (bodyP d s text)∧S'=S:=by
 have hopen:=disk_Open v d S hd hz
 obtain ⟨pe,ce,pw,cw,rfl,hE,hW⟩:=id hd
 unfold bodyP
 have hsh:=headP_shut (d:=d) (s:=s)
 have hop:=headP_open (d:=d) (s:=s)
 have ho2:=fun h=>@bodyL_len d s h
 have hro:=@readO_open d
 rcases openD_or d with ⟨ho,hR⟩ | ⟨ho,hR,hdn⟩ | ⟨ho,hR,hdn⟩ <;> rw [ho] at hopen hsh hop ho2 hro
 ·rw [hsh (by simp),if_pos (by simp)]
  refine ACall.enter (rs:=[.tmp 6,.tmp 7,.tmp 8]) 78 [(0,.agg #[.int .i64 d.size,.slice pe d.ext.length ce,.slice pw d.waits.length cw,.int .i64 d.fuse,.bool d.down]),(1,.string s),(2,.bool text)] Tryz.func20 rfl rfl (Nat.le_of_ble_eq_true rfl) rfl ⟨rfl,rfl,rfl,trivial⟩ ?_
  iterate 2 refine s1_ ?_
  refine k_b5 rfl ?_
  intro b3 f3
  have g3:=f3
  repeat ((with_reducible replace g3:=fresh_set g3);obtain ⟨g3,_⟩:=g3)
  refine nl_ ?_
  iterate 8 refine s1_ ?_
  refine ca_ rfl (hopen.frame f3) ?_
  rintro _ S1 ⟨M,⟨p,oE,oW,hok,rfl,hM⟩,f1',h1⟩
  rw [h1];clear h1 S1
  have hSM:S.Less M:=by rw [hM];exact hok.less
  iterate 7 refine s1_ ?_
  refine su_ [(0,_),(1,_),(2,_),(3,_),(6,_),(7,_),(8,_),(9,_),(10,_)] ?_
  iterate 7 refine s1_ ?_
  refine su_ [(0,_),(1,_),(2,_),(3,_),(6,_),(7,_),(8,_),(9,_),(10,_),(26,_)] ?_
  refine cT_ ?_
  iterate 8 refine s1_ ?_
  refine su_ [(0,_),(1,_),(2,_),(3,_),(6,_),(7,_),(8,_),(9,_),(10,_),(26,_)] ?_
  iterate 2 refine s1_ ?_
  refine ⟨_,S,⟨_,_,rfl,⟨_,_,rfl,⟨_,_,rfl,rfl,rfl⟩,rfl⟩,rfl⟩,less_,?_⟩
  exact ⟨rfl,rfl⟩
 ·rw [hsh (by simp),if_pos (by simp)]
  refine ACall.enter (rs:=[.tmp 6,.tmp 7,.tmp 8]) 78 [(0,.agg #[.int .i64 d.size,.slice pe d.ext.length ce,.slice pw d.waits.length cw,.int .i64 d.fuse,.bool d.down]),(1,.string s),(2,.bool text)] Tryz.func20 rfl rfl (Nat.le_of_ble_eq_true rfl) rfl ⟨rfl,rfl,rfl,trivial⟩ ?_
  iterate 2 refine s1_ ?_
  refine k_b5 rfl ?_
  intro b3 f3
  have g3:=f3
  repeat ((with_reducible replace g3:=fresh_set g3);obtain ⟨g3,_⟩:=g3)
  refine nl_ ?_
  iterate 8 refine s1_ ?_
  refine ca_ rfl (hopen.frame f3) ?_
  rintro _ S1 ⟨M,⟨p,oE,oW,hok,rfl,hM⟩,f1',h1⟩
  rw [h1];clear h1 S1
  have hSM:S.Less M:=by rw [hM];exact hok.less
  iterate 7 refine s1_ ?_
  refine su_ [(0,_),(1,_),(2,_),(3,_),(6,_),(7,_),(8,_),(9,_),(10,_)] ?_
  iterate 7 refine s1_ ?_
  refine su_ [(0,_),(1,_),(2,_),(3,_),(6,_),(7,_),(8,_),(9,_),(10,_),(26,_)] ?_
  refine cT_ ?_
  iterate 8 refine s1_ ?_
  refine su_ [(0,_),(1,_),(2,_),(3,_),(6,_),(7,_),(8,_),(9,_),(10,_),(26,_)] ?_
  iterate 2 refine s1_ ?_
  refine ⟨_,S,⟨_,_,rfl,⟨_,_,rfl,⟨_,_,rfl,rfl,rfl⟩,rfl⟩,rfl⟩,less_,?_⟩
  exact ⟨rfl,rfl⟩
 rw [hop rfl]
 have hhead:=fun p M h=>rec_HeadAt p d s M h hR
 have hhk:=@head_ok d s hR
 rcases hw:headD d s with ⟨w,c,e⟩
 rw [hw] at hhead
 simp only [formV] at hhead
 by_cases he:e=0
 ·subst he
  rw [if_neg (by simp)]
  obtain ⟨k1,k2,k3,k4⟩:=hhk hw
  have hrin:=fun i=>@readD_in d s hR (needN w c) k1 k4 i
  have hbl:=ho2 hR rfl k1 k4
  have hneed:=fun M=>rec_Need (w:Int) c M
  rw [(need_iff k2).2 k3] at hneed
  simp only [needV] at hneed
  have heach:=fun M=>rec_each w M k2
  obtain ⟨m1,m2,m3⟩:=mul_le_each k2 k3
  have hn1:=needN_pos w c
  have hn2:=needN_le k2 k3
  have hnn:eachN w*c≤64*(needN w c-1):=by unfold needN;omega
  have hbs:∀ k,bodyL d s (k+1)=bodyL d s k ++ (readD d s ((k+1:Nat):Int)).1.data.toList:=fun k=>by rw [bodyL,hro rfl]
  have hb0:bodyL d s 0 = []:=rfl
  generalize needN w c=n at *
  generalize bodyL d s=bL at *
  generalize eachN w=ew at *
  have heq:(decide (w=0))=true ↔ w=0:=by simp
  by_cases ht:text≠decide (w=0)
  ·rw [if_pos ht]
   have hb:(!(text == decide (w=0)))=true:=(by decide:∀ a b:Bool,a≠b→(!(a == b))=true) _ _ ht
   refine ACall.enter (rs:=[.tmp 6,.tmp 7,.tmp 8]) 78 [(0,.agg #[.int .i64 d.size,.slice pe d.ext.length ce,.slice pw d.waits.length cw,.int .i64 d.fuse,.bool d.down]),(1,.string s),(2,.bool text)] Tryz.func20 rfl rfl (Nat.le_of_ble_eq_true rfl) rfl ⟨rfl,rfl,rfl,trivial⟩ ?_
   iterate 2 refine s1_ ?_
   refine k_b5 rfl ?_
   intro b3 f3
   have g3:=f3
   repeat ((with_reducible replace g3:=fresh_set g3);obtain ⟨g3,_⟩:=g3)
   refine nl_ ?_
   iterate 8 refine s1_ ?_
   refine ca_ rfl (hopen.frame f3) ?_
   rintro _ S1 ⟨M,⟨p,oE,oW,hok,rfl,hM⟩,f1',h1⟩
   rw [h1];clear h1 S1
   have hSM:S.Less M:=by rw [hM];exact hok.less
   have hrd:RdV M p d:=by rw [hM];exact hok.rd (right_lens hR).1 (right_lens hR).2
   iterate 7 refine s1_ ?_
   refine su_ [(0,_),(1,_),(2,_),(3,_),(6,_),(7,_),(8,_),(9,_),(10,_)] ?_
   iterate 7 refine s1_ ?_
   refine su_ [(0,_),(1,_),(2,_),(3,_),(6,_),(7,_),(8,_),(9,_),(10,_),(26,_)] ?_
   refine cF_ ?_
   iterate 6 refine s1_ ?_
   refine ca_ rfl (hhead p _ (hrd.less less_)) ?_
   rintro _ S1 ⟨rfl,h1⟩
   rw [h1];clear h1 S1
   iterate 9 refine s1_ ?_
   refine su_ [(0,_),(1,_),(2,_),(3,_),(6,_),(7,_),(8,_),(9,_),(10,_),(26,_),(11,_),(12,_)] ?_
   iterate 9 refine s1_ ?_
   refine su_ [(0,_),(1,_),(2,_),(3,_),(6,_),(7,_),(8,_),(9,_),(10,_),(26,_),(11,_),(12,_),(35,_)] ?_
   refine cF_ ?_
   iterate 4 refine s1_ ?_
   refine rC (Calm.bin rfl rfl (bin_bool (bin_eql _ _) (show decide ((w:Int)=0)=decide (w=0) from by rw [decide_eq_decide];omega))) ?_
   refine rC (Calm.bin rfl rfl (bin_bool (bin_bool_neq _ _ Tryz.underlying4) hb)) ?_
   iterate 3 refine s1_ ?_
   refine su_ [(0,_),(1,_),(2,_),(3,_),(6,_),(7,_),(8,_),(9,_),(10,_),(26,_),(11,_),(12,_),(35,_),(39,_)] ?_
   refine cT_ ?_
   iterate 10 refine s1_ ?_
   refine ⟨_,S,⟨_,_,rfl,⟨_,_,rfl,⟨_,_,rfl,rfl,rfl⟩,rfl⟩,rfl⟩,less_,?_⟩
   exact ⟨rfl,rfl⟩
  ·rw [if_neg ht]
   have hb:(!(text == decide (w=0)))=false:=(by decide:∀ a b:Bool,¬ a≠b→(!(a == b))=false) _ _ ht
   have hex1:∀ l:List UInt8,l.length=64*(n-1)→((bs l).extract (((ew*c:Nat):Int)).toNat (bs l).size).data.toList=l.drop (ew*c):=fun l hl=>by
    rw [Lib.extract_data,bs_data,size_bs,Int.toNat_natCast,List.take_of_length_le (by rw [List.length_drop];omega)]
   have hex2:∀ l:List UInt8,(bs l).extract 0 (((ew*c:Nat):Int)).toNat=bs (l.take (ew*c)):=fun l=>by
    apply str_ext
    rw [Lib.extract_data,bs_data,bs_data,Int.toNat_natCast];simp
   refine ACall.enter (rs:=[.tmp 6,.tmp 7,.tmp 8]) 78 [(0,.agg #[.int .i64 d.size,.slice pe d.ext.length ce,.slice pw d.waits.length cw,.int .i64 d.fuse,.bool d.down]),(1,.string s),(2,.bool text)] Tryz.func20 rfl rfl (Nat.le_of_ble_eq_true rfl) rfl ⟨rfl,rfl,rfl,trivial⟩ ?_
   iterate 2 refine s1_ ?_
   refine k_b5 rfl ?_
   intro b3 f3
   have g3:=f3
   repeat ((with_reducible replace g3:=fresh_set g3);obtain ⟨g3,_⟩:=g3)
   refine nl_ ?_
   iterate 8 refine s1_ ?_
   refine ca_ rfl (hopen.frame f3) ?_
   rintro _ S1 ⟨M,⟨p,oE,oW,hok,rfl,hM⟩,f1',h1⟩
   rw [h1];clear h1 S1
   have hSM:S.Less M:=by rw [hM];exact hok.less
   have hrd:RdV M p d:=by rw [hM];exact hok.rd (right_lens hR).1 (right_lens hR).2
   iterate 7 refine s1_ ?_
   refine su_ [(0,_),(1,_),(2,_),(3,_),(6,_),(7,_),(8,_),(9,_),(10,_)] ?_
   iterate 7 refine s1_ ?_
   refine su_ [(0,_),(1,_),(2,_),(3,_),(6,_),(7,_),(8,_),(9,_),(10,_),(26,_)] ?_
   refine cF_ ?_
   iterate 6 refine s1_ ?_
   refine ca_ rfl (hhead p _ (hrd.less less_)) ?_
   rintro _ S1 ⟨rfl,h1⟩
   rw [h1];clear h1 S1
   iterate 9 refine s1_ ?_
   refine su_ [(0,_),(1,_),(2,_),(3,_),(6,_),(7,_),(8,_),(9,_),(10,_),(26,_),(11,_),(12,_)] ?_
   iterate 9 refine s1_ ?_
   refine su_ [(0,_),(1,_),(2,_),(3,_),(6,_),(7,_),(8,_),(9,_),(10,_),(26,_),(11,_),(12,_),(35,_)] ?_
   refine cF_ ?_
   iterate 4 refine s1_ ?_
   refine rC (Calm.bin rfl rfl (bin_bool (bin_eql _ _) (show decide ((w:Int)=0)=decide (w=0) from by rw [decide_eq_decide];omega))) ?_
   refine rC (Calm.bin rfl rfl (bin_bool (bin_bool_neq _ _ Tryz.underlying4) hb)) ?_
   iterate 3 refine s1_ ?_
   refine su_ [(0,_),(1,_),(2,_),(3,_),(6,_),(7,_),(8,_),(9,_),(10,_),(26,_),(11,_),(12,_),(35,_),(39,_)] ?_
   refine cF_ ?_
   iterate 7 refine s1_ ?_
   refine ca_ rfl (hneed _) ?_
   rintro _ S1 ⟨rfl,h1⟩
   rw [h1];clear h1 S1
   iterate 7 refine s1_ ?_
   refine su_ [(0,_),(1,_),(2,_),(3,_),(6,_),(7,_),(8,_),(9,_),(10,_),(26,_),(11,_),(12,_),(35,_),(39,_),(13,_)] ?_
   iterate 2 refine s1_ ?_
   refine ARun.alloc (lit_lt rfl) ty_zero_57 ?_
   intro b15 f15
   have g15:=f15
   repeat ((with_reducible replace g15:=fresh_set g15);obtain ⟨g15,_⟩:=g15)
   refine nl_ ?_
   iterate 2 refine s1_ ?_
   have hMB:M.Less (M.set b3 (bx d pe ce pw cw)):=Mem.less_set _ _ _ f1'.1
   have hnew:=Bl.R.new (M.set b3 (bx d pe ce pw cw)) b15
   iterate 6 refine s1_ ?_
   generalize hB:(M.set b3 (bx d pe ce pw cw))=B at *
   refine s1_ ?_
   refine AWP.loop (X:=Nat × Mem) (fun x=>[(1,.string s),(9,.pointer (some ⟨p,0,none⟩)),(11,.int .i64 (w:Int)),(12,.int .u64 (c:Int)),(13,.int .i64 (n:Int)),(15,.pointer (some ⟨b15,0,none⟩)),(16,.int .i64 ((x.1+1:Nat):Int))]) (fun x=>x.2) (fun x=>x.1+1≤n∧Bl.R B b15 (bL x.1) x.2) (fun x=>n-x.1) ((0,B.set b15 (Bl.blk (.pointer none) (.slice none 0 0)))) ⟨rfl,rfl,rfl,rfl,rfl,rfl,rfl,trivial⟩ (Mem.Less.refl _) (⟨by show 0+1≤n;omega,by rw [hb0];exact hnew⟩) ?_
   rintro ⟨i,T⟩ ⟨hi,hT⟩
   (try dsimp only at *)
   have hBT:=hT.less f15
   by_cases hin:i+1<n
   ·iterate 8 refine s1_ ?_
    refine su_ [(1,_),(9,_),(11,_),(12,_),(13,_),(15,_),(16,_),(52,_)] ?_
    refine cT_ ?_
    obtain ⟨r1,r2⟩:=hrin (i+1) hin
    have hlen:=hbl i (by omega)
    have hrr:=dev_Read p d s ((i+1:Nat):Int) T (hrd.less (hMB.trans hBT)) hR
    rw [show readD d s ((i+1:Nat):Int)=((readD d s ((i+1:Nat):Int)).1,0) from Prod.ext rfl r1] at hrr
    iterate 9 refine s1_ ?_
    refine ca_ rfl (hrr) ?_
    rintro _ S1 ⟨rfl,h1⟩
    rw [h1];clear h1 S1
    iterate 7 refine s1_ ?_
    refine su_ [(1,_),(9,_),(11,_),(12,_),(13,_),(15,_),(16,_),(52,_),(17,_)] ?_
    iterate 2 refine s1_ ?_
    refine ca_ rfl (Bl.WriteString _ b15 _ T (readD d s ((i+1:Nat):Int)).1 f15 hT (by omega)) ?_
    rintro _ T2 ⟨rfl,hT2⟩
    rw [← hbs i] at hT2
    iterate 3 refine s1_ ?_
    refine su_ [(1,_),(9,_),(11,_),(12,_),(13,_),(15,_),(16,_),(52,_),(17,_)] ?_
    iterate 6 refine s1_ ?_
    refine ⟨(i+1,T2),?_,?_,?_,?_⟩
    all_goals (try dsimp only)
    ·exact ⟨rfl,rfl,rfl,rfl,rfl,rfl,some_int (by omega),trivial⟩
    ·exact Mem.Less.refl _
    ·exact ⟨hin,hT2⟩
    ·omega
   ·iterate 8 refine s1_ ?_
    refine su_ [(1,_),(9,_),(11,_),(12,_),(13,_),(15,_),(16,_),(52,_)] ?_
    refine cF_ ?_
    obtain rfl:i=n-1:=by omega
    have hlen:=hbl (n-1) (by omega)
    have hlb:(bs (bL (n-1))).size=64*(n-1):=by rw [size_bs,hlen]
    iterate 8 refine s1_ ?_
    refine ca_ rfl (heach _) ?_
    rintro _ S1 ⟨rfl,h1⟩
    rw [h1];clear h1 S1
    iterate 6 refine s1_ ?_
    refine su_ [(1,_),(9,_),(11,_),(12,_),(13,_),(15,_),(16,_),(52,_),(19,_)] ?_
    rw [m3]
    iterate 3 refine s1_ ?_
    refine ca_ rfl (Bl.String _ b15 _ T f15 hT (by omega)) ?_
    rintro _ T2 ⟨rfl,hT2⟩
    have hzr:=rec_zeros ((bs (bL (n-1))).extract (((ew*c:Nat):Int)).toNat (bs (bL (n-1))).size) T2 (by rw [ByteArray.size_extract];omega)
    rw [hex1 _ hlen] at hzr
    have hlo:S.Lo T2:=(hSM.trans hMB).lo.trans (hT2.lo f15)
    iterate 2 refine s1_ ?_
    refine ca_ rfl (hzr) ?_
    rintro _ S1 ⟨rfl,h1⟩
    rw [h1];clear h1 S1
    iterate 3 refine s1_ ?_
    refine su_ [(1,_),(9,_),(11,_),(12,_),(13,_),(15,_),(16,_),(52,_),(19,_),(73,_)] ?_
    cases hzz:zeroL ((bL (n-1)).drop (ew*c))
    ·rw [if_pos rfl]
     refine cT_ ?_
     refine AWP.lo S hlo ?_
     iterate 9 refine s1_ ?_
     refine ⟨_,S,⟨_,_,rfl,⟨_,_,rfl,⟨_,_,rfl,rfl,rfl⟩,rfl⟩,rfl⟩,(Mem.Less.refl _),?_⟩
     exact ⟨rfl,rfl⟩
    ·rw [if_neg (by simp)]
     refine cF_ ?_
     iterate 3 refine s1_ ?_
     refine AWP.draw [(0,true),(2,true),(1,false),(3,true),(4,true),(5,true),(6,true)] [] mixed (by kernel_rfl) ?_
     iterate 2 refine s1_ ?_
     refine draw_only rfl ?_
     refine ca_ rfl (Bl.StringF _ b15 _ T2 hT2 (by omega)) ?_
     rintro _ S1 ⟨rfl,h1⟩
     rw [h1];clear h1 S1
     refine arun_nil ⟨fun _=>less_,?_⟩
     iterate 6 refine s1_ ?_
     refine su_ [(1,_),(9,_),(11,_),(12,_),(13,_),(15,_),(16,_),(52,_),(19,_),(73,_),(6,_),(7,_),(8,_)] ?_
     refine AWP.lo S hlo ?_
     refine s1_ ?_
     refine ⟨_,S,⟨_,_,rfl,⟨_,_,rfl,⟨_,_,rfl,rfl,rfl⟩,rfl⟩,rfl⟩,(Mem.Less.refl _),?_⟩
     exact ⟨by unfold bodyV;rw [← hex2];rfl,rfl⟩
 ·rw [if_pos he]
  refine ACall.enter (rs:=[.tmp 6,.tmp 7,.tmp 8]) 78 [(0,.agg #[.int .i64 d.size,.slice pe d.ext.length ce,.slice pw d.waits.length cw,.int .i64 d.fuse,.bool d.down]),(1,.string s),(2,.bool text)] Tryz.func20 rfl rfl (Nat.le_of_ble_eq_true rfl) rfl ⟨rfl,rfl,rfl,trivial⟩ ?_
  iterate 2 refine s1_ ?_
  refine k_b5 rfl ?_
  intro b3 f3
  have g3:=f3
  repeat ((with_reducible replace g3:=fresh_set g3);obtain ⟨g3,_⟩:=g3)
  refine nl_ ?_
  iterate 8 refine s1_ ?_
  refine ca_ rfl (hopen.frame f3) ?_
  rintro _ S1 ⟨M,⟨p,oE,oW,hok,rfl,hM⟩,f1',h1⟩
  rw [h1];clear h1 S1
  have hSM:S.Less M:=by rw [hM];exact hok.less
  have hrd:RdV M p d:=by rw [hM];exact hok.rd (right_lens hR).1 (right_lens hR).2
  iterate 7 refine s1_ ?_
  refine su_ [(0,_),(1,_),(2,_),(3,_),(6,_),(7,_),(8,_),(9,_),(10,_)] ?_
  iterate 7 refine s1_ ?_
  refine su_ [(0,_),(1,_),(2,_),(3,_),(6,_),(7,_),(8,_),(9,_),(10,_),(26,_)] ?_
  refine cF_ ?_
  iterate 6 refine s1_ ?_
  refine ca_ rfl (hhead p _ (hrd.less less_)) ?_
  rintro _ S1 ⟨rfl,h1⟩
  rw [h1];clear h1 S1
  iterate 9 refine s1_ ?_
  refine su_ [(0,_),(1,_),(2,_),(3,_),(6,_),(7,_),(8,_),(9,_),(10,_),(26,_),(11,_),(12,_)] ?_
  iterate 9 refine s1_ ?_
  refine su_ [(0,_),(1,_),(2,_),(3,_),(6,_),(7,_),(8,_),(9,_),(10,_),(26,_),(11,_),(12,_),(35,_)] ?_
  refine cT_ ?_
  iterate 8 refine s1_ ?_
  refine su_ [(0,_),(1,_),(2,_),(3,_),(6,_),(7,_),(8,_),(9,_),(10,_),(26,_),(11,_),(12,_),(35,_)] ?_
  iterate 3 refine s1_ ?_
  refine ⟨_,S,⟨_,_,rfl,⟨_,_,rfl,⟨_,_,rfl,rfl,rfl⟩,rfl⟩,rfl⟩,less_,?_⟩
  exact ⟨rfl,rfl⟩
end Rec
end Go.Proofs.YthbadpcmdlfmdaaGreatDoor
namespace Go.Proofs.YthbadpcmdlfmdaaGreatDoor
open Go.RowKit
open Mv Disk Num
set_option maxRecDepth 4000
namespace Rec
noncomputable def readRP (d : D) (s : ByteArray) : Nat × List (List Nat) × Int := if (bodyP d s false).2.2 ≠ 0 then (0, [], (bodyP d s false).2.2) else ((bodyP d s false).1, splitL (bodyP d s false).2.1 ((bodyP d s false).1 : Int), splitE (bodyP d s false).2.1 ((bodyP d s false).1 : Int))
/-- What a read of records answers. -/
def ReadR (p : Nat × List (List Nat) × Int) (S : Mem) (r : Value) (S' : Mem) : Prop := ∃ v, r = .tuple #[.int .i64 (p.1 : Nat), v, .int .i64 p.2.2] ∧ S.Less S' ∧ SlOf RowR S' v p.2.1
theorem head_open {d : D} {s : ByteArray} (h : (headP d s).2.2 = 0) : openD d = (d, 0) ∧ Right d ∧ d.down = false ∧ headP d s = headD d s := by
 by_cases ho:(openD d).2=0
 ·have e:=headP_open ho s
  rcases openD_or d with ⟨h1,hR⟩ | ⟨h1,hR,hdn⟩ | ⟨h1,hR,hdn⟩
  ·rw [h1] at ho;simp at ho
  ·rw [h1] at ho;simp at ho
  ·exact ⟨h1,hR,hdn,e⟩
 ·rw [headP_shut ho] at h;exact absurd h ho
theorem headP_ok {d : D} {s : ByteArray} {w c : Nat} (h : headP d s = (w, c, 0)) : openD d = (d, 0) ∧ Right d ∧ d.down = false ∧ has d.ext s = true ∧ w ≤ 8 ∧ c ≤ 65536 ∧ sec (exOf d.ext s) = needN w c := by
 obtain ⟨h1,h2,h3,h4⟩:=head_open (d:=d) (s:=s) (by rw [h])
 rw [h4] at h
 exact ⟨h1,h2,h3,head_ok h2 h⟩
theorem body_size (d : D) (s : ByteArray) (t : Bool) : (bodyP d s t).2.1.size ≤ 2621440 := by
 unfold bodyP
 by_cases q1:(headP d s).2.2≠0
 ·rw [if_pos q1];exact Nat.zero_le _
 rw [if_neg q1]
 split
 ·exact Nat.zero_le _
 split
 ·exact Nat.zero_le _
 ·have q1:(headP d s).2.2=0:=by omega
  obtain ⟨_,_,_,_,k2,k3,_⟩:=headP_ok (d:=d) (s:=s) (w:=(headP d s).1) (c:=(headP d s).2.1) (by rw [← q1])
  have:=mul_le_each k2 k3
  show (bs _).size≤_
  rw [size_bs,List.length_take]
  omega
theorem rec_Read (v : Value) (d : D) (s : ByteArray) (S : Mem) (hd : DkR S v d) (hz : Dz d) :
  ACall Tryz.prog 8 #[v,.string s] S (ReadR (readRP d s) S):=by
 have hb:=fun M h=>rec_body v d s false M h hz
 have hsz:=body_size d s false
 unfold readRP
 generalize bodyP d s false=q at *
 obtain ⟨w,b,e⟩:=q
 simp only [bodyV] at hb
 simp only at hsz ⊢
 have hsp:=fun M=>numV_Split b (w:Int) M (by omega)
 obtain ⟨pe,ce,pw,cw,rfl,hE,hW⟩:=id hd
 by_cases he:e=0
 ·subst he
  rw [if_neg (by simp)]
  refine ACall.enter (rs:=[.tmp 4,.tmp 5,.tmp 6]) 30 [(0,.agg #[.int .i64 d.size,.slice pe d.ext.length ce,.slice pw d.waits.length cw,.int .i64 d.fuse,.bool d.down]),(1,.string s)] Tryz.func8 rfl rfl (Nat.le_of_ble_eq_true rfl) rfl ⟨rfl,rfl,trivial⟩ ?_
  iterate 2 refine s1_ ?_
  refine k_b5 rfl ?_
  intro b2 f2
  have g2:=f2
  repeat ((with_reducible replace g2:=fresh_set g2);obtain ⟨g2,_⟩:=g2)
  refine nl_ ?_
  iterate 9 refine s1_ ?_
  refine ca_ rfl (hb _ (hd.less less_)) ?_
  rintro _ S1 ⟨rfl,h1⟩
  rw [h1];clear h1 S1
  iterate 9 refine s1_ ?_
  refine su_ [(0,_),(1,_),(2,_),(4,_),(5,_),(6,_),(7,_),(8,_),(9,_)] ?_
  iterate 7 refine s1_ ?_
  refine su_ [(0,_),(1,_),(2,_),(4,_),(5,_),(6,_),(7,_),(8,_),(9,_),(19,_)] ?_
  refine cF_ ?_
  iterate 6 refine s1_ ?_
  refine ca_ rfl (hsp _) ?_
  rintro _ T ⟨v,rfl,hl,hv⟩
  have hST:=(show S.Less _ from less_).trans hl
  iterate 7 refine s1_ ?_
  refine su_ [(0,_),(1,_),(2,_),(4,_),(5,_),(6,_),(7,_),(8,_),(9,_),(19,_),(10,_)] ?_
  iterate 10 refine s1_ ?_
  refine su_ [(0,_),(1,_),(2,_),(4,_),(5,_),(6,_),(7,_),(8,_),(9,_),(19,_),(10,_)] ?_
  refine s1_ ?_
  refine ⟨_,T,⟨_,_,rfl,⟨_,_,rfl,⟨_,_,rfl,rfl,rfl⟩,rfl⟩,rfl⟩,less_,?_⟩
  exact ⟨v,rfl,hST,hv⟩
 ·rw [if_pos he]
  refine ACall.enter (rs:=[.tmp 4,.tmp 5,.tmp 6]) 30 [(0,.agg #[.int .i64 d.size,.slice pe d.ext.length ce,.slice pw d.waits.length cw,.int .i64 d.fuse,.bool d.down]),(1,.string s)] Tryz.func8 rfl rfl (Nat.le_of_ble_eq_true rfl) rfl ⟨rfl,rfl,trivial⟩ ?_
  iterate 2 refine s1_ ?_
  refine k_b5 rfl ?_
  intro b2 f2
  have g2:=f2
  repeat ((with_reducible replace g2:=fresh_set g2);obtain ⟨g2,_⟩:=g2)
  refine nl_ ?_
  iterate 9 refine s1_ ?_
  refine ca_ rfl (hb _ (hd.less less_)) ?_
  rintro _ S1 ⟨rfl,h1⟩
  rw [h1];clear h1 S1
  iterate 9 refine s1_ ?_
  refine su_ [(0,_),(1,_),(2,_),(4,_),(5,_),(6,_),(7,_),(8,_),(9,_)] ?_
  iterate 7 refine s1_ ?_
  refine su_ [(0,_),(1,_),(2,_),(4,_),(5,_),(6,_),(7,_),(8,_),(9,_),(19,_)] ?_
  refine cT_ ?_
  iterate 8 refine s1_ ?_
  refine su_ [(0,_),(1,_),(2,_),(4,_),(5,_),(6,_),(7,_),(8,_),(9,_),(19,_)] ?_
  iterate 2 refine s1_ ?_
  refine ⟨_,S,⟨_,_,rfl,⟨_,_,rfl,⟨_,_,rfl,rfl,rfl⟩,rfl⟩,rfl⟩,less_,?_⟩
  exact ⟨_,rfl,Mem.Less.refl _,SlOf.nil _ _⟩
end Rec
end Go.Proofs.YthbadpcmdlfmdaaGreatDoor
namespace Go.Proofs.YthbadpcmdlfmdaaGreatDoor
open Go.RowKit
open Mv Disk Num
namespace Rec
/-- Of a write that went well: the body's sectors wait, ahead of the seal. -/
theorem put_steps {d : D} {s : ByteArray} {w c : Nat} {body : ByteArray} (h : (putP d s w c body).2 = 0) :
  (newD d s (needN w c:Nat)).2=0∧(putTo (newD d s (needN w c:Nat)).1 s (padS body) (needN w c-1)).2=0∧putP d s w c body=sealD (putTo (newD d s (needN w c:Nat)).1 s (padS body) (needN w c-1)).1 s (headS w c):=by
 unfold putP at h ⊢
 by_cases q1:(newD d s (needN w c:Nat)).2=0
 ·rw [if_neg (by omega)] at h ⊢
  by_cases q2:(putTo (newD d s (needN w c:Nat)).1 s (padS body) (needN w c-1)).2=0
  ·rw [if_neg (by omega)];exact ⟨q1,q2,rfl⟩
  ·rw [if_pos q2] at h;exact absurd h q2
 ·rw [if_pos q1] at h;exact absurd h q1
theorem put_law {d : D} {s : ByteArray} {w c : Nat} {body : ByteArray} (hR : Right d) (hdn : d.down = false) (hf : d.fuse ≤ 9223372036854775807) (hk : w ≤ 8) (hc : c ≤ 65536) (hb : body.size = eachN w * c) (h : (putP d s w c body).2 = 0) :
  ∃ z,putP d s w c body=(z,0)∧Right z∧z.down=false∧z.fuse≤9223372036854775807∧z.waits = []∧FileR z s w c body ∧ ∀ o k,o≠s→readO z o k=readO d o k:=by
 obtain ⟨q1,q2,q3⟩:=put_steps h
 rw [q3] at h ⊢
 have hn1:=needN_pos w c
 obtain ⟨hR1,hd1,hf1,_⟩:=(new_law (s:=s) (n:=((needN w c:Nat):Int)) hR hdn).2 q1
 have hf1:(newD d s (needN w c:Nat)).1.fuse≤9223372036854775807:=by rw [hf1];exact hf
 obtain ⟨kR,kf,kd⟩:=putTo_keep hR1 hd1 hf1 s (padS body) (needN w c-1)
 have kd:=kd q2
 obtain ⟨f,f0,f1,e⟩:=putTo_yes (s:=s) (all:=padS body) hR hdn hf q1 _ q2
 rw [e] at kR kf kd h ⊢
 obtain ⟨x1,x2⟩:=exOf_new hR q1
 obtain ⟨z,z1,z2,z3,z4,z5,z6,z7⟩:=sealed (w:=w) (c:=c) (body:=body) kR kd kf (show has (newD d s (needN w c:Nat)).1.ext s=true from x2) (by
  show sec (exOf (newD d s (needN w c:Nat)).1.ext s)=_
  rw [x1];unfold sec;simp only;rw [zeros_size,Int.toNat_natCast];omega) (fun i hi=>by
  rw [seen_put hR q1,if_pos ⟨rfl,by omega,by omega⟩]
  rw [show (((i+1:Nat):Int)).toNat-1=i from by omega]) h
 refine ⟨z,z1,z2,z3,z4,z5,z6,fun o k ho=>(z7 o k ho).trans ?_⟩
 rw [read_ok kR kd,read_ok hR hdn]
 have hp:(placeD (putE' d s (padS body) (needN w c:Nat) (needN w c-1) f) o k).2=(placeD d o k).2:=place_other hR q1 ho k
 rw [hp]
 by_cases hp0:(placeD d o k).2=0
 ·rw [if_neg (by simpa using hp0),if_neg (by simpa using hp0),seen_put hR q1,if_neg (fun h=>ho h.1),seen_other hR q1 ho hp0]
 ·rw [if_pos hp0,if_pos hp0]
theorem padS_data (s : ByteArray) : (padS s).data.toList = s.data.toList ++ List.replicate ((64 - s.size % 64) % 64) 0 := bs_data _
theorem headS_list (w c : Nat) : (headS w c).data.toList = (preS w c ++ Crc.tailS (sumOf (preS w c))).data.toList ++ List.replicate 52 0 := by
 unfold headS
 have h8:(preS w c).size=8:=by unfold preS;rw [size_bs];rfl
 rw [padS_data,ByteArray.size_append,h8,Crc.tailS_size]
theorem headS_take (w c : Nat) : (headS w c).extract 0 12 = preS w c ++ Crc.tailS (sumOf (preS w c)) := by
 have h8:(preS w c).size=8:=by unfold preS;rw [size_bs];rfl
 apply str_ext
 rw [Lib.extract_data,headS_list]
 have hl:(preS w c ++ Crc.tailS (sumOf (preS w c))).data.toList.length=12:=by rw [St.len_list,ByteArray.size_append,h8,Crc.tailS_size]
 rw [List.drop_zero,List.take_append_of_le_length (by omega),List.take_of_length_le (by omega)]
theorem form_head {w c : Nat} (hk : w ≤ 8) (hc : c ≤ 65536) : formP (headS w c) = (w, c, 0) := by
 have hl:(headS w c).data.toList = [87,82,UInt8.ofNat w] ++ five c ++ (Crc.tailS (sumOf (preS w c))).data.toList ++ List.replicate 52 0:=by
  rw [headS_list]
  have:(preS w c ++ Crc.tailS (sumOf (preS w c))).data.toList=(preS w c).data.toList ++ (Crc.tailS (sumOf (preS w c))).data.toList:=by simp
  rw [this]
  unfold preS
  rw [bs_data]
 have h5:(five c).length=5:=rfl
 have h4:(Crc.tailS (sumOf (preS w c))).data.toList.length=4:=by rw [St.len_list,Crc.tailS_size]
 have hw:(UInt8.ofNat w).toNat=w:=by rw [UInt8.toNat_ofNat'];omega
 have hop:openS ((headS w c).extract 0 12)=(preS w c,0):=by
  rw [headS_take]
  exact Crc.open_ok (preS w c) (by unfold preS;rw [size_bs];show 8≤65536;decide)
 have g3:(headS w c).data.toList.drop 12=List.replicate 52 0:=by
  rw [hl,List.drop_append,List.drop_of_length_le (by simp only [List.length_append,h4,h5,List.length_cons,List.length_nil];omega)]
  simp only [List.length_append,h4,h5,List.length_cons,List.length_nil]
  rfl
 unfold formP
 rw [if_neg,hop,if_neg (by simp)]
 ·refine Prod.ext ?_ (Prod.ext ?_ rfl)
  ·show ((headS w c).data.toList.getD 2 0).toNat=w
   rw [hl];exact hw
  ·show ofB (((headS w c).data.toList.drop 3).take 5)=c
   rw [hl]
   show ofB ((five c ++ (Crc.tailS (sumOf (preS w c))).data.toList ++ List.replicate 52 0).take 5)=c
   rw [List.append_assoc,List.take_append_of_le_length (by rw [h5];omega),List.take_of_length_le (by rw [h5];omega)]
   exact ofB_five c (by unfold top;omega)
 ·rintro (h | h | h)
  ·exact h (by rw [hl];rfl)
  ·rw [hl] at h
   have h:8<(UInt8.ofNat w).toNat:=h
   omega
  ·rw [g3] at h;revert h;decide
theorem file_head {z : D} {s : ByteArray} {w c : Nat} {body : ByteArray} (hk : w ≤ 8) (hc : c ≤ 65536) (h : FileR z s w c body) : headP z s = (w, c, 0) := by
 unfold headP
 rw [h.head,if_neg (by simp),form_head hk hc,if_neg (by simp),h.size,(need_iff hk).2 hc,if_neg (by simp)]
theorem file_bodyL {z : D} {s : ByteArray} {w c : Nat} {body : ByteArray} (hb : body.size = eachN w * c) (h : FileR z s w c body) : ∀ k, k ≤ needN w c - 1 → bodyL z s k = (padS body).data.toList.take (64 * k)
 | 0,_=>rfl
 | k+1,hk=>by
  have hall:(padS body).size=64*(needN w c-1):=by rw [padS_size,hb];unfold needN;omega
  rw [bodyL,file_bodyL hb h k (by omega),h.secs k (by omega)]
  unfold secAt
  show _ ++ ((padS body).extract (64*k) (64*k+64)).data.toList=_
  rw [Lib.extract_data,show 64*(k+1)=64*k+64 from by omega,show 64*k+64-64*k=64 from by omega,List.take_add]
theorem file_body {z : D} {s : ByteArray} {w c : Nat} {body : ByteArray} (hk : w ≤ 8) (hc : c ≤ 65536) (hb : body.size = eachN w * c) (h : FileR z s w c body) : bodyP z s (decide (w = 0)) = (w, body, 0) := by
 have hall:(padS body).size=64*(needN w c-1):=by rw [padS_size,hb];unfold needN;omega
 have hl:=file_bodyL hb h (needN w c-1) (Nat.le_refl _)
 rw [List.take_of_length_le (by rw [St.len_list,hall];exact Nat.le_refl _),padS_data] at hl
 have hbl:body.data.toList.length=eachN w*c:=by rw [St.len_list,hb]
 unfold bodyP
 rw [file_head hk hc h]
 simp only [hl,← hbl,List.drop_left,List.take_left]
 rw [if_neg (by simp),if_neg (by simp),if_neg]
 ·rw [bs_of]
 ·unfold zeroL;simp
end Rec
end Go.Proofs.YthbadpcmdlfmdaaGreatDoor
namespace Go.Proofs.YthbadpcmdlfmdaaGreatDoor
open Go.RowKit
open Mv Disk Num
namespace Rec
theorem row_all {w : Nat} {l : List (List Nat)} (h : l.all (rowOK w) = true) : ∀ x ∈ l, x.length = w ∧ ∀ n ∈ x, n < top := by
 intro x hx
 have:=List.all_eq_true.1 h x hx
 unfold rowOK at this
 rw [Bool.and_eq_true,decide_eq_true_eq] at this
 exact ⟨this.2,(recOK_all this.1).2.2⟩
theorem rows_read {z : D} {s : ByteArray} {w : Nat} {l : List (List Nat)} (h1 : 1 ≤ w) (h8 : w ≤ 8) (hl : l.all (rowOK w) = true) (h : bodyP z s false = (w, bs (recsB l), 0)) : readRP z s = (w, l, 0) := by
 have ha:=row_all hl
 have hsz:(bs (recsB l)).size=l.length*(5*w):=by rw [size_bs,recsB_length l w fun x hx=>(ha x hx).1]
 have e:splitE (bs (recsB l)) (w:Int)=0:=by
  unfold splitE
  rw [if_neg (by omega),if_neg]
  rw [hsz,Int.toNat_natCast]
  simp
 have e2:splitL (bs (recsB l)) (w:Int)=l:=by
  unfold splitL
  rw [if_pos e,rowsOf,bs_data,Int.toNat_natCast,recsB_length l w fun x hx=>(ha x hx).1,Nat.mul_div_cancel _ (by omega)]
  exact rows_recs l w (fun x hx=>(ha x hx).1) (fun x hx=>(ha x hx).2)
 unfold readRP
 rw [h]
 simp only
 rw [if_neg (by simp),e,e2]
theorem file_rows {z : D} {s : ByteArray} {w : Nat} {l : List (List Nat)} (h1 : 1 ≤ w) (h8 : w ≤ 8) (hc : l.length ≤ 65536) (hl : l.all (rowOK w) = true) (h : FileR z s w l.length (bs (l.flatMap recB))) : readRP z s = (w, l, 0) := by
 refine rows_read h1 h8 hl ?_
 have:=file_body h8 hc (by
  have ha:=row_all hl
  show (bs (recsB l)).size=_
  rw [size_bs,recsB_length l w fun x hx=>(ha x hx).1]
  unfold eachN
  rw [if_neg (by omega),Nat.mul_comm]) h
 rw [decide_eq_false (by omega)] at this
 exact this
theorem write_yes {d : D} {s : ByteArray} {w : Int} {l : List (List Nat)} (hf : d.fuse ≤ 9223372036854775807) (h : (writeP d s w l).2 = 0) :
  ∃ z,writeP d s w l=(z,0)∧Right z∧z.down=false∧z.fuse≤9223372036854775807∧z.waits = []∧1≤w∧w≤8∧l.length≤65536∧l.all (rowOK w.toNat)=true∧FileR z s w.toNat l.length (bs (l.flatMap recB)) ∧ ∀ o k,o≠s→readO z o k=readO d o k:=by
 unfold writeP at h ⊢
 by_cases q1:w<1∨8<w∨65536<l.length
 ·rw [if_pos q1] at h;exact absurd h (by unfold refD;simp)
 rw [if_neg q1] at h ⊢
 by_cases q2:l.all (rowOK w.toNat)=true
 ·rw [if_pos q2] at h ⊢
  unfold opened at h ⊢
  rcases openD_or d with ⟨ho,hR⟩ | ⟨ho,hR,hdn⟩ | ⟨ho,hR,hdn⟩ <;> rw [ho] at h ⊢
  ·simp at h
  ·simp at h
  ·rw [if_pos rfl] at h ⊢
   have ha:=row_all q2
   obtain ⟨z,z1,z2,z3,z4,z5,z6,z7⟩:=put_law hR hdn hf (by omega) (by omega) (by
    show (bs (recsB l)).size=_
    rw [size_bs,recsB_length l w.toNat fun x hx=>(ha x hx).1]
    unfold eachN
    rw [if_neg (by omega),Nat.mul_comm]) h
   exact ⟨z,z1,z2,z3,z4,z5,by omega,by omega,by omega,q2,z6,z7⟩
 ·rw [if_neg q2] at h;exact absurd h (by unfold refD;simp)
/-! ### What the power leaves -/
end Rec
end Go.Proofs.YthbadpcmdlfmdaaGreatDoor
namespace Go.Proofs.YthbadpcmdlfmdaaGreatDoor
open Go.RowKit
open Mv Disk Num
namespace Top
open Rec
/-- A write with power that is not bounded. -/
theorem write_free {d : D} {s y : ByteArray} {k : Int} (hf : d.fuse = -1) (hp : (placeD d s k).2 = 0) (hy : y.size = 64) (hw : d.waits.length < 16384) : writeD d s k y = (addW d (s, k, y), 0) := by
 unfold writeD
 rw [if_neg (by simpa using hp),if_neg (by simpa using hy),if_neg (by omega)]
 unfold fuseD
 rw [if_neg (show ¬ (addW d (s,k,y)).fuse=0 from by show ¬ d.fuse=0;omega),if_neg (show ¬ 0<(addW d (s,k,y)).fuse from by show ¬ 0<d.fuse;omega)]
theorem place_at {d : D} {s : ByteArray} {k : Int} (hh : has d.ext s = true) (h0 : 0 ≤ k) (h1 : k < sec (exOf d.ext s)) : (placeD d s k).2 = 0 := by
 unfold placeD
 rw [if_pos hh,if_neg (by omega)]
theorem putTo_free {e : D} {s all : ByteArray} {n : Nat} (hf : e.fuse = -1) (hw : e.waits = []) (hh : has e.ext s = true) (hs : sec (exOf e.ext s) = n) (hn : n ≤ 16384) (ha : all.size = 64 * (n - 1)) :
  ∀ k,k+1≤n→putTo e s all k=({ e with waits:=secsW s all k },0)
 | 0,_=>by
  obtain ⟨z,x,w,f,b⟩:=e
  obtain rfl:w = []:=hw
  rfl
 | k+1,h=>by
  have ih:=putTo_free hf hw hh hs hn ha k (by omega)
  rw [putTo,ih,if_pos rfl]
  have hl:(secsW s all k).length=k:=by unfold secsW;simp
  have h1:(placeD { e with waits:=secsW s all k } s ((k+1:Nat):Int)).2=0:=place_at (d:={ e with waits:=secsW s all k }) hh (by omega) (by rw [show exOf ({ e with waits:=secsW s all k }:D).ext s=exOf e.ext s from rfl,hs];omega)
  have h2:=write_free (d:={ e with waits:=secsW s all k }) (s:=s) (k:=((k+1:Nat):Int)) (y:=secAt all k) hf h1 (secAt_size (by omega)) (by show (secsW s all k).length<16384;omega)
  rw [h2]
  unfold addW
  simp only
  rw [secsW_succ]
theorem head_size (w c : Nat) : (headS w c).size = 64 := by
 rw [← St.len_list,headS_list,List.length_append,List.length_replicate,St.len_list,ByteArray.size_append,Crc.tailS_size]
 unfold preS
 rw [size_bs]
 simp only [List.length_append,five_length,List.length_cons,List.length_nil]
theorem put_free {d : D} {s : ByteArray} {w c : Nat} {body : ByteArray} (hR : Right d) (hdn : d.down = false) (hf : d.fuse = -1) (hw : d.waits = []) (hs : nm s) (hno : has d.ext s = false) (hroom : (used d.ext : Int) + (needN w c : Nat) ≤ d.size) (hb : body.size = eachN w * c) (hn : needN w c ≤ 16384) :
  (putP d s w c body).2=0:=by
 have hn1:=needN_pos w c
 have hnew:(newD d s (needN w c:Nat)).2=0:=by
  unfold newD
  rw [if_neg (by rintro (h | h);exact h hs;omega),if_neg (by rw [hno];simp),if_neg (by omega)]
 obtain ⟨hR1,hd1,hf1,_⟩:=(new_law (s:=s) (n:=((needN w c:Nat):Int)) hR hdn).2 hnew
 obtain ⟨x1,x2⟩:=exOf_new hR hnew
 obtain ⟨_,_,_,_,x5⟩:=new_yes hnew
 have hall:(padS body).size=64*(needN w c-1):=by rw [padS_size,hb];unfold needN;omega
 have hsec:sec (exOf (newD d s (needN w c:Nat)).1.ext s)=needN w c:=by
  rw [x1];unfold sec;simp only;rw [zeros_size];omega
 have hw1:(newD d s (needN w c:Nat)).1.waits = []:=by rw [x5];exact hw
 have hp:=putTo_free (hf1.trans hf) hw1 x2 hsec hn hall (needN w c-1) (by omega)
 have hRp:=(putTo_keep hR1 hd1 (by rw [hf1,hf];decide) s (padS body) (needN w c-1)).1
 unfold putP
 rw [if_neg (by simpa using hnew),hp,if_neg (by simp)]
 rw [hp] at hRp
 simp only at hRp ⊢
 unfold sealD
 have hpl:(placeD (settleD { (newD d s (needN w c:Nat)).1 with waits:=secsW s (padS body) (needN w c-1) } fun _=>true) s 0).2=0:=by
  rw [place_settle hRp]
  exact place_at (d:={ (newD d s (needN w c:Nat)).1 with waits:=secsW s (padS body) (needN w c-1) }) x2 (by decide) (by rw [show exOf ({ (newD d s (needN w c:Nat)).1 with waits:=secsW s (padS body) (needN w c-1) }:D).ext s=exOf (newD d s (needN w c:Nat)).1.ext s from rfl,hsec];omega)
 have hfin:=write_free (d:=settleD { (newD d s (needN w c:Nat)).1 with waits:=secsW s (padS body) (needN w c-1) } fun _=>true) (hf1.trans hf) hpl (head_size w c) (by show 0<16384;decide)
 rw [hfin,if_pos rfl]
/-- A fresh disk. -/
def freshD (n : Int) : D := ⟨n, [], [], -1, false⟩
theorem right_fresh {n : Int} (h0 : 0 ≤ n) (h1 : n ≤ 16384) : Right (freshD n) := ⟨h0, h1, by show 0 ≤ 16384; decide, by show (-1 : Int) ≤ -1; decide, ⟨fun x h => (by cases h), List.Pairwise.nil, by show ((0 : Nat) : Int) ≤ n; omega⟩, fun w h => (by cases h)⟩
theorem make_fresh {n : Int} (h0 : 0 ≤ n) (h1 : n ≤ 16384) : makeD n = (freshD n, 0) := by
 unfold makeD
 rw [if_neg (by omega)];rfl
/-- A file of a few records, on a disk that has room, is read as it was written. -/
theorem write_fresh {n : Int} {s : ByteArray} {w : Nat} {l : List (List Nat)} (h0 : 0 ≤ n) (hn : n ≤ 16384) (hs : nm s) (h1 : 1 ≤ w) (h8 : w ≤ 8) (hl : l.all (rowOK w) = true) (hc : 40 * l.length + 127 ≤ 64 * n) :
  ∃ z,writeP (freshD n) s w l=(z,0)∧Right z∧z.down=false∧z.fuse≤9223372036854775807∧readRP z s=(w,l,0):=by
 have ha:=row_all hl
 have hbody:(bs (l.flatMap recB)).size=eachN w*l.length:=by
  show (bs (recsB l)).size=_
  rw [size_bs,recsB_length l w fun x hx=>(ha x hx).1]
  unfold eachN
  rw [if_neg (by omega),Nat.mul_comm]
 have hneed:64*needN w l.length≤64+(40*l.length+63):=by
  have:=Nat.mul_le_mul_right l.length (eachN_le h8)
  unfold needN;omega
 have hc2:l.length≤65536:=by omega
 have hput:=put_free (d:=freshD n) (s:=s) (w:=w) (c:=l.length) (body:=bs (l.flatMap recB)) (right_fresh h0 hn) rfl rfl rfl hs rfl (by show ((0:Nat):Int)+_≤n;omega) hbody (by omega)
 have hw:writeP (freshD n) s (w:Int) l=putP (freshD n) s w l.length (bs (l.flatMap recB)):=by
  unfold writeP
  rw [if_neg (by omega),Int.toNat_natCast,if_pos hl,opened_ok (right_fresh h0 hn) rfl]
 obtain ⟨z,z1,z2,z3,z4,z5,_,_,_,_,z6,_⟩:=write_yes (d:=freshD n) (s:=s) (w:=(w:Int)) (l:=l) (by show (-1:Int)≤_;decide) (by rw [hw];exact hput)
 rw [Int.toNat_natCast] at z6
 exact ⟨z,z1,z2,z3,z4,file_rows h1 h8 hc2 hl z6⟩
/-! ### Records of a list -/
def recS (w : Nat) (out : List (List Nat)) (x : List Nat) : List (List Nat) := if x.length = w ∧ out.length < 40 ∧ (x.all fun n => decide (n < 1099511627776)) = true then out ++ [x] else out
def recsL (l : List (List Nat)) (w : Nat) : List (List Nat) := l.foldl (recS w) []
theorem recs_inv {w : Nat} (h1 : 1 ≤ w) (h8 : w ≤ 8) : ∀ (l out : List (List Nat)), out.length ≤ 40 → out.all (rowOK w) = true → (l.foldl (recS w) out).length ≤ 40 ∧ (l.foldl (recS w) out).all (rowOK w) = true
 | [],out,h,k=>⟨h,k⟩
 | x :: l,out,h,k=>by
  rw [List.foldl_cons]
  refine recs_inv h1 h8 l _ ?_ ?_
  ·unfold recS;split
   ·rw [List.length_append];simp;omega
   ·exact h
  ·unfold recS;split
   ·rename_i q
    rw [List.all_append,k]
    simp only [List.all_cons,List.all_nil,Bool.and_true,Bool.true_and]
    unfold rowOK recOK
    simp only [Bool.and_eq_true,decide_eq_true_eq]
    exact ⟨⟨⟨by omega,by omega⟩,q.2.2⟩,q.1⟩
   ·exact k
theorem recsL_ok {w : Nat} (h1 : 1 ≤ w) (h8 : w ≤ 8) (l : List (List Nat)) : (recsL l w).length ≤ 40 ∧ (recsL l w).all (rowOK w) = true := recs_inv h1 h8 l [] (by decide) rfl
end Top
end Go.Proofs.YthbadpcmdlfmdaaGreatDoor
namespace Go.Proofs.YthbadpcmdlfmdaaGreatDoor
open Go.RowKit
open Mv Disk Num Loser
namespace Top
/-- What holds between two rounds: as SoI; and what was told is not above what was told last. -/
structure SoL (ks cur : List (List Nat)) (told : List Bool) (last : List Nat) (at_ : Int) (m : Nat) : Prop where
  so : SoI ks cur told last at_ m
  up : ∀ i, i < ks.length → told.getD i false = true → lessB last (key ks i) = false
theorem SoL.start (ks : List (List Nat)) (hr : ∀ y ∈ ks, y.length ≤ 17592186043904) : SoL ks ks (List.replicate ks.length false) [] (-1) 0 :=
 ⟨SoI.start ks hr,fun i hi h=>by
  exfalso
  simp [List.getD,hi] at h⟩
theorem SoL.win_ne {ks cur : List (List Nat)} {told : List Bool} {last : List Nat} {at_ : Int} {m : Nat} (h : SoL ks cur told last at_ m) (hk : 1 ≤ ks.length) (hne : ∀ i, i < ks.length → key ks i ≠ []) (hm : m < ks.length) : key cur (win cur 1) ≠ [] := fun he => by
 have hd:=h.so.done1 hk he
 have hall:told=List.replicate ks.length true:=by
  apply List.ext_getElem
  ·rw [h.so.tl,List.length_replicate]
  ·intro i h1 h2
   have hi:i<ks.length:=by rw [← h.so.tl];exact h1
   have:=hd i hi
   rw [decide_eq_true (hne i hi)] at this
   rw [List.getElem_replicate]
   simpa [List.getD,h1] using this
 have hc:=h.so.cnt
 rw [hall,List.count_replicate_self] at hc
 omega
theorem SoL.step {ks cur : List (List Nat)} {told : List Bool} {last : List Nat} {at_ : Int} {m : Nat} (h : SoL ks cur told last at_ m) (hk : 1 ≤ ks.length) (he : key cur (win cur 1) ≠ []) :
  SoL ks (cur.set (win cur 1) []) (told.set (win cur 1) true) (key cur (win cur 1)) (win cur 1:Nat) (m+1):=by
 obtain ⟨hw,ht,hc,hl,_⟩:=h.so.win_ hk he
 refine ⟨h.so.step hk he,fun i hi hti=>?_⟩
 by_cases e:i=win cur 1
 ·subst e;rw [← hc];exact lessB_irrefl _
 ·have hti':told.getD i false=true:=by
   have:(told.set (win cur 1) true).getD i false=told.getD i false:=by simp [List.getD,Ne.symm e]
   rw [← this];exact hti
  have hu:=h.up i hi hti'
  cases hx:lessB (key cur (win cur 1)) (key ks i) with
  | false=>rfl
  | true =>
   cases hy:lessB last (key cur (win cur 1)) with
   | true=>rw [lessB_trans _ _ _ hy hx] at hu;cases hu
   | false =>
    have:=lessB_total _ _ hy hl
    rw [this,hx] at hu;cases hu
/-- In the end no record is above the last one. -/
theorem SoL.done {ks cur : List (List Nat)} {told : List Bool} {last : List Nat} {at_ : Int} {m : Nat} (h : SoL ks cur told last at_ m) (hm : ks.length ≤ m) (hne : ∀ i, i < ks.length → key ks i ≠ []) : ∀ i, i < ks.length → lessB last (key ks i) = false := fun i hi =>
 h.up i hi (by rw [h.so.done2 hm i hi,decide_eq_true (hne i hi)])
end Top
end Go.Proofs.YthbadpcmdlfmdaaGreatDoor
namespace Go.Proofs.YthbadpcmdlfmdaaGreatDoor
open Go.RowKit
open Bits Mv
set_option maxRecDepth 20000
namespace Bits
theorem add_partI (L : List Bool) (v r k : Nat) (hv : v ≤ 18446744073709551615) (hk : L.length % 8 + k ≤ 8) (hr : k ≤ r) :
  bits .or .u64 (IntKind.u64.wrap (((num (rest L):Nat):Int)*2 ^ ((k:Int)).toNat)) (bits .and .u64 ((v:Int) / 2 ^ ((r:Int)-(k:Int)).toNat) (IntKind.u64.wrap (IntKind.u64.wrap (1*2 ^ ((k:Int)).toNat)-1)))=((num (rest L ++ numB (v / 2 ^ (r-k)) k):Nat):Int) ∧
   num (rest L ++ numB (v / 2 ^ (r-k)) k)<256:=by
 obtain ⟨A,B,h1,h2,h3,h4,h5⟩:=add_part L v (r-k) k hv hk
 rw [show ((r:Int)-(k:Int)).toNat=r-k from by omega,Int.toNat_natCast,Int.one_mul,h1,h2,h3]
 exact ⟨rfl,by omega⟩
def wrM (S : Mem) (p : Nat) (o : Option (Nat × Nat)) (L : List Bool) : Mem :=
  (outM S o 5 (bytesV L)).set p ⟨86, [outV o (L.length / 8), .int .u64 (num (rest L) : Nat), .int .i64 (L.length % 8 : Nat)], 3⟩
theorem wrM_eight (S : Mem) (p b c : Nat) (M C : List Bool) (h : M.length % 8 + C.length = 8) : wrM S p (some (b, c)) (M ++ C) =
  (S.set b ⟨5,bytesV M ++ [.int .u8 (num (rest M ++ C):Nat)],c⟩).set p ⟨86,[.slice (some ⟨b,0,none⟩) (M.length / 8+1) c,.int .u64 0,.int .i64 0],3⟩:=by
 unfold wrM outM outV
 have e:(M ++ C).length / 8=M.length / 8+1:=by rw [List.length_append];omega
 have e9:(((M ++ C).length % 8:Nat):Int)=0:=by rw [List.length_append];omega
 simp only [bytesV_eight M C h,(rest_eight M C h).2,e,e9]
 rfl
theorem wrM_few (S : Mem) (p : Nat) (o : Option (Nat × Nat)) (M C : List Bool) (h : M.length % 8 + C.length < 8) : wrM S p o (M ++ C) =
  (outM S o 5 (bytesV M)).set p ⟨86,[outV o (M.length / 8),.int .u64 (num (rest M ++ C):Nat),.int .i64 ((M.length % 8:Nat)+(C.length:Nat))],3⟩:=by
 unfold wrM
 have e:(M ++ C).length / 8=M.length / 8:=by rw [List.length_append];omega
 have e9:(((M ++ C).length % 8:Nat):Int)=(M.length % 8:Nat)+(C.length:Nat):=by rw [List.length_append];omega
 rw [bytesV_few M C h,(rest_few M C h).2,e,e9]
structure OkW (S : Mem) (p : Nat) (o : Option (Nat × Nat)) (L : List Bool) : Prop where
  fp : Fresh S p
  nil : o = none → L.length < 8
  own : ∀ b c, o = some (b, c) → Fresh S b ∧ b ≠ p ∧ L.length / 8 ≤ c
end Bits
set_option maxHeartbeats 1000000 in
theorem bitsV_Add (p v width : Nat) (L : List Bool) (o : Option (Nat × Nat)) (S : Mem) (h3 : width ≤ 64) (h5 : v ≤ 18446744073709551615) (hlen : L.length ≤ 1048576 + 64) (hok : OkW S p o L) :
  ACall Tryz.prog 34 #[.pointer (some ⟨p,0,none⟩),.int .u64 v,.int .i64 width] (wrM S p o L) fun r S'=>r = .tuple #[] ∧ ∃ o',OkW S p o' (L ++ numB v width)∧S'=wrM S p o' (L ++ numB v width):=by
 refine ACall.enter (rs:=[]) 74 [(0,.pointer (some ⟨p,0,none⟩)),(1,.int .u64 v),(2,.int .i64 width)] Tryz.func34 rfl rfl (Nat.le_of_ble_eq_true rfl) rfl ⟨rfl,rfl,rfl,trivial⟩ ?_
 refine s1_ ?_
 refine AWP.loop (X:=Nat × List Bool × Option (Nat × Nat)) (fun x=>[(0,.pointer (some ⟨p,0,none⟩)),(1,.int .u64 v),(2,.int .i64 x.1)]) (fun x=>wrM S p x.2.2 x.2.1) (fun x=>x.1≤width∧x.2.1 ++ numB v x.1=L ++ numB v width∧OkW S p x.2.2 x.2.1) (fun x=>x.1) ((width,L,o)) ⟨rfl,rfl,rfl,trivial⟩ less_ (⟨Nat.le_refl _,rfl,hok⟩) ?_
 rintro ⟨r,M,ov⟩ ⟨hr,hM,hok⟩
 (try dsimp only at *)
 have hMl:M.length≤1048576+128:=by have:=congrArg List.length hM;simp [numB_length] at this;omega
 obtain ⟨k,hk⟩ : ∃ k:Nat,(k:Int)=min (r:Int) (8-(M.length % 8:Nat)):=⟨(min (r:Int) (8-(M.length % 8:Nat))).toNat,by omega⟩
 have hk1:k≤r∧M.length % 8+k≤8∧(r=k∨M.length % 8+k=8):=by omega
 obtain ⟨hkr,hk8,hke⟩:=hk1
 obtain ⟨hR,hRb⟩:=add_partI M v r k h5 hk8 hkr
 have hfp:=hok.fp
 unfold wrM
 iterate 7 refine s1_ ?_
 refine su_ [(0,_),(1,_),(2,_),(9,_)] ?_
 refine AWP.condB rfl (fun hc=>?_) (fun hc=>?_)
 ·have hr0:0<r:=by simpa using hc
  iterate 11 refine s1_ ?_
  refine rC (Calm.minE hk rfl rfl) ?_
  iterate 3 refine s1_ ?_
  refine su_ [(0,_),(1,_),(2,_),(9,_),(6,_)] ?_
  refine s1_ ?_
  refine AWP.draw [(0,true),(1,true),(2,true),(3,true),(4,true),(5,true),(6,true),(7,true),(8,true),(9,true)] [] mixed (by kernel_rfl) ?_
  iterate 12 refine s1_ ?_
  refine su_ [(0,_),(1,_),(2,_),(9,_),(6,_),(7,_)] ?_
  refine s1_ ?_
  refine AWP.draw [(0,true),(1,true),(2,true),(3,true),(4,true),(5,true),(6,true),(7,true),(8,true),(9,true),(10,true),(11,true),(12,true),(13,true),(14,true),(15,true),(16,true),(17,true),(18,false),(19,true),(20,true),(21,false)] [18,21] mixed (by kernel_rfl) ?_
  iterate 18 refine s1_ ?_
  refine draw_only rfl ?_
  refine s1_ ?_
  refine arun_nil ⟨fun h=>absurd h (by decide),?_⟩
  iterate 2 refine s1_ ?_
  refine draw_only rfl ?_
  refine s1_ ?_
  refine arun_nil ⟨fun h=>absurd h (by decide),?_⟩
  iterate 2 refine s1_ ?_
  refine su_ [(0,_),(1,_),(2,_),(9,_),(6,_),(7,_)] ?_
  rw [hR]
  iterate 8 refine s1_ ?_
  refine su_ [(0,_),(1,_),(2,_),(9,_),(6,_),(7,_)] ?_
  iterate 9 refine s1_ ?_
  refine su_ [(0,_),(1,_),(2,_),(9,_),(6,_),(7,_),(53,_)] ?_
  refine AWP.condB rfl (fun hc8=>?_) (fun hc8=>?_)
  ·have he8:M.length % 8+k=8:=by have:=of_decide_eq_true hc8;omega
   rcases ov with _ | ⟨b,c⟩
   ·simp only [outM,outV]
    have hM8:=hok.nil rfl
    have hb0:bytesV M = []:=List.eq_nil_of_length_eq_zero (by rw [bytesV_length];omega)
    refine AWP.draw [(0,true),(1,true),(2,true),(3,true),(4,true),(5,true),(6,true),(7,true),(8,true),(9,true),(10,true),(11,true),(12,false),(13,false),(14,true),(15,true),(16,false),(17,true),(18,true),(19,false),(20,true),(21,true),(22,false)] [13,16,19,22] mixed (by kernel_rfl) ?_
    iterate 12 refine s1_ ?_
    refine draw_only rfl ?_
    refine ARun.build1s (lit_lt rfl) ty_sl_55 rfl rfl ?_
    intro b66 f66
    have g66:=f66
    repeat ((with_reducible replace g66:=fresh_set g66);obtain ⟨g66,_⟩:=g66)
    refine arun_nil ⟨fun _=>less_,?_⟩
    refine draw_only rfl ?_
    refine ARun.appendNil1 (lit_lt rfl) ty_sl_55 rfl rfl (news:=[_]) (rds_cons ((rd_set_same _ _ _ _).trans rfl) (rds_nil _ _)) rfl (by omega) (by omega) (by omega) ?_
    intro bn cn fbn hcn
    have gbn:=fbn
    repeat ((with_reducible replace gbn:=fresh_set gbn);obtain ⟨gbn,_⟩:=gbn)
    refine arun_nil ⟨fun h=>absurd h (by decide),?_⟩
    iterate 2 refine s1_ ?_
    refine draw_only rfl ?_
    refine s1_ ?_
    refine arun_nil ⟨fun h=>absurd h (by decide),?_⟩
    iterate 2 refine s1_ ?_
    refine draw_only rfl ?_
    refine s1_ ?_
    refine arun_nil ⟨fun h=>absurd h (by decide),?_⟩
    iterate 2 refine s1_ ?_
    refine draw_only rfl ?_
    refine s1_ ?_
    refine arun_nil ⟨fun h=>absurd h (by decide),?_⟩
    iterate 3 refine s1_ ?_
    refine ⟨(r-k,M ++ numB (v / 2 ^ (r-k)) k,some (bn,cn)),?_,?_,?_,?_⟩
    all_goals (try dsimp only)
    ·exact ⟨rfl,rfl,some_int (by omega),trivial⟩
    ·show (wrM S p (some (bn,cn)) (M ++ numB (v / 2 ^ (r-k)) k)).Less _;rw [wrM_eight _ _ _ _ _ _ (by rw [numB_length];exact he8),hb0,List.nil_append,show M.length / 8=0 from by omega];exact less_
    ·exact ⟨by omega,by rw [List.append_assoc,← numB_split,show k+(r-k)=r from by omega];exact hM,hok.fp,(fun h=>by cases h),fun b2 c2 h2=>by cases h2;exact ⟨gbn,by assumption,by rw [List.length_append,numB_length];omega⟩⟩
    ·omega
   ·simp only [outM,outV]
    obtain ⟨ho1,ho2,ho3⟩:=hok.own b c rfl
    refine AWP.draw [(0,true),(1,true),(2,true),(3,true),(4,true),(5,true),(6,true),(7,true),(8,true),(9,true),(10,true),(11,true),(12,false),(13,false),(14,true),(15,true),(16,false),(17,true),(18,true),(19,false),(20,true),(21,true),(22,false)] [13,16,19,22] mixed (by kernel_rfl) ?_
    iterate 12 refine s1_ ?_
    refine draw_only rfl ?_
    refine ARun.build1s (lit_lt rfl) ty_sl_55 rfl rfl ?_
    intro b66 f66
    have g66:=f66
    repeat ((with_reducible replace g66:=fresh_set g66);obtain ⟨g66,_⟩:=g66)
    refine arun_nil ⟨fun _=>less_,?_⟩
    refine draw_only rfl ?_
    refine ARun.append1 (lit_lt rfl) ty_sl_55 rfl own_ (bytesV_length M) rfl (news:=[_]) rds_ rfl (by simp [Value.oneCell']) (by omega) (by omega) del_ ?_
    intro bn cn fbn hcn
    have gbn:=fbn
    repeat ((with_reducible replace gbn:=fresh_set gbn);obtain ⟨gbn,_⟩:=gbn)
    refine arun_nil ⟨fun h=>absurd h (by decide),?_⟩
    iterate 2 refine s1_ ?_
    refine draw_only rfl ?_
    refine s1_ ?_
    refine arun_nil ⟨fun h=>absurd h (by decide),?_⟩
    iterate 2 refine s1_ ?_
    refine draw_only rfl ?_
    refine s1_ ?_
    refine arun_nil ⟨fun h=>absurd h (by decide),?_⟩
    iterate 2 refine s1_ ?_
    refine draw_only rfl ?_
    refine s1_ ?_
    refine arun_nil ⟨fun h=>absurd h (by decide),?_⟩
    iterate 3 refine s1_ ?_
    refine ⟨(r-k,M ++ numB (v / 2 ^ (r-k)) k,some (bn,cn)),?_,?_,?_,?_⟩
    all_goals (try dsimp only)
    ·exact ⟨rfl,rfl,some_int (by omega),trivial⟩
    ·show (wrM S p (some (bn,cn)) (M ++ numB (v / 2 ^ (r-k)) k)).Less _;rw [wrM_eight _ _ _ _ _ _ (by rw [numB_length];exact he8)];exact less_
    ·exact ⟨by omega,by rw [List.append_assoc,← numB_split,show k+(r-k)=r from by omega];exact hM,hok.fp,(fun h=>by cases h),fun b2 c2 h2=>by cases h2;exact ⟨gbn,by assumption,by rw [List.length_append,numB_length];omega⟩⟩
    ·omega
  ·have he8 : ¬ M.length % 8+k=8:=by have:=of_decide_eq_false hc8;omega
   iterate 3 refine s1_ ?_
   refine ⟨(r-k,M ++ numB (v / 2 ^ (r-k)) k,ov),?_,?_,?_,?_⟩
   all_goals (try dsimp only)
   ·exact ⟨rfl,rfl,some_int (by omega),trivial⟩
   ·show (wrM S p ov (M ++ numB (v / 2 ^ (r-k)) k)).Less _;rw [wrM_few _ _ _ _ _ (by rw [numB_length];omega),numB_length];exact less_
   ·exact ⟨by omega,by rw [List.append_assoc,← numB_split,show k+(r-k)=r from by omega];exact hM,hok.fp,fun h=>by have:=hok.nil h;rw [List.length_append,numB_length];omega,fun b2 c2 h2=>by obtain ⟨q1,q2,q3⟩:=hok.own b2 c2 h2;exact ⟨q1,q2,by rw [List.length_append,numB_length];omega⟩⟩
   ·omega
 ·have hr0:r=0:=by have:=of_decide_eq_false hc;omega
  subst hr0
  iterate 4 refine s1_ ?_
  refine ⟨_,_,rfl,less_,?_⟩
  exact ⟨rfl,ov,by rw [numB_zero,List.append_nil] at hM;rw [← hM];exact hok,by rw [numB_zero,List.append_nil] at hM;rw [← hM]⟩
end Go.Proofs.YthbadpcmdlfmdaaGreatDoor
namespace Go.Proofs.YthbadpcmdlfmdaaGreatDoor
open Go.RowKit
open Bits Mv
set_option maxRecDepth 8000
namespace Bits
theorem fresh_wrM {S : Mem} {p : Nat} {o : Option (Nat × Nat)} {L : List Bool} {b : Nat} (h : Fresh (wrM S p o L) b) : Fresh S b ∧ b ≠ p ∧ ∀ q c, o = some (q, c) → b ≠ q := by
 unfold wrM at h
 obtain ⟨h1,h2⟩:=fresh_set h
 cases o with
 | none=>exact ⟨h1,h2,fun q c e=>by cases e⟩
 | some qc =>
  obtain ⟨q,c⟩:=qc
  obtain ⟨h3,h4⟩:=fresh_set h1
  exact ⟨h3,h2,fun q' c' e=>by cases e;exact h4⟩
/-- The same over more memory. -/
theorem wrM_more (S S' : Mem) (p : Nat) (o : Option (Nat × Nat)) (L : List Bool) (h : S.Less S') : (wrM S p o L).Less (wrM S' p o L) := by
 unfold wrM
 refine Less.set ?_ _ _
 cases o with
 | none=>exact h
 | some qc=>exact Less.set h _ _
theorem wrM_set (S : Mem) (p b : Nat) (o : Option (Nat × Nat)) (L : List Bool) (r : Blk) (hp : b ≠ p) (ho : ∀ q c, o = some (q, c) → b ≠ q) : (wrM S p o L).set b r = wrM (S.set b r) p o L := by
 unfold wrM
 rw [Mem.set_comm _ _ _ (Ne.symm hp)]
 congr 1
 cases o with
 | none=>rfl
 | some qc=>exact Mem.set_comm _ _ _ (Ne.symm (ho _ _ rfl))
theorem OkW.set {S : Mem} {p b : Nat} {o : Option (Nat × Nat)} {L : List Bool} {r : Blk} (h : OkW S p o L) (hp : b ≠ p) (ho : ∀ q c, o = some (q, c) → b ≠ q) : OkW (S.set b r) p o L := by
 have fs:∀ q,Fresh S q→q≠b→Fresh (S.set b r) q:=fun q hq hne=>⟨by rw [Mem.own_set_other _ _ hne];exact hq.1,hq.2⟩
 exact ⟨fs p h.fp (Ne.symm hp),h.nil,fun q c e=>⟨fs q (h.own q c e).1 (Ne.symm (ho q c e)),(h.own q c e).2⟩⟩
theorem OkW.unset {S : Mem} {p b : Nat} {o : Option (Nat × Nat)} {L : List Bool} {r : Blk} (h : OkW (S.set b r) p o L) : OkW S p o L :=
 ⟨(fresh_set h.fp).1,h.nil,fun q c e=>⟨(fresh_set (h.own q c e).1).1,(h.own q c e).2⟩⟩
theorem own_wrM (S : Mem) (p : Nat) (o : Option (Nat × Nat)) (L : List Bool) (b : Nat) (r : Blk) (hp : b ≠ p) (ho : ∀ q c, o = some (q, c) → b ≠ q) (h : S.own b = some r) : (wrM S p o L).own b = some r := by
 unfold wrM
 rw [Mem.own_set_other _ _ hp]
 cases o with
 | none=>exact h
 | some qc =>
  obtain ⟨q,c⟩:=qc
  exact (Mem.own_set_other _ _ (ho q c rfl)).trans h
def lastB (L : List Bool) : UInt8 := UInt8.ofNat (num (rest L) * 2 ^ (8 - L.length % 8))
theorem lastI (L : List Bool) : IntKind.u8.wrap (IntKind.u64.wrap (((num (rest L) : Nat) : Int) * 2 ^ ((8 : Int) - (L.length % 8 : Nat)).toNat)) = nb (lastB L) := by
 obtain ⟨R,h1,h2,h3⟩:=last_byte L
 rw [show ((8:Int)-(L.length % 8:Nat)).toNat=8-L.length % 8 from by omega,h1,h2,h3];rfl
theorem pack_one (L : List Bool) (h : L.length < 8) (hn : L.length % 8 ≠ 0) : pack L = [lastB L] := by
 rw [pack_last L hn]
 have:whole L = []:=by unfold whole;rw [show L.length / 8=0 from by omega];rfl
 rw [this];rfl
theorem rds_own' {S : Mem} {b : Nat} {r : Blk} {cs : List Value} (h : S.own b = some r) (e : r.cells = cs) : S.rds ⟨b, 0, none⟩ cs := by rw [← e]; exact rds_own h
end Bits
theorem bitsV_AddI (p : Nat) (v width : Int) (L : List Bool) (o : Option (Nat × Nat)) (S : Mem) (h0 : 0 ≤ width) (h3 : width ≤ 64) (h4 : 0 ≤ v) (h5 : v ≤ 18446744073709551615) (hlen : L.length ≤ 1048576 + 64) (hok : OkW S p o L) :
  ACall Tryz.prog 34 #[.pointer (some ⟨p,0,none⟩),.int .u64 v,.int .i64 width] (wrM S p o L) fun r S'=>r = .tuple #[] ∧ ∃ o',OkW S p o' (L ++ numB v.toNat width.toNat)∧S'=wrM S p o' (L ++ numB v.toNat width.toNat):=by
 have:=bitsV_Add p v.toNat width.toNat L o S (by omega) (by omega) hlen hok
 rwa [Int.toNat_of_nonneg h4,Int.toNat_of_nonneg h0] at this
set_option maxHeartbeats 400000 in
theorem bitsV_Len (p : Nat) (L : List Bool) (o : Option (Nat × Nat)) (S : Mem) (hlen : L.length ≤ 2000000) (hok : OkW S p o L) :
  ACall Tryz.prog 58 #[.pointer (some ⟨p,0,none⟩)] (wrM S p o L) fun r S'=>r = .int .i64 (L.length:Nat)∧S'=wrM S p o L:=by
 refine ACall.enter (rs:=[.tmp 2]) 14 [(0,.pointer (some ⟨p,0,none⟩))] Tryz.func58 rfl rfl (Nat.le_of_ble_eq_true rfl) rfl ⟨rfl,trivial⟩ ?_
 rcases o with _ | ⟨b,c⟩
 ·unfold wrM outM outV
  iterate 6 refine s1_ ?_
  refine AWP.draw [(0,true),(1,true),(2,true),(3,true),(4,true),(5,true),(6,true),(7,true),(8,true),(9,true),(10,true),(11,true)] [] mixed (by kernel_rfl) ?_
  iterate 14 refine s1_ ?_
  refine su_ [(0,_),(2,_)] ?_
  refine s1_ ?_
  refine ⟨_,_,⟨_,_,rfl,rfl,rfl⟩,less_,?_⟩
  exact ⟨val_int (by have:=hok.nil rfl;omega),rfl⟩
 ·unfold wrM outM outV
  iterate 6 refine s1_ ?_
  refine AWP.draw [(0,true),(1,true),(2,true),(3,true),(4,true),(5,true),(6,true),(7,true),(8,true),(9,true),(10,true),(11,true)] [] mixed (by kernel_rfl) ?_
  iterate 14 refine s1_ ?_
  refine su_ [(0,_),(2,_)] ?_
  refine s1_ ?_
  refine ⟨_,_,⟨_,_,rfl,rfl,rfl⟩,less_,?_⟩
  exact ⟨val_int (by omega),rfl⟩
set_option maxHeartbeats 1000000 in
theorem bitsV_Copy (p : Nat) (s : ByteArray) (N : Nat) (L : List Bool) (o : Option (Nat × Nat)) (S : Mem) (hs : s.size = (N + 7) / 8) (hN : N ≤ 1048576) (hlen : L.length + N ≤ 1048576) (hok : OkW S p o L) :
  ACall Tryz.prog 33 #[.pointer (some ⟨p,0,none⟩),.agg #[.string s,.int .i64 N]] (wrM S p o L) fun r S'=>r = .tuple #[] ∧ ∃ o',OkW S p o' (L ++ Bits.upto s.data.toList N)∧S'=wrM S p o' (L ++ Bits.upto s.data.toList N):=by
 refine ACall.enter (rs:=[]) 27 [(0,.pointer (some ⟨p,0,none⟩)),(1,.agg #[.string s,.int .i64 N])] Tryz.func33 rfl rfl (Nat.le_of_ble_eq_true rfl) rfl ⟨rfl,rfl,trivial⟩ ?_
 iterate 2 refine s1_ ?_
 refine ARun.boxA (cs:=[_,_]) (lit_lt rfl) rfl ?_
 intro b3 f3
 have g3:=f3
 repeat ((with_reducible replace g3:=fresh_set g3);obtain ⟨g3,_⟩:=g3)
 refine nl_ ?_
 iterate 2 refine s1_ ?_
 obtain ⟨q1,q2,q3⟩:=fresh_wrM g3
 iterate 4 refine s1_ ?_
 refine ARun.alloc (lit_lt rfl) ty_zero_118 ?_
 intro b4 f4
 have g4:=f4
 repeat ((with_reducible replace g4:=fresh_set g4);obtain ⟨g4,_⟩:=g4)
 refine nl_ ?_
 iterate 3 refine s1_ ?_
 refine su_ [(0,_),(1,_),(3,_),(4,_)] ?_
 obtain ⟨r1,r2,r3⟩:=fresh_wrM g4
 iterate 5 refine s1_ ?_
 have hne:b4≠b3:=by assumption
 refine s1_ ?_
 refine AWP.loop (X:=Nat × Option (Nat × Nat)) (fun x=>[(0,.pointer (some ⟨p,0,none⟩)),(3,.pointer (some ⟨b3,0,none⟩)),(4,.pointer (some ⟨b4,0,none⟩)),(5,.int .i64 x.1)]) (fun x=>wrM ((S.set b3 ⟨47,[.string s,.int .i64 N],2⟩).set b4 ⟨118,[.string s,.int .i64 N],2⟩) p x.2 (L ++ slc s.data.toList 0 (min x.1 N))) (fun x=>x.1≤N+7∧x.1 % 8=0∧OkW ((S.set b3 ⟨47,[.string s,.int .i64 N],2⟩).set b4 ⟨118,[.string s,.int .i64 N],2⟩) p x.2 (L ++ slc s.data.toList 0 (min x.1 N))) (fun x=>N+8-x.1) ((0,o)) ⟨rfl,rfl,rfl,rfl,trivial⟩ (by show (wrM _ p o (L ++ slc s.data.toList 0 (min 0 N))).Less _;rw [Nat.zero_min,slc_zero,List.append_nil,wrM_set _ _ _ _ _ _ q2 q3,wrM_set _ _ _ _ _ _ r2 r3];exact Mem.Less.refl _) (⟨by omega,rfl,by rw [Nat.zero_min,slc_zero,List.append_nil];exact (hok.set q2 q3).set r2 r3⟩) ?_
 rintro ⟨q,ov⟩ ⟨hq,hq8,hok2⟩
 (try dsimp only at *)
 have hfp:=hok2.fp
 have n3:p≠b3:=(fresh_set (fresh_set hfp).1).2
 have n4:p≠b4:=(fresh_set hfp).2
 have hm3:(wrM ((S.set b3 ⟨47,[.string s,.int .i64 N],2⟩).set b4 ⟨118,[.string s,.int .i64 N],2⟩) p ov (L ++ slc s.data.toList 0 (min q N))).own b3=some ⟨47,[.string s,.int .i64 N],2⟩:=own_wrM _ _ _ _ _ _ (Ne.symm n3) (fun q c e x=>by subst x;have:=(hok2.own _ _ e).1;exact (fresh_set (fresh_set this).1).2 rfl) (by rw [Mem.own_set_other _ _ (Ne.symm hne)];exact Mem.own_set_same _ _ _)
 have hm4:(wrM ((S.set b3 ⟨47,[.string s,.int .i64 N],2⟩).set b4 ⟨118,[.string s,.int .i64 N],2⟩) p ov (L ++ slc s.data.toList 0 (min q N))).own b4=some ⟨118,[.string s,.int .i64 N],2⟩:=own_wrM _ _ _ _ _ _ (Ne.symm n4) (fun q c e x=>by subst x;have:=(hok2.own _ _ e).1;exact (fresh_set this).2 rfl) (Mem.own_set_same _ _ _)
 iterate 9 refine s1_ ?_
 refine su_ [(0,_),(3,_),(4,_),(5,_),(12,_)] ?_
 refine AWP.condB rfl (fun hc=>?_) (fun hc=>?_)
 ·have hlt:q<N:=by have:=of_decide_eq_true hc;omega
  obtain ⟨k,hk⟩ : ∃ k:Nat,(k:Int)=min 8 ((N:Int)-q):=⟨(min 8 ((N:Int)-q)).toNat,by omega⟩
  have hsz:s.size≤200000:=by omega
  have hsz8:q+k≤8*s.size:=by omega
  iterate 10 refine s1_ ?_
  refine rC (Calm.minE hk rfl rfl) ?_
  iterate 3 refine s1_ ?_
  refine su_ [(0,_),(3,_),(4,_),(5,_),(12,_),(6,_)] ?_
  iterate 5 refine s1_ ?_
  refine ca_ rfl (ACall.of_calls fun w=>bits_getI s hsz N q k w (by omega) (by omega) (by omega) (by omega)) ?_
  rintro _ _ ⟨rfl,rfl⟩
  refine s1_ ?_
  refine ca_ rfl (bitsV_AddI p _ _ _ ov _ (by omega) (by omega) (by omega) (by have:=num_u64 s.data.toList (q:Int).toNat (k:Int).toNat (by omega);omega) (by rw [List.length_append,slc_length];omega) hok2) ?_
  rintro _ _ ⟨rfl,on,hokn,rfl⟩
  have e9:L ++ slc s.data.toList 0 (min q N) ++ numB (num (slc s.data.toList (q:Int).toNat (k:Int).toNat):Int).toNat (k:Int).toNat=L ++ slc s.data.toList 0 (min (q+8) N):=by
   simp only [Int.toNat_natCast];exact copy_step L s.data.toList q k N _ hlt (by omega) rfl
  rw [e9] at hokn ⊢
  iterate 3 refine s1_ ?_
  refine su_ [(0,_),(3,_),(4,_),(5,_),(12,_),(6,_)] ?_
  iterate 6 refine s1_ ?_
  refine ⟨(q+8,on),?_,?_,?_,?_⟩
  all_goals (try dsimp only)
  ·exact ⟨rfl,rfl,rfl,some_int (by omega),trivial⟩
  ·exact Mem.Less.refl _
  ·exact ⟨by omega,by omega,hokn⟩
  ·omega
 ·have hge:N≤q:=by have:=of_decide_eq_false hc;omega
  rw [Nat.min_eq_right hge,slc_upto] at hok2 ⊢
  iterate 4 refine s1_ ?_
  refine ⟨_,wrM S p ov (L ++ Bits.upto s.data.toList N),rfl,wrM_more _ _ _ _ _ ((Mem.less_set _ _ _ q1.1).trans (Mem.less_set _ _ _ (by rw [Mem.own_set_other _ _ hne];exact r1.1))),?_⟩
  exact ⟨rfl,ov,hok2.unset.unset,rfl⟩
set_option maxHeartbeats 1000000 in
theorem bitsV_Bits (p : Nat) (L : List Bool) (o : Option (Nat × Nat)) (S : Mem) (hlen : L.length ≤ 1048576) (hok : OkW S p o L) :
  ACall Tryz.prog 35 #[.pointer (some ⟨p,0,none⟩)] (wrM S p o L) fun r S'=>r = .agg #[.string (bs (pack L)),.int .i64 (L.length:Nat)]∧S'=S:=by
 refine ACall.enter (rs:=[.cell 2 47]) 37 [(0,.pointer (some ⟨p,0,none⟩))] Tryz.func35 rfl rfl (Nat.le_of_ble_eq_true rfl) rfl ⟨rfl,trivial⟩ ?_
 have hfp:=hok.fp
 have hLen:=bitsV_Len p L o S (by omega) hok
 have hq8:L.length / 8≤200000:=by omega
 have hlb:=lastI L
 iterate 2 refine s1_ ?_
 refine ARun.alloc (lit_lt rfl) ty_zero_47 ?_
 intro b2 f2
 have g2:=f2
 repeat ((with_reducible replace g2:=fresh_set g2);obtain ⟨g2,_⟩:=g2)
 refine nl_ ?_
 iterate 2 refine s1_ ?_
 obtain ⟨q1,q2,q3⟩:=fresh_wrM g2
 have q2':=Ne.symm q2
 rcases o with _ | ⟨b,c⟩
 ·have hM8:=hok.nil rfl
  simp only [wrM,outM,outV] at hLen ⊢
  iterate 9 refine s1_ ?_
  refine su_ [(0,_),(2,_),(3,_)] ?_
  iterate 10 refine s1_ ?_
  refine su_ [(0,_),(2,_),(3,_),(12,_)] ?_
  refine AWP.condB rfl (fun hc=>?_) (fun hc=>?_)
  ·have hn:L.length % 8≠0:=by have:=of_decide_eq_true hc;omega
   refine AWP.draw [(0,true),(1,true),(2,true),(3,true),(4,true),(5,true),(6,true),(7,true),(8,true),(9,true),(10,true),(11,true),(12,true),(13,true),(14,true),(15,true),(16,true),(17,false),(18,false),(19,true)] [18] mixed (by kernel_rfl) ?_
   iterate 16 refine s1_ ?_
   refine dC (hc:=Calm.conv rfl (conv_intW Tryz.underlying50 Tryz.underlying5 hlb)) (h:=?_)
   refine draw_only rfl ?_
   refine ARun.build1s (lit_lt rfl) ty_sl_55 rfl rfl ?_
   intro b30 f30
   have g30:=f30
   repeat ((with_reducible replace g30:=fresh_set g30);obtain ⟨g30,_⟩:=g30)
   refine arun_nil ⟨fun _=>less_,?_⟩
   refine draw_only rfl ?_
   refine ARun.appendNil1 (lit_lt rfl) ty_sl_55 rfl rfl (news:=[_]) rds_ rfl (by omega) (by omega) (by omega) ?_
   intro bn cn fbn hcn
   have gbn:=fbn
   repeat ((with_reducible replace gbn:=fresh_set gbn);obtain ⟨gbn,_⟩:=gbn)
   refine arun_nil ⟨fun h=>absurd h (by decide),?_⟩
   iterate 3 refine s1_ ?_
   refine su_ [(0,_),(2,_),(3,_),(12,_)] ?_
   have hbs:pack L = [lastB L]:=pack_one L hM8 hn
   refine s1_ ?_
   refine AWP.draw [(0,true),(1,true),(2,true),(3,false),(4,true),(5,false)] [5] mixed (by kernel_rfl) ?_
   refine s1_ ?_
   refine dC (hc:=Calm.toStr ty_bytes_55 ty_str_9 rfl (l:=[lastB L]) rfl rds_) (h:=?_)
   refine s1_ ?_
   refine draw_only rfl ?_
   refine ca_ rfl (ACall.pure_more less_ hLen) ?_
   rintro _ _ ⟨rfl,rfl⟩
   refine arun_nil ⟨fun _=>less_,?_⟩
   refine s1_ ?_
   refine draw_only rfl ?_
   refine s1_ ?_
   refine arun_nil ⟨fun h=>absurd h (by decide),?_⟩
   iterate 2 refine s1_ ?_
   refine su_ [(0,_),(2,_),(3,_),(12,_)] ?_
   refine s1_ ?_
   refine ⟨_,S,⟨_,_,_,rfl,.inr ⟨ty_agg_47,[_,_],ty_size_47,rds_,rfl⟩,rfl,rfl⟩,less_,?_⟩
   exact ⟨by rw [hbs];rfl,rfl⟩
  ·have hn:L = []:=List.eq_nil_of_length_eq_zero (by have:=of_decide_eq_false hc;omega)
   iterate 3 refine s1_ ?_
   refine AWP.draw [(0,true),(1,true),(2,true),(3,false),(4,true),(5,false)] [5] mixed (by kernel_rfl) ?_
   iterate 3 refine s1_ ?_
   refine draw_only rfl ?_
   refine ca_ rfl (ACall.pure_more less_ hLen) ?_
   rintro _ _ ⟨rfl,rfl⟩
   refine arun_nil ⟨fun _=>less_,?_⟩
   refine s1_ ?_
   refine draw_only rfl ?_
   refine s1_ ?_
   refine arun_nil ⟨fun h=>absurd h (by decide),?_⟩
   iterate 2 refine s1_ ?_
   refine su_ [(0,_),(2,_),(3,_),(12,_)] ?_
   refine s1_ ?_
   refine ⟨_,S,⟨_,_,_,rfl,.inr ⟨ty_agg_47,[_,_],ty_size_47,rds_,rfl⟩,rfl,rfl⟩,less_,?_⟩
   exact ⟨by rw [hn];rfl,rfl⟩
 ·simp only [wrM,outM,outV] at hLen ⊢
  obtain ⟨ho1,ho2,ho3⟩:=hok.own b c rfl
  have hb2:=q3 b c rfl
  iterate 9 refine s1_ ?_
  refine su_ [(0,_),(2,_),(3,_)] ?_
  iterate 10 refine s1_ ?_
  refine su_ [(0,_),(2,_),(3,_),(12,_)] ?_
  refine AWP.condB rfl (fun hc=>?_) (fun hc=>?_)
  ·have hn:L.length % 8≠0:=by have:=of_decide_eq_true hc;omega
   refine AWP.draw [(0,true),(1,true),(2,true),(3,true),(4,true),(5,true),(6,true),(7,true),(8,true),(9,true),(10,true),(11,true),(12,true),(13,true),(14,true),(15,true),(16,true),(17,false),(18,false),(19,true)] [18] mixed (by kernel_rfl) ?_
   iterate 16 refine s1_ ?_
   refine dC (hc:=Calm.conv rfl (conv_intW Tryz.underlying50 Tryz.underlying5 hlb)) (h:=?_)
   refine draw_only rfl ?_
   refine ARun.build1s (lit_lt rfl) ty_sl_55 rfl rfl ?_
   intro b30 f30
   have g30:=f30
   repeat ((with_reducible replace g30:=fresh_set g30);obtain ⟨g30,_⟩:=g30)
   refine arun_nil ⟨fun _=>less_,?_⟩
   refine draw_only rfl ?_
   refine ARun.appendCopy1 (lit_lt rfl) ty_sl_55 rfl (xs:=bytesV L) (rds_own' own_ rfl) (bytesV_length L) rfl (news:=[_]) rds_ rfl (by omega) (by omega) (by omega) ?_
   intro bn cn fbn hcn
   have gbn:=fbn
   repeat ((with_reducible replace gbn:=fresh_set gbn);obtain ⟨gbn,_⟩:=gbn)
   refine arun_nil ⟨fun h=>absurd h (by decide),?_⟩
   iterate 3 refine s1_ ?_
   refine su_ [(0,_),(2,_),(3,_),(12,_)] ?_
   have hbs:cellsB (pack L)=bytesV L ++ [.int .u8 (nb (lastB L))]:=by rw [pack_last L hn];simp [cellsB,bytesV,lastB]
   refine s1_ ?_
   refine AWP.draw [(0,true),(1,true),(2,true),(3,false),(4,true),(5,false)] [5] mixed (by kernel_rfl) ?_
   refine s1_ ?_
   refine dC (hc:=Calm.toStr ty_bytes_55 ty_str_9 rfl (l:=pack L) (by rw [pack_length];omega) (by rw [hbs];exact rds_own' own_ rfl)) (h:=?_)
   refine s1_ ?_
   refine draw_only rfl ?_
   refine ca_ rfl (ACall.pure_more less_ hLen) ?_
   rintro _ _ ⟨rfl,rfl⟩
   refine arun_nil ⟨fun _=>less_,?_⟩
   refine s1_ ?_
   refine draw_only rfl ?_
   refine s1_ ?_
   refine arun_nil ⟨fun h=>absurd h (by decide),?_⟩
   iterate 2 refine s1_ ?_
   refine su_ [(0,_),(2,_),(3,_),(12,_)] ?_
   refine s1_ ?_
   refine ⟨_,S,⟨_,_,_,rfl,.inr ⟨ty_agg_47,[_,_],ty_size_47,rds_,rfl⟩,rfl,rfl⟩,less_,?_⟩
   exact ⟨rfl,rfl⟩
  ·have hn:L.length % 8=0:=by have:=of_decide_eq_false hc;omega
   have hbs:cellsB (pack L)=bytesV L:=by unfold bytesV;rw [pack_whole L hn];rfl
   iterate 3 refine s1_ ?_
   refine AWP.draw [(0,true),(1,true),(2,true),(3,false),(4,true),(5,false)] [5] mixed (by kernel_rfl) ?_
   refine s1_ ?_
   refine dC (hc:=Calm.toStr ty_bytes_55 ty_str_9 rfl (l:=pack L) (by rw [pack_length];omega) (by rw [hbs];exact rds_own' own_ rfl)) (h:=?_)
   refine s1_ ?_
   refine draw_only rfl ?_
   refine ca_ rfl (ACall.pure_more less_ hLen) ?_
   rintro _ _ ⟨rfl,rfl⟩
   refine arun_nil ⟨fun _=>less_,?_⟩
   refine s1_ ?_
   refine draw_only rfl ?_
   refine s1_ ?_
   refine arun_nil ⟨fun h=>absurd h (by decide),?_⟩
   iterate 2 refine s1_ ?_
   refine su_ [(0,_),(2,_),(3,_),(12,_)] ?_
   refine s1_ ?_
   refine ⟨_,S,⟨_,_,_,rfl,.inr ⟨ty_agg_47,[_,_],ty_size_47,rds_,rfl⟩,rfl,rfl⟩,less_,?_⟩
   exact ⟨rfl,rfl⟩
end Go.Proofs.YthbadpcmdlfmdaaGreatDoor
namespace Go.Proofs.YthbadpcmdlfmdaaGreatDoor
open Go.RowKit
open Bits Mv
set_option maxRecDepth 8000
namespace Bits
/-- A Bitstr. -/
def bv (s : ByteArray) (N : Int) : Value := .agg #[.string s, .int .i64 N]
def bv0 : Value := bv ByteArray.empty 0
def two (a : Value) (e : Int) : Value := .tuple #[a, .int .i64 e]
noncomputable def putP (s : ByteArray) (N v width : Int) : Value :=
  if chk s.data.toList N ≠ 0 then two bv0 2
  else if ¬ (0 ≤ width ∧ width ≤ 64) ∨ width < Lib.bitLen v.toNat then two (bv s N) 1
  else if 1048576 - width < N then two (bv s N) 8
  else two (bv (bs (pack (Bits.upto s.data.toList N.toNat ++ numB v.toNat width.toNat))) (N + width)) 0
noncomputable def getP (s : ByteArray) (N at_ width : Int) : Value :=
  if chk s.data.toList N ≠ 0 then two (.int .u64 0) 2
  else if ¬ (0 ≤ width ∧ width ≤ 64) ∨ at_ < 0 ∨ N < at_ then two (.int .u64 0) 1
  else if N - at_ < width then two (.int .u64 0) 5
  else two (.int .u64 (num (slc s.data.toList at_.toNat width.toNat) : Nat)) 0
theorem chk_right {B : List UInt8} {N : Int} (h : chk B N = 0) : right B N := by
 unfold chk at h
 split at h
 ·assumption
 ·cases h
theorem chk_two {B : List UInt8} {N : Int} (h : ¬ chk B N = 0) : chk B N = 2 := by
 unfold chk at h ⊢
 split at h
 ·exact absurd rfl h
 ·rename_i hn;rw [if_neg hn]
theorem bnot_t {p : Prop} [Decidable p] (h : (!decide p) = true) : ¬ p := by simpa using h
theorem bnot_f {p : Prop} [Decidable p] (h : (!decide p) = false) : p := by simpa using h
theorem wrM_nil (S : Mem) (p : Nat) : wrM S p none [] = S.set p ⟨86, [.slice none 0 0, .int .u64 0, .int .i64 0], 3⟩ := rfl
theorem okW_nil {S : Mem} {p : Nat} (h : Fresh S p) : OkW S p none [] := ⟨h, fun _ => by simp, fun b c e => by cases e⟩
theorem own_wrM_ok {S : Mem} {p b : Nat} {o : Option (Nat × Nat)} {L : List Bool} {r : Blk} (hk : OkW S p o L) (h : S.own b = some r) : (wrM S p o L).own b = some r :=
 own_wrM S p o L b r (hk.fp.ne h) (fun q c e=>(hk.own q c e).1.ne h) h
theorem chk_no {B : List UInt8} {N : Int} (h : ¬ right B N) : chk B N = 2 := if_neg h
theorem chk_yes {B : List UInt8} {N : Int} (h : right B N) : chk B N = 0 := if_pos h
theorem right_iff (B : List UInt8) (N : Int) (h0 : 0 ≤ N) (h1 : N ≤ 1048576) (h2 : B.length = (N.toNat + 7) / 8) : right B N ↔ (N % 8 = 0 ∨ IntKind.u8.wrap (nb (at8 B (N.toNat / 8)) * 2 ^ (N % 8).toNat) = 0) := by
 unfold right
 rw [right_last B N.toNat h2]
 have e:(N % 8).toNat=N.toNat % 8:=by omega
 have hz:=shl_zero (at8 B (N.toNat / 8)) (N.toNat % 8) (by omega)
 rw [IntKind.wrap_u8,e,hz]
 constructor
 ·rintro ⟨_,_,h | h⟩
  ·exact .inl (by omega)
  ·exact .inr h
 ·rintro (h | h)
  ·exact ⟨h0,h1,.inl (by omega)⟩
  ·exact ⟨h0,h1,.inr h⟩
end Bits
theorem bits_wide (x : Int) (S : Mem) : ACall Tryz.prog 31 #[.int .i64 x] S fun r S' => r = .bool (decide (0 ≤ x ∧ x ≤ 64)) ∧ S' = S := by
 by_cases h0:0≤x
 ·by_cases h1:x≤64
  ·rw [decide_eq_true (⟨h0,h1⟩ : 0≤x∧x≤64)]
   refine ACall.enter (rs:=[.tmp 2]) 9 [(0,.int .i64 x)] Tryz.func31 rfl rfl (Nat.le_of_ble_eq_true rfl) rfl ⟨rfl,trivial⟩ ?_
   iterate 16 refine s1_ ?_
   refine su_ [(0,_),(2,_)] ?_
   refine s1_ ?_
   refine ⟨_,_,⟨_,_,rfl,rfl,rfl⟩,less_,?_⟩
   exact ⟨rfl,rfl⟩
  ·rw [decide_eq_false (fun h=>h1 h.2 : ¬ (0≤x∧x≤64))]
   refine ACall.enter (rs:=[.tmp 2]) 9 [(0,.int .i64 x)] Tryz.func31 rfl rfl (Nat.le_of_ble_eq_true rfl) rfl ⟨rfl,trivial⟩ ?_
   iterate 16 refine s1_ ?_
   refine su_ [(0,_),(2,_)] ?_
   refine s1_ ?_
   refine ⟨_,_,⟨_,_,rfl,rfl,rfl⟩,less_,?_⟩
   exact ⟨rfl,rfl⟩
 ·rw [decide_eq_false (fun h=>h0 h.1 : ¬ (0≤x∧x≤64))]
  refine ACall.enter (rs:=[.tmp 2]) 9 [(0,.int .i64 x)] Tryz.func31 rfl rfl (Nat.le_of_ble_eq_true rfl) rfl ⟨rfl,trivial⟩ ?_
  iterate 16 refine s1_ ?_
  refine su_ [(0,_),(2,_)] ?_
  refine s1_ ?_
  refine ⟨_,_,⟨_,_,rfl,rfl,rfl⟩,less_,?_⟩
  exact ⟨rfl,rfl⟩
set_option maxHeartbeats 1000000 in
theorem bitsV_Check (s : ByteArray) (N : Int) (S : Mem) (hs : s.size ≤ 9223372036854775807) :
  ACall Tryz.prog 30 #[.agg #[.string s,.int .i64 N]] S fun r S'=>r = .int .i64 (chk s.data.toList N)∧S'=S:=by
 by_cases h1:N<0
 ·rw [chk_no (fun h=>by have:=h.1;omega)]
  refine ACall.enter (rs:=[.tmp 2]) 40 [(0,.agg #[.string s,.int .i64 N])] Tryz.func30 rfl rfl (Nat.le_of_ble_eq_true rfl) rfl ⟨rfl,trivial⟩ ?_
  iterate 2 refine s1_ ?_
  refine ARun.boxA (cs:=[_,_]) (lit_lt rfl) rfl ?_
  intro b1 f1
  have g1:=f1
  repeat ((with_reducible replace g1:=fresh_set g1);obtain ⟨g1,_⟩:=g1)
  refine nl_ ?_
  iterate 27 refine s1_ ?_
  refine su_ [(0,_),(1,_),(2,_),(22,_)] ?_
  refine cT_ ?_
  iterate 7 refine s1_ ?_
  refine ⟨_,S,⟨_,_,rfl,rfl,rfl⟩,less_,?_⟩
  exact ⟨rfl,rfl⟩
 by_cases h2:1048576<N
 ·rw [chk_no (fun h=>by have:=h.2.1;omega)]
  refine ACall.enter (rs:=[.tmp 2]) 40 [(0,.agg #[.string s,.int .i64 N])] Tryz.func30 rfl rfl (Nat.le_of_ble_eq_true rfl) rfl ⟨rfl,trivial⟩ ?_
  iterate 2 refine s1_ ?_
  refine ARun.boxA (cs:=[_,_]) (lit_lt rfl) rfl ?_
  intro b1 f1
  have g1:=f1
  repeat ((with_reducible replace g1:=fresh_set g1);obtain ⟨g1,_⟩:=g1)
  refine nl_ ?_
  iterate 27 refine s1_ ?_
  refine su_ [(0,_),(1,_),(2,_),(22,_)] ?_
  refine cT_ ?_
  iterate 7 refine s1_ ?_
  refine ⟨_,S,⟨_,_,rfl,rfl,rfl⟩,less_,?_⟩
  exact ⟨rfl,rfl⟩
 have hsz:s.size=s.data.toList.length:=(Array.length_toList (xs:=s.data)).symm
 by_cases h3:(s.size:Int)=(N+7) / 8
 ·have hR:=right_iff s.data.toList N (by omega) (by omega) (by omega)
  by_cases h4:N % 8=0
  ·rw [chk_yes (hR.2 (.inl h4))]
   refine ACall.enter (rs:=[.tmp 2]) 40 [(0,.agg #[.string s,.int .i64 N])] Tryz.func30 rfl rfl (Nat.le_of_ble_eq_true rfl) rfl ⟨rfl,trivial⟩ ?_
   iterate 2 refine s1_ ?_
   refine ARun.boxA (cs:=[_,_]) (lit_lt rfl) rfl ?_
   intro b1 f1
   have g1:=f1
   repeat ((with_reducible replace g1:=fresh_set g1);obtain ⟨g1,_⟩:=g1)
   refine nl_ ?_
   iterate 27 refine s1_ ?_
   refine su_ [(0,_),(1,_),(2,_),(22,_)] ?_
   refine cF_ ?_
   iterate 11 refine s1_ ?_
   refine su_ [(0,_),(1,_),(2,_),(22,_),(3,_)] ?_
   iterate 18 refine s1_ ?_
   refine su_ [(0,_),(1,_),(2,_),(22,_),(3,_),(39,_)] ?_
   refine cF_ ?_
   iterate 8 refine s1_ ?_
   refine ⟨_,S,⟨_,_,rfl,rfl,rfl⟩,less_,?_⟩
   exact ⟨rfl,rfl⟩
  ·have e1:((s.size:Int)-1).toNat=N.toNat / 8:=by omega
   refine ACall.enter (rs:=[.tmp 2]) 40 [(0,.agg #[.string s,.int .i64 N])] Tryz.func30 rfl rfl (Nat.le_of_ble_eq_true rfl) rfl ⟨rfl,trivial⟩ ?_
   iterate 2 refine s1_ ?_
   refine ARun.boxA (cs:=[_,_]) (lit_lt rfl) rfl ?_
   intro b1 f1
   have g1:=f1
   repeat ((with_reducible replace g1:=fresh_set g1);obtain ⟨g1,_⟩:=g1)
   refine nl_ ?_
   iterate 27 refine s1_ ?_
   refine su_ [(0,_),(1,_),(2,_),(22,_)] ?_
   refine cF_ ?_
   rw [← e1] at hR
   iterate 11 refine s1_ ?_
   refine su_ [(0,_),(1,_),(2,_),(22,_),(3,_)] ?_
   iterate 18 refine s1_ ?_
   refine su_ [(0,_),(1,_),(2,_),(22,_),(3,_),(39,_)] ?_
   refine AWP.condB rfl (fun hc=>?_) (fun hc=>?_)
   ·iterate 7 refine s1_ ?_
    refine ⟨_,S,⟨_,_,rfl,rfl,rfl⟩,less_,?_⟩
    exact ⟨by rw [chk_no (fun h=>by rcases hR.1 h with h | h;exact h4 h;exact bnot_t hc h)];rfl,rfl⟩
   ·iterate 8 refine s1_ ?_
    refine ⟨_,S,⟨_,_,rfl,rfl,rfl⟩,less_,?_⟩
    exact ⟨by rw [chk_yes (hR.2 (.inr (bnot_f hc)))];rfl,rfl⟩
 ·rw [chk_no (fun h=>h3 (by have:=h.2.2.1;omega))]
  refine ACall.enter (rs:=[.tmp 2]) 40 [(0,.agg #[.string s,.int .i64 N])] Tryz.func30 rfl rfl (Nat.le_of_ble_eq_true rfl) rfl ⟨rfl,trivial⟩ ?_
  iterate 2 refine s1_ ?_
  refine ARun.boxA (cs:=[_,_]) (lit_lt rfl) rfl ?_
  intro b1 f1
  have g1:=f1
  repeat ((with_reducible replace g1:=fresh_set g1);obtain ⟨g1,_⟩:=g1)
  refine nl_ ?_
  iterate 27 refine s1_ ?_
  refine su_ [(0,_),(1,_),(2,_),(22,_)] ?_
  refine cT_ ?_
  iterate 7 refine s1_ ?_
  refine ⟨_,S,⟨_,_,rfl,rfl,rfl⟩,less_,?_⟩
  exact ⟨rfl,rfl⟩
theorem bitsV_CopyI (p : Nat) (s : ByteArray) (N : Int) (L : List Bool) (o : Option (Nat × Nat)) (S : Mem) (h0 : 0 ≤ N) (hs : s.size = (N.toNat + 7) / 8) (hN : N ≤ 1048576) (hlen : L.length + N.toNat ≤ 1048576) (hok : OkW S p o L) :
  ACall Tryz.prog 33 #[.pointer (some ⟨p,0,none⟩),.agg #[.string s,.int .i64 N]] (wrM S p o L) fun r S'=>r = .tuple #[] ∧ ∃ o',OkW S p o' (L ++ Bits.upto s.data.toList N.toNat)∧S'=wrM S p o' (L ++ Bits.upto s.data.toList N.toNat):=by
 have:=bitsV_Copy p s N.toNat L o S hs (by omega) hlen hok
 rwa [Int.toNat_of_nonneg h0] at this
set_option maxHeartbeats 1000000 in
theorem bitsV_Put (s : ByteArray) (N v wd : Int) (S : Mem) (hs : s.size ≤ 9223372036854775807) (hv0 : 0 ≤ v) (hv1 : v ≤ 18446744073709551615) (hw0 : -9223372036854775808 ≤ wd) (hw1 : wd ≤ 9223372036854775807) :
  ACall Tryz.prog 13 #[.agg #[.string s,.int .i64 N],.int .u64 v,.int .i64 wd] S fun r S'=>r=putP s N v wd∧S'=S:=by
 unfold putP
 refine ACall.enter (rs:=[.cell 6 47,.tmp 7]) 45 [(0,.agg #[.string s,.int .i64 N]),(1,.int .u64 v),(2,.int .i64 wd)] Tryz.func13 rfl rfl (Nat.le_of_ble_eq_true rfl) rfl ⟨rfl,rfl,rfl,trivial⟩ ?_
 iterate 2 refine s1_ ?_
 refine ARun.boxA (cs:=[_,_]) (lit_lt rfl) rfl ?_
 intro b3 f3
 have g3:=f3
 repeat ((with_reducible replace g3:=fresh_set g3);obtain ⟨g3,_⟩:=g3)
 refine nl_ ?_
 refine ARun.alloc (lit_lt rfl) ty_zero_47 ?_
 intro b6 f6
 have g6:=f6
 repeat ((with_reducible replace g6:=fresh_set g6);obtain ⟨g6,_⟩:=g6)
 refine nl_ ?_
 iterate 7 refine s1_ ?_
 refine ca_ rfl (bitsV_Check s N _ hs) ?_
 rintro _ _ ⟨rfl,rfl⟩
 iterate 3 refine s1_ ?_
 refine su_ [(0,_),(1,_),(2,_),(3,_),(6,_),(7,_),(8,_)] ?_
 iterate 6 refine s1_ ?_
 refine su_ [(0,_),(1,_),(2,_),(3,_),(6,_),(7,_),(8,_),(13,_)] ?_
 refine AWP.condB rfl (fun hc=>?_) (fun hc=>?_)
 ·have hc:=bnot_t hc
  iterate 8 refine s1_ ?_
  refine su_ [(0,_),(1,_),(2,_),(3,_),(6,_),(7,_),(8,_),(13,_)] ?_
  iterate 2 refine s1_ ?_
  refine ⟨_,S,⟨_,_,_,rfl,.inr ⟨ty_agg_47,[_,_],ty_size_47,rds_,rfl⟩,⟨_,_,rfl,rfl,rfl⟩,rfl⟩,less_,?_⟩
  exact ⟨by rw [if_pos hc,chk_two hc];rfl,rfl⟩
 ·have hc:=bnot_f hc
  rw [if_neg (fun h=>h hc)]
  obtain ⟨hN0,hN1,hR⟩:=chk_right hc
  by_cases hw:0≤wd∧wd≤64
  ·iterate 7 refine s1_ ?_
   refine ca_ rfl (bits_wide wd _) ?_
   rintro _ _ ⟨rfl,rfl⟩
   rw [decide_eq_true hw]
   iterate 3 refine s1_ ?_
   refine ARun.callG 3 false 20 rfl (lit_lt rfl) rfl (lit_lt rfl) go_32 rfl (ACall.of_same fun w=>lib_Len64 v w hv0 hv1) ?_
   rintro _ _ ⟨rfl,rfl⟩
   iterate 6 refine s1_ ?_
   refine su_ [(0,_),(1,_),(2,_),(3,_),(6,_),(7,_),(8,_),(13,_),(16,_)] ?_
   refine AWP.condB rfl (fun hl=>?_) (fun hl=>?_)
   ·have hl:=of_decide_eq_true hl
    iterate 7 refine s1_ ?_
    refine su_ [(0,_),(1,_),(2,_),(3,_),(6,_),(7,_),(8,_),(13,_),(16,_)] ?_
    iterate 3 refine s1_ ?_
    refine ⟨_,S,⟨_,_,_,rfl,.inr ⟨ty_agg_47,[_,_],ty_size_47,rds_,rfl⟩,⟨_,_,rfl,rfl,rfl⟩,rfl⟩,less_,?_⟩
    exact ⟨by rw [if_pos (.inr (by omega))];rfl,rfl⟩
   ·have hl:=of_decide_eq_false hl
    rw [if_neg (fun h=>by rcases h with h | h;exact h hw;omega)]
    iterate 10 refine s1_ ?_
    refine su_ [(0,_),(1,_),(2,_),(3,_),(6,_),(7,_),(8,_),(13,_),(16,_),(27,_)] ?_
    refine AWP.condB rfl (fun hf=>?_) (fun hf=>?_)
    ·have hf:=of_decide_eq_true hf
     iterate 7 refine s1_ ?_
     refine su_ [(0,_),(1,_),(2,_),(3,_),(6,_),(7,_),(8,_),(13,_),(16,_),(27,_)] ?_
     iterate 3 refine s1_ ?_
     refine ⟨_,S,⟨_,_,_,rfl,.inr ⟨ty_agg_47,[_,_],ty_size_47,rds_,rfl⟩,⟨_,_,rfl,rfl,rfl⟩,rfl⟩,less_,?_⟩
     exact ⟨by rw [if_pos hf];rfl,rfl⟩
    ·have hf:=of_decide_eq_false hf
     rw [if_neg hf]
     have hs1:s.size=(N.toNat+7) / 8:=by rw [← hR.1];exact (Array.length_toList (xs:=s.data)).symm
     iterate 6 refine s1_ ?_
     refine ARun.boxA (cs:=[_,_,_]) (lit_lt rfl) rfl ?_
     intro b35 f35
     have g35:=f35
     repeat ((with_reducible replace g35:=fresh_set g35);obtain ⟨g35,_⟩:=g35)
     refine nl_ ?_
     iterate 3 refine s1_ ?_
     refine su_ [(0,_),(1,_),(2,_),(3,_),(6,_),(7,_),(8,_),(13,_),(16,_),(27,_),(9,_)] ?_
     rw [← wrM_nil]
     have hm3:=own_wrM_ok (okW_nil f35) (b:=b3) (r:=⟨47,[.string s,.int .i64 N],2⟩) own_
     iterate 4 refine s1_ ?_
     refine ca_ rfl (bitsV_CopyI b35 s N [] none _ hN0 hs1 (by omega) (by simp;omega) (okW_nil (by assumption))) ?_
     rintro _ _ ⟨rfl,o1,hk1,rfl⟩
     iterate 2 refine s1_ ?_
     refine su_ [(0,_),(1,_),(2,_),(3,_),(6,_),(7,_),(8,_),(13,_),(16,_),(27,_),(9,_)] ?_
     iterate 5 refine s1_ ?_
     refine ca_ rfl (bitsV_AddI b35 v wd _ o1 _ (by omega) (by omega) (by omega) (by omega) (by simp [upto_length];omega) hk1) ?_
     rintro _ _ ⟨rfl,o2,hk2,rfl⟩
     iterate 2 refine s1_ ?_
     refine su_ [(0,_),(1,_),(2,_),(3,_),(6,_),(7,_),(8,_),(13,_),(16,_),(27,_),(9,_)] ?_
     iterate 3 refine s1_ ?_
     refine ca_ rfl (bitsV_Bits b35 _ o2 _ (by simp [upto_length,numB_length];omega) hk2) ?_
     rintro _ _ ⟨rfl,rfl⟩
     iterate 4 refine s1_ ?_
     refine su_ [(0,_),(1,_),(2,_),(3,_),(6,_),(7,_),(8,_),(13,_),(16,_),(27,_),(9,_)] ?_
     refine s1_ ?_
     refine ⟨_,S,⟨_,_,_,rfl,.inr ⟨ty_agg_47,[_,_],ty_size_47,rds_,rfl⟩,⟨_,_,rfl,rfl,rfl⟩,rfl⟩,less_,?_⟩
     exact ⟨by simp only [List.nil_append,List.length_append,upto_length,numB_length,Bits.two,Bits.bv,one];rw [show ((N.toNat+wd.toNat:Nat):Int)=N+wd from by omega],rfl⟩
  ·iterate 7 refine s1_ ?_
   refine ca_ rfl (bits_wide wd _) ?_
   rintro _ _ ⟨rfl,rfl⟩
   rw [decide_eq_false hw]
   iterate 10 refine s1_ ?_
   refine su_ [(0,_),(1,_),(2,_),(3,_),(6,_),(7,_),(8,_),(13,_),(16,_)] ?_
   refine cT_ ?_
   iterate 7 refine s1_ ?_
   refine su_ [(0,_),(1,_),(2,_),(3,_),(6,_),(7,_),(8,_),(13,_),(16,_)] ?_
   iterate 3 refine s1_ ?_
   refine ⟨_,S,⟨_,_,_,rfl,.inr ⟨ty_agg_47,[_,_],ty_size_47,rds_,rfl⟩,⟨_,_,rfl,rfl,rfl⟩,rfl⟩,less_,?_⟩
   exact ⟨by rw [if_pos (.inl hw)];rfl,rfl⟩
end Go.Proofs.YthbadpcmdlfmdaaGreatDoor
namespace Go.Proofs.YthbadpcmdlfmdaaGreatDoor
open Go.RowKit
open Bits Mv
set_option maxRecDepth 8000
namespace Bits
theorem size_list (s : ByteArray) : s.size = s.data.toList.length := (Array.length_toList (xs := s.data)).symm
end Bits
set_option maxHeartbeats 1000000 in
theorem bitsV_Get (s : ByteArray) (N at_ wd : Int) (S : Mem) (hs : s.size ≤ 9223372036854775807) (hw0 : -9223372036854775808 ≤ wd) (hw1 : wd ≤ 9223372036854775807) :
  ACall Tryz.prog 14 #[.agg #[.string s,.int .i64 N],.int .i64 at_,.int .i64 wd] S fun r S'=>r=getP s N at_ wd∧S'=S:=by
 unfold getP
 refine ACall.enter (rs:=[.tmp 6,.tmp 7]) 39 [(0,.agg #[.string s,.int .i64 N]),(1,.int .i64 at_),(2,.int .i64 wd)] Tryz.func14 rfl rfl (Nat.le_of_ble_eq_true rfl) rfl ⟨rfl,rfl,rfl,trivial⟩ ?_
 iterate 2 refine s1_ ?_
 refine ARun.boxA (cs:=[_,_]) (lit_lt rfl) rfl ?_
 intro b3 f3
 have g3:=f3
 repeat ((with_reducible replace g3:=fresh_set g3);obtain ⟨g3,_⟩:=g3)
 refine nl_ ?_
 iterate 8 refine s1_ ?_
 refine ca_ rfl (bitsV_Check s N _ hs) ?_
 rintro _ _ ⟨rfl,rfl⟩
 iterate 3 refine s1_ ?_
 refine su_ [(0,_),(1,_),(2,_),(3,_),(6,_),(7,_),(8,_)] ?_
 iterate 6 refine s1_ ?_
 refine su_ [(0,_),(1,_),(2,_),(3,_),(6,_),(7,_),(8,_),(12,_)] ?_
 refine AWP.condB rfl (fun hc=>?_) (fun hc=>?_)
 ·have hc:=bnot_t hc
  iterate 7 refine s1_ ?_
  refine su_ [(0,_),(1,_),(2,_),(3,_),(6,_),(7,_),(8,_),(12,_)] ?_
  iterate 2 refine s1_ ?_
  refine ⟨_,S,⟨_,_,rfl,⟨_,_,rfl,rfl,rfl⟩,rfl⟩,less_,?_⟩
  exact ⟨by rw [if_pos hc,chk_two hc];rfl,rfl⟩
 ·have hc:=bnot_f hc
  rw [if_neg (fun h=>h hc)]
  obtain ⟨hN0,hN1,hR⟩:=chk_right hc
  by_cases hw:0≤wd∧wd≤64
  ·by_cases ha:at_<0
   ·iterate 7 refine s1_ ?_
    refine ca_ rfl (bits_wide wd _) ?_
    rintro _ _ ⟨rfl,rfl⟩
    rw [decide_eq_true hw]
    iterate 14 refine s1_ ?_
    refine su_ [(0,_),(1,_),(2,_),(3,_),(6,_),(7,_),(8,_),(12,_),(14,_)] ?_
    refine cT_ ?_
    iterate 9 refine s1_ ?_
    refine ⟨_,S,⟨_,_,rfl,⟨_,_,rfl,rfl,rfl⟩,rfl⟩,less_,?_⟩
    exact ⟨by rw [if_pos (.inr (.inl ha))];rfl,rfl⟩
   ·by_cases hb:N<at_
    ·iterate 7 refine s1_ ?_
     refine ca_ rfl (bits_wide wd _) ?_
     rintro _ _ ⟨rfl,rfl⟩
     rw [decide_eq_true hw]
     iterate 14 refine s1_ ?_
     refine su_ [(0,_),(1,_),(2,_),(3,_),(6,_),(7,_),(8,_),(12,_),(14,_)] ?_
     refine cT_ ?_
     iterate 9 refine s1_ ?_
     refine ⟨_,S,⟨_,_,rfl,⟨_,_,rfl,rfl,rfl⟩,rfl⟩,less_,?_⟩
     exact ⟨by rw [if_pos (.inr (.inr hb))];rfl,rfl⟩
    ·rw [if_neg (fun h=>by rcases h with h | h | h;exact h hw;exact ha h;exact hb h)]
     iterate 7 refine s1_ ?_
     refine ca_ rfl (bits_wide wd _) ?_
     rintro _ _ ⟨rfl,rfl⟩
     rw [decide_eq_true hw]
     iterate 14 refine s1_ ?_
     refine su_ [(0,_),(1,_),(2,_),(3,_),(6,_),(7,_),(8,_),(12,_),(14,_)] ?_
     refine cF_ ?_
     iterate 11 refine s1_ ?_
     refine su_ [(0,_),(1,_),(2,_),(3,_),(6,_),(7,_),(8,_),(12,_),(14,_),(28,_)] ?_
     refine AWP.condB rfl (fun hf=>?_) (fun hf=>?_)
     ·have hf:=of_decide_eq_true hf
      iterate 9 refine s1_ ?_
      refine ⟨_,S,⟨_,_,rfl,⟨_,_,rfl,rfl,rfl⟩,rfl⟩,less_,?_⟩
      exact ⟨by rw [if_pos hf];rfl,rfl⟩
     ·have hf:=of_decide_eq_false hf
      rw [if_neg hf]
      have hs1:s.size=(N.toNat+7) / 8:=by rw [← hR.1];exact size_list s
      iterate 8 refine s1_ ?_
      refine ca_ rfl (ACall.of_calls fun w=>bits_At s (by omega) N at_ wd w (by omega) (by omega) (by omega) (by omega)) ?_
      rintro _ _ ⟨rfl,rfl⟩
      iterate 4 refine s1_ ?_
      refine su_ [(0,_),(1,_),(2,_),(3,_),(6,_),(7,_),(8,_),(12,_),(14,_),(28,_)] ?_
      refine s1_ ?_
      refine ⟨_,S,⟨_,_,rfl,⟨_,_,rfl,rfl,rfl⟩,rfl⟩,less_,?_⟩
      exact ⟨rfl,rfl⟩
  ·iterate 7 refine s1_ ?_
   refine ca_ rfl (bits_wide wd _) ?_
   rintro _ _ ⟨rfl,rfl⟩
   rw [decide_eq_false hw]
   iterate 14 refine s1_ ?_
   refine su_ [(0,_),(1,_),(2,_),(3,_),(6,_),(7,_),(8,_),(12,_),(14,_)] ?_
   refine cT_ ?_
   iterate 9 refine s1_ ?_
   refine ⟨_,S,⟨_,_,rfl,⟨_,_,rfl,rfl,rfl⟩,rfl⟩,less_,?_⟩
   exact ⟨by rw [if_pos (.inl hw)];rfl,rfl⟩
end Go.Proofs.YthbadpcmdlfmdaaGreatDoor
namespace Go.Proofs.YthbadpcmdlfmdaaGreatDoor
open Go.RowKit
open Mv
theorem push_sub {α : Type} {b c n : Nat} {L : List α} {x : α} (h : n = L.length + 1) : some (outV (some (b, c)) n) = some (outV (some (b, c)) (L ++ [x]).length) := by
 rw [h,List.length_append];rfl
/-- Slots that are as told. -/
theorem sq_ {p : Prop} (h : p := by first | rfl | (refine some_int ?_; first | omega | (dsimp only; omega)) | exact push_sub (by first | rfl | omega)) : p := h
/-- A value that is read: what was known stays, and it is this list. -/
def RdL {α : Type} (g : α → Value) (l : List α) (S : Mem) (r : Value) (S' : Mem) : Prop := S.Less S' ∧ Sl 1 (fun x => [g x]) S' r l
theorem RdL.of_out {α : Type} {g : α → Value} {S : Mem} {o : Option (Nat × Nat)} {e : TypeId} {l : List α} {n : Nat} (h : OkO S o n) (hn : l.length = n) (hm : n ≤ 9223372036854775807) : RdL g l S (outV o n) (outM S o e (l.map g)) :=
 ⟨outM_over h,sl_outV h hn hm⟩
/-- A new slice that is the call's own. -/
def NewL {α : Type} (g : α → Value) (e : TypeId) (l : List α) (S : Mem) (r : Value) (S' : Mem) : Prop := ∃ o, OkO S o l.length ∧ r = outV o l.length ∧ S' = outM S o e (l.map g)
theorem NewL.rd {α : Type} {g : α → Value} {e : TypeId} {l : List α} {S : Mem} {r : Value} {S' : Mem} (h : NewL g e l S r S') (hm : l.length ≤ 9223372036854775807) : RdL g l S r S' := by
 obtain ⟨o,ho,rfl,rfl⟩:=h
 exact RdL.of_out ho rfl hm
end Go.Proofs.YthbadpcmdlfmdaaGreatDoor
namespace Go.Proofs.YthbadpcmdlfmdaaGreatDoor
open Go.RowKit
open Mv Disk Num
set_option maxRecDepth 4000
namespace Top
theorem put_five : Bits.putP ByteArray.empty 0 5 3 = Bits.two (Bits.bv ⟨#[160]⟩ 3) 0 := by
 unfold Bits.putP
 rw [if_neg (by rw [Bits.chk_yes (show Bits.right ByteArray.empty.data.toList 0 from ⟨by decide,by decide,by decide,fun i h1 h2=>by simp at h2⟩)];simp),if_neg (by decide),if_neg (by decide)]
 rfl
theorem right_five : Bits.right (⟨#[160]⟩ : ByteArray).data.toList 3 := ⟨by decide, by decide, Bits.right_pack [true, false, true]⟩
theorem get_five : Bits.getP ⟨#[160]⟩ 3 0 3 = Bits.two (.int .u64 5) 0 := by
 unfold Bits.getP
 rw [if_neg (by rw [Bits.chk_yes right_five];simp),if_neg (by decide),if_neg (by decide)]
 rfl
theorem top_begins (S : Mem) : ACall Tryz.prog 4 #[] S fun r S' => r = .bool true ∧ S' = S := by
 have c1:=fun S=>bitsV_Put ByteArray.empty 0 5 3 S (by decide) (by decide) (by decide) (by decide) (by decide)
 have c2:=fun S=>bitsV_Get ⟨#[160]⟩ 3 0 3 S (by decide) (by decide) (by decide)
 rw [put_five] at c1
 rw [get_five] at c2
 unfold Bits.two Bits.bv at c1
 unfold Bits.two at c2
 refine ACall.enter (rs:=[.tmp 0]) 30 [] Tryz.func4 rfl rfl (Nat.le_of_ble_eq_true rfl) rfl trivial ?_
 iterate 8 refine s1_ ?_
 refine ca_ rfl (c1 _) ?_
 rintro _ Sx ⟨rfl,h1⟩
 rw [h1];clear h1 Sx
 iterate 3 refine s1_ ?_
 refine ARun.alloc (lit_lt rfl) ty_zero_47 ?_
 intro b1 f1
 have g1:=f1
 repeat ((with_reducible replace g1:=fresh_set g1);obtain ⟨g1,_⟩:=g1)
 refine nl_ ?_
 iterate 4 refine s1_ ?_
 refine su_ [(0,_),(1,_),(2,_)] ?_
 iterate 3 refine s1_ ?_
 refine ca_ rfl (c2 _) ?_
 rintro _ Sx ⟨rfl,h1⟩
 rw [h1];clear h1 Sx
 iterate 7 refine s1_ ?_
 refine su_ [(0,_),(1,_),(2,_),(3,_),(4,_)] ?_
 iterate 20 refine s1_ ?_
 refine su_ [(0,_),(1,_),(2,_),(3,_),(4,_)] ?_
 refine s1_ ?_
 refine ⟨_,S,⟨_,_,rfl,rfl,rfl⟩,less_,?_⟩
 exact ⟨rfl,rfl⟩
theorem dec_big (a : Nat) : decide ((a : Int) < 1099511627776) = decide (a < 1099511627776) := by rw [Bool.eq_iff_iff]; simp only [decide_eq_true_eq]; omega
theorem all_step {x : List Nat} {j : Nat} (h : j < x.length) : ((x.take (j + 1)).all fun n => decide (n < 1099511627776)) = (((x.take j).all fun n => decide (n < 1099511627776)) && decide (x[j] < 1099511627776)) := by
 rw [List.take_succ_eq_append_getElem h,List.all_append];simp
set_option maxHeartbeats 2000000 in
theorem top_records (v : Value) (l : List (List Nat)) (w : Nat) (S : Mem) (hl : SlOf RowR S v l) (hll : l.length ≤ 5864062014634) :
  ACall Tryz.prog 5 #[v,.int .i64 (w:Int)] S fun r S'=>S.Less S'∧SlOf RowR S' r (recsL l w):=by
 obtain ⟨gs,hgl,⟨pa,ca,rfl,a1,a2,a3⟩,hge⟩:=id hl
 unfold recsL
 have hst:∀ i (h:i<l.length),(l.take (i+1)).foldl (recS w) []=recS w ((l.take i).foldl (recS w) []) l[i]:=fun i h=>by
  rw [List.take_succ_eq_append_getElem h,List.foldl_append];rfl
 refine ACall.enter (rs:=[.tmp 4]) 45 [(0,.slice pa gs.length ca),(1,.int .i64 (w:Int))] Tryz.func5 rfl rfl (Nat.le_of_ble_eq_true rfl) rfl ⟨rfl,rfl,trivial⟩ ?_
 iterate 19 refine s1_ ?_
 refine AWP.loop (X:=Nat × Option (Nat × Nat) × List Value) (fun x=>[(1,.int .i64 (w:Int)),(5,outV x.2.1 x.2.2.length),(11,.slice pa gs.length ca),(12,.int .i64 (gs.length:Int)),(13,.int .i64 (x.1:Int))]) (fun x=>outM S x.2.1 40 x.2.2) (fun x=>x.1≤l.length∧x.2.2.length≤x.1∧GrowI RowR S S x.2.1 x.2.2 ((l.take x.1).foldl (recS w) [])) (fun x=>l.length-x.1) ((0,none,[])) ⟨rfl,rfl,rfl,rfl,rfl,trivial⟩ (Mem.Less.refl _) (⟨Nat.zero_le _,Nat.le_refl _,GrowI.nil _ _⟩) ?_
 rintro ⟨i,o,hs⟩ ⟨hi,hhs,hI⟩
 (try dsimp only at *)
 by_cases q:i<l.length
 ·have hlen:=hI.len
  obtain ⟨oa,oc,hqo⟩:=outV_eq hI.ok
  iterate 6 refine s1_ ?_
  refine cT_ ?_
  obtain ⟨b0,off,rfl,hkn⟩:=a3.resolve_left (fun e=>by rw [e] at hgl;simp at hgl;omega)
  have hki:=(hkn i (by omega)).less (outM_over (e:=40) (cs:=hs) hI.ok)
  have hr:=hge i q (by omega)
  obtain ⟨xa,xc,hxe,x1,x2,x3⟩:=id hr
  have hxe:gs[i] = .slice xa l[i].length xc:=hxe
  rw [hxe] at hki hr
  have hst:=(hst i q).trans (show recS w ((l.take i).foldl (recS w) []) l[i]=if l[i].length=w∧((l.take i).foldl (recS w) []).length<40∧(l[i].all fun n=>decide (n<1099511627776))=true then (l.take i).foldl (recS w) [] ++ [l[i]] else (l.take i).foldl (recS w) [] from rfl)
  generalize hX:l[i]=X at *
  by_cases q1:X.length=w∧hs.length<40
  ·iterate 11 refine s1_ ?_
   refine su_ [(1,_),(5,_),(11,_),(12,_),(13,_),(14,_),(7,_)] ?_
   iterate 5 refine s1_ ?_
   refine rC (Calm.bin rfl rfl (bin_bool (bin_eql _ _) (decide_eq_true (by omega)))) ?_
   iterate 2 refine s1_ ?_
   first|refine k_q 21 ?_|refine rG 21 ((by rw [hqo];exact Calm.lenSl Tryz.underlying22 rfl)) ?_
   first|refine k_q 21 ?_|refine rG 21 (Calm.bin rfl rfl (bin_bool (bin_lss _ _) (decide_eq_true (by omega)))) ?_
   iterate 4 refine s1_ ?_
   refine su_ [(1,_),(5,_),(11,_),(12,_),(13,_),(14,_),(7,_),(8,_)] ?_
   iterate 9 refine s1_ ?_
   refine AWP.loop (X:=Nat) (fun j=>[(1,.int .i64 (w:Int)),(5,outV o hs.length),(7,.slice xa X.length xc),(8,.bool ((X.take j).all fun n=>decide (n<1099511627776))),(11,.slice (some ⟨b0,off,none⟩) gs.length ca),(12,.int .i64 (gs.length:Int)),(13,.int .i64 (i:Int)),(26,.slice xa X.length xc),(27,.int .i64 (X.length:Int)),(28,.int .i64 (j:Int))]) (fun j=>outM S o 40 hs) (fun j=>j≤X.length) (fun j=>X.length-j) (0) ⟨rfl,rfl,rfl,rfl,rfl,rfl,rfl,rfl,rfl,rfl,trivial⟩ (Mem.Less.refl _) (Nat.zero_le _) ?_
   rintro j hj
   (try dsimp only at *)
   by_cases qj:j<X.length
   ·iterate 6 refine s1_ ?_
    refine cT_ ?_
    obtain ⟨xb,xo,rfl,hxk⟩:=x3.resolve_left (fun e=>by subst e;exact absurd qj (Nat.not_lt_zero _))
    have hxj:=(hxk j qj).less (outM_over (e:=40) (cs:=hs) hI.ok)
    have hall:=all_step qj
    by_cases qa:((X.take j).all fun n=>decide (n<1099511627776))=true
    ·rw [qa] at hall ⊢
     iterate 11 refine s1_ ?_
     refine su_ [(1,_),(5,_),(7,_),(8,_),(11,_),(12,_),(13,_),(26,_),(27,_),(28,_),(29,_),(10,_)] ?_
     iterate 4 refine s1_ ?_
     first|refine k_q 33 ?_|refine rG 33 (Calm.bin rfl rfl (bin_bool (bin_lss _ _) (dec_big _))) ?_
     iterate 5 refine s1_ ?_
     refine su_ [(1,_),(5,_),(7,_),(8,_),(11,_),(12,_),(13,_),(26,_),(27,_),(28,_),(29,_),(10,_)] ?_
     iterate 5 refine s1_ ?_
     refine ⟨j+1,?_,?_,?_,?_⟩
     all_goals (try dsimp only)
     ·exact ⟨rfl,rfl,rfl,(by rw [hall];rfl),rfl,rfl,rfl,rfl,rfl,rfl,trivial⟩
     ·exact Mem.Less.refl _
     ·exact qj
     ·omega
    ·have qa:((X.take j).all fun n=>decide (n<1099511627776))=false:=by simpa using qa
     rw [qa] at hall ⊢
     iterate 11 refine s1_ ?_
     refine su_ [(1,_),(5,_),(7,_),(8,_),(11,_),(12,_),(13,_),(26,_),(27,_),(28,_),(29,_),(10,_)] ?_
     iterate 10 refine s1_ ?_
     refine su_ [(1,_),(5,_),(7,_),(8,_),(11,_),(12,_),(13,_),(26,_),(27,_),(28,_),(29,_),(10,_)] ?_
     iterate 5 refine s1_ ?_
     refine ⟨j+1,?_,?_,?_,?_⟩
     all_goals (try dsimp only)
     ·exact ⟨rfl,rfl,rfl,(by rw [hall];rfl),rfl,rfl,rfl,rfl,rfl,rfl,trivial⟩
     ·exact Mem.Less.refl _
     ·exact qj
     ·omega
   ·obtain rfl:j=X.length:=by omega
    iterate 6 refine s1_ ?_
    refine cF_ ?_
    rw [List.take_length]
    by_cases qa:(X.all fun n=>decide (n<1099511627776))=true
    ·rw [qa]
     iterate 10 refine s1_ ?_
     refine cT_ ?_
     iterate 3 refine s1_ ?_
     refine ARun.build1s (lit_lt rfl) ty_sl_22 rfl rfl ?_
     intro b41 f41
     have g41:=f41
     repeat ((with_reducible replace g41:=fresh_set g41);obtain ⟨g41,_⟩:=g41)
     refine ARun.appendO (lit_lt rfl) ty_sl_22 rfl rfl (appO_of hI.ok rfl f41) rfl (news:=[_]) rds_ rfl (by omega) (by simp [Value.oneCell']) (by omega) (by omega) ?_
     intro b42 c42 hoo
     rw [if_pos ⟨q1.1,by omega,qa⟩] at hst
     have hI2:=hI.step rowR_less (Mem.Less.refl _) hr hoo
     rw [← hst] at hI2
     iterate 4 refine s1_ ?_
     refine su_ [(1,_),(5,_),(7,_),(8,_),(11,_),(12,_),(13,_),(26,_),(27,_),(28,_),(29,_),(38,_)] ?_
     iterate 5 refine s1_ ?_
     refine ⟨(i+1,some (b42,c42),hs ++ [.slice xa X.length xc]),?_,?_,?_,?_⟩
     all_goals (try dsimp only)
     ·exact ⟨rfl,sq_,rfl,rfl,sq_,trivial⟩
     ·exact Mem.Less.refl _
     ·exact ⟨q,by rw [List.length_append];show hs.length+1≤i+1;omega,hI2⟩
     ·omega
    ·have qa:(X.all fun n=>decide (n<1099511627776))=false:=by simpa using qa
     rw [qa]
     iterate 10 refine s1_ ?_
     refine cF_ ?_
     rw [if_neg (fun h=>by rw [qa] at h;exact absurd h.2.2 (by simp))] at hst
     rw [← hst] at hI
     iterate 8 refine s1_ ?_
     refine ⟨(i+1,o,hs),?_,?_,?_,?_⟩
     all_goals (try dsimp only)
     ·exact ⟨rfl,rfl,rfl,rfl,rfl,trivial⟩
     ·exact Mem.Less.refl _
     ·exact ⟨q,by omega,hI⟩
     ·omega
  ·rcases (show X.length≠w∨X.length=w ∧ ¬ hs.length<40 from by omega) with q2 | ⟨q2,q3⟩
   ·iterate 11 refine s1_ ?_
    refine su_ [(1,_),(5,_),(11,_),(12,_),(13,_),(14,_),(7,_)] ?_
    iterate 5 refine s1_ ?_
    refine rC (Calm.bin rfl rfl (bin_bool (bin_eql _ _) (decide_eq_false (by omega)))) ?_
    iterate 8 refine s1_ ?_
    refine su_ [(1,_),(5,_),(11,_),(12,_),(13,_),(14,_),(7,_),(8,_)] ?_
    iterate 9 refine s1_ ?_
    refine AWP.loop (X:=Nat) (fun j=>[(1,.int .i64 (w:Int)),(5,outV o hs.length),(7,.slice xa X.length xc),(8,.bool false),(11,.slice (some ⟨b0,off,none⟩) gs.length ca),(12,.int .i64 (gs.length:Int)),(13,.int .i64 (i:Int)),(26,.slice xa X.length xc),(27,.int .i64 (X.length:Int)),(28,.int .i64 (j:Int))]) (fun j=>outM S o 40 hs) (fun j=>j≤X.length) (fun j=>X.length-j) (0) ⟨rfl,rfl,rfl,rfl,rfl,rfl,rfl,rfl,rfl,rfl,trivial⟩ (Mem.Less.refl _) (Nat.zero_le _) ?_
    rintro j hj
    (try dsimp only at *)
    by_cases qj:j<X.length
    ·iterate 6 refine s1_ ?_
     refine cT_ ?_
     obtain ⟨xb,xo,rfl,hxk⟩:=x3.resolve_left (fun e=>by subst e;exact absurd qj (Nat.not_lt_zero _))
     have hxj:=(hxk j qj).less (outM_over (e:=40) (cs:=hs) hI.ok)
     iterate 11 refine s1_ ?_
     refine su_ [(1,_),(5,_),(7,_),(8,_),(11,_),(12,_),(13,_),(26,_),(27,_),(28,_),(29,_),(10,_)] ?_
     iterate 10 refine s1_ ?_
     refine su_ [(1,_),(5,_),(7,_),(8,_),(11,_),(12,_),(13,_),(26,_),(27,_),(28,_),(29,_),(10,_)] ?_
     iterate 5 refine s1_ ?_
     refine ⟨j+1,?_,?_,?_,?_⟩
     all_goals (try dsimp only)
     ·exact ⟨rfl,rfl,rfl,rfl,rfl,rfl,rfl,rfl,rfl,rfl,trivial⟩
     ·exact Mem.Less.refl _
     ·exact qj
     ·omega
    ·iterate 6 refine s1_ ?_
     refine cF_ ?_
     iterate 10 refine s1_ ?_
     refine cF_ ?_
     rw [if_neg (fun h=>q1 ⟨h.1,by omega⟩)] at hst
     rw [← hst] at hI
     iterate 8 refine s1_ ?_
     refine ⟨(i+1,o,hs),?_,?_,?_,?_⟩
     all_goals (try dsimp only)
     ·exact ⟨rfl,rfl,rfl,rfl,rfl,trivial⟩
     ·exact Mem.Less.refl _
     ·exact ⟨q,by omega,hI⟩
     ·omega
   ·iterate 11 refine s1_ ?_
    refine su_ [(1,_),(5,_),(11,_),(12,_),(13,_),(14,_),(7,_)] ?_
    iterate 5 refine s1_ ?_
    refine rC (Calm.bin rfl rfl (bin_bool (bin_eql _ _) (decide_eq_true (by omega)))) ?_
    iterate 2 refine s1_ ?_
    first|refine k_q 21 ?_|refine rG 21 ((by rw [hqo];exact Calm.lenSl Tryz.underlying22 rfl)) ?_
    first|refine k_q 21 ?_|refine rG 21 (Calm.bin rfl rfl (bin_bool (bin_lss _ _) (decide_eq_false (by omega)))) ?_
    iterate 4 refine s1_ ?_
    refine su_ [(1,_),(5,_),(11,_),(12,_),(13,_),(14,_),(7,_),(8,_)] ?_
    iterate 9 refine s1_ ?_
    refine AWP.loop (X:=Nat) (fun j=>[(1,.int .i64 (w:Int)),(5,outV o hs.length),(7,.slice xa X.length xc),(8,.bool false),(11,.slice (some ⟨b0,off,none⟩) gs.length ca),(12,.int .i64 (gs.length:Int)),(13,.int .i64 (i:Int)),(26,.slice xa X.length xc),(27,.int .i64 (X.length:Int)),(28,.int .i64 (j:Int))]) (fun j=>outM S o 40 hs) (fun j=>j≤X.length) (fun j=>X.length-j) (0) ⟨rfl,rfl,rfl,rfl,rfl,rfl,rfl,rfl,rfl,rfl,trivial⟩ (Mem.Less.refl _) (Nat.zero_le _) ?_
    rintro j hj
    (try dsimp only at *)
    by_cases qj:j<X.length
    ·iterate 6 refine s1_ ?_
     refine cT_ ?_
     obtain ⟨xb,xo,rfl,hxk⟩:=x3.resolve_left (fun e=>by subst e;exact absurd qj (Nat.not_lt_zero _))
     have hxj:=(hxk j qj).less (outM_over (e:=40) (cs:=hs) hI.ok)
     iterate 11 refine s1_ ?_
     refine su_ [(1,_),(5,_),(7,_),(8,_),(11,_),(12,_),(13,_),(26,_),(27,_),(28,_),(29,_),(10,_)] ?_
     iterate 10 refine s1_ ?_
     refine su_ [(1,_),(5,_),(7,_),(8,_),(11,_),(12,_),(13,_),(26,_),(27,_),(28,_),(29,_),(10,_)] ?_
     iterate 5 refine s1_ ?_
     refine ⟨j+1,?_,?_,?_,?_⟩
     all_goals (try dsimp only)
     ·exact ⟨rfl,rfl,rfl,rfl,rfl,rfl,rfl,rfl,rfl,rfl,trivial⟩
     ·exact Mem.Less.refl _
     ·exact qj
     ·omega
    ·iterate 6 refine s1_ ?_
     refine cF_ ?_
     iterate 10 refine s1_ ?_
     refine cF_ ?_
     rw [if_neg (fun h=>q1 ⟨h.1,by omega⟩)] at hst
     rw [← hst] at hI
     iterate 8 refine s1_ ?_
     refine ⟨(i+1,o,hs),?_,?_,?_,?_⟩
     all_goals (try dsimp only)
     ·exact ⟨rfl,rfl,rfl,rfl,rfl,trivial⟩
     ·exact Mem.Less.refl _
     ·exact ⟨q,by omega,hI⟩
     ·omega
 ·obtain rfl:i=l.length:=by omega
  iterate 6 refine s1_ ?_
  refine cF_ ?_
  rw [List.take_length] at hI
  iterate 11 refine s1_ ?_
  refine su_ [(1,_),(5,_),(11,_),(12,_),(13,_),(14,_),(4,_)] ?_
  refine s1_ ?_
  refine ⟨_,_,⟨_,_,rfl,rfl,rfl⟩,Mem.Less.refl _,?_⟩
  exact ⟨outM_over hI.ok,hI.slOf rowR_less (by omega)⟩
end Top
end Go.Proofs.YthbadpcmdlfmdaaGreatDoor
namespace Go.Proofs.YthbadpcmdlfmdaaGreatDoor
open Go.RowKit
open Mv Disk Num Loser
set_option maxRecDepth 4000
namespace Top
theorem less_twice {M : Mem} {a b : Nat} {A B C : Blk} (hb : (M.set a A).own b = none) : (M.set a C).Less (((M.set a A).set b B).set a C) :=
 ⟨fun k r hk=>by
  by_cases e:k=a
  ·subst e;rw [Mem.own_set_same] at hk ⊢;exact hk
  ·rw [Mem.own_set_other _ _ e] at hk ⊢
   by_cases e2:k=b
   ·subst e2;rw [Mem.own_set_other _ _ e,hk] at hb;cases hb
   ·rw [Mem.own_set_other _ _ e2,Mem.own_set_other _ _ e];exact hk,rfl⟩
/-- The state of the law's loop. -/
structure TlX where
  (m : Nat) (told : List Bool) (cur : List (List Nat)) (last : List Nat) (at_ : Int) (M : Mem) (lp : Option Addr) (lc : Nat) (ka : Option Addr) (kc : Nat) (ta : Option Addr) (tc : Nat)
theorem key_len {ks : List (List Nat)} {w : Nat} (h : ks.all (Rec.rowOK w) = true) (h1 : 1 ≤ w) : ∀ i, i < ks.length → key ks i ≠ [] := fun i hi e => by
 have:=(Rec.row_all h ks[i] (List.getElem_mem hi)).1
 rw [← key_get ks i hi,e] at this
 simp at this;omega
set_option maxHeartbeats 8000000 in
theorem law_TopLeast (v : Value) (l : List (List Nat)) (w : Int) (S : Mem) (hl : SlOf RowR S v l) (hll : l.length ≤ 5864062014634) :
  ACall Tryz.prog 3 #[v,.int .i64 w] S fun r S'=>r = .bool true:=by
 obtain ⟨gs,hgl,⟨pk,ck,ev,_⟩,_⟩:=id hl
 rw [hgl] at ev
 subst ev
 by_cases q1:w<1
 ·skip
  refine ACall.enter (rs:=[.tmp 4]) 110 [(0,.slice pk l.length ck),(1,.int .i64 w)] Tryz.func3 rfl rfl (Nat.le_of_ble_eq_true rfl) rfl ⟨rfl,rfl,trivial⟩ ?_
  iterate 8 refine s1_ ?_
  refine ca_ rfl (top_begins _) ?_
  rintro _ Sx ⟨rfl,h1⟩
  rw [h1];clear h1 Sx
  iterate 3 refine s1_ ?_
  refine su_ [(0,_),(1,_),(4,_),(22,_)] ?_
  refine cF_ ?_
  iterate 6 refine s1_ ?_
  refine rC (Calm.bin rfl rfl (bin_bool (bin_lss _ _) (decide_eq_true q1))) ?_
  iterate 6 refine s1_ ?_
  refine su_ [(0,_),(1,_),(4,_),(22,_),(28,_)] ?_
  refine cT_ ?_
  iterate 7 refine s1_ ?_
  refine ⟨_,_,⟨_,_,rfl,rfl,rfl⟩,less_,?_⟩
  rfl
 by_cases q2:8<w
 ·skip
  refine ACall.enter (rs:=[.tmp 4]) 110 [(0,.slice pk l.length ck),(1,.int .i64 w)] Tryz.func3 rfl rfl (Nat.le_of_ble_eq_true rfl) rfl ⟨rfl,rfl,trivial⟩ ?_
  iterate 8 refine s1_ ?_
  refine ca_ rfl (top_begins _) ?_
  rintro _ Sx ⟨rfl,h1⟩
  rw [h1];clear h1 Sx
  iterate 3 refine s1_ ?_
  refine su_ [(0,_),(1,_),(4,_),(22,_)] ?_
  refine cF_ ?_
  iterate 6 refine s1_ ?_
  refine rC (Calm.bin rfl rfl (bin_bool (bin_lss _ _) (decide_eq_false q1))) ?_
  iterate 2 refine s1_ ?_
  first|refine k_q 25 ?_|refine rG 25 (Calm.bin rfl rfl (bin_bool (bin_gtr _ _) (decide_eq_true q2))) ?_
  iterate 3 refine s1_ ?_
  refine su_ [(0,_),(1,_),(4,_),(22,_),(28,_)] ?_
  refine cT_ ?_
  iterate 7 refine s1_ ?_
  refine ⟨_,_,⟨_,_,rfl,rfl,rfl⟩,less_,?_⟩
  rfl
 obtain ⟨w,rfl⟩:=Int.eq_ofNat_of_zero_le (show 0≤w by omega)
 have hrec:=top_records _ l w S hl hll
 obtain ⟨hk40,hall⟩:=recsL_ok (w:=w) (by omega) (by omega) l
 have hne:=key_len hall (by omega)
 have hrow:∀ y ∈ recsL l w,y.length≤17592186043904:=fun y hy=>by have:=(Rec.row_all hall y hy).1;omega
 have hbig:∀ x ∈ recsL l w,∀ n ∈ x,n<18446744073709551616:=fun x hx n hn=>Nat.lt_of_lt_of_le ((Rec.row_all hall x hx).2 n hn) (by decide)
 generalize recsL l w=ks at *
 by_cases q3:ks.length=0
 ·skip
  refine ACall.enter (rs:=[.tmp 4]) 110 [(0,.slice pk l.length ck),(1,.int .i64 (w:Int))] Tryz.func3 rfl rfl (Nat.le_of_ble_eq_true rfl) rfl ⟨rfl,rfl,trivial⟩ ?_
  iterate 8 refine s1_ ?_
  refine ca_ rfl (top_begins _) ?_
  rintro _ Sx ⟨rfl,h1⟩
  rw [h1];clear h1 Sx
  iterate 3 refine s1_ ?_
  refine su_ [(0,_),(1,_),(4,_),(22,_)] ?_
  refine cF_ ?_
  iterate 6 refine s1_ ?_
  refine rC (Calm.bin rfl rfl (bin_bool (bin_lss _ _) (decide_eq_false q1))) ?_
  iterate 2 refine s1_ ?_
  first|refine k_q 25 ?_|refine rG 25 (Calm.bin rfl rfl (bin_bool (bin_gtr _ _) (decide_eq_false q2))) ?_
  iterate 3 refine s1_ ?_
  refine su_ [(0,_),(1,_),(4,_),(22,_),(28,_)] ?_
  refine cF_ ?_
  iterate 6 refine s1_ ?_
  refine ca_ rfl (hrec) ?_
  rintro r S1 ⟨hS1,hr⟩
  obtain ⟨hs,hlen,⟨pr,cr,rfl,_⟩,_⟩:=id hr
  iterate 3 refine s1_ ?_
  refine su_ [(0,_),(1,_),(4,_),(22,_),(28,_)] ?_
  iterate 8 refine s1_ ?_
  refine su_ [(0,_),(1,_),(4,_),(22,_),(28,_),(34,_)] ?_
  refine cT_ ?_
  iterate 7 refine s1_ ?_
  refine ⟨_,_,⟨_,_,rfl,rfl,rfl⟩,less_,?_⟩
  rfl
 have hmk:makeP ks=(ks,treeOf ks,0):=by unfold makeP;rw [if_pos (by omega)]
 obtain ⟨z,hz1,hzR,hzd,hzf,hzr⟩:=write_fresh (n:=300) (s:=nA) (w:=w) (l:=ks) (by decide) (by decide) (by decide) (by omega) (by omega) hall (by omega)
 have dz0:Dz (freshD 300):=dz_right (right_fresh (by decide) (by decide)) (by decide)
 have dz1:Dz z:=dz_right hzR hzf
 have c0:∀ S,ACall Tryz.prog 6 #[.int .i64 300] S (DkRes (freshD 300,0) S):=fun S=>by have:=disk_Make 300 S;rw [make_fresh (by decide) (by decide)] at this;exact this
 have c1:=fun v vl S hd hl=>Rec.rec_Write v (freshD 300) nA w ks vl S hd dz0 hl hbig
 have c2:=fun v S h=>Rec.rec_Read v z nA S h dz1
 rw [hz1] at c1
 unfold Rec.ReadR at c2
 rw [hzr] at c2
 simp only at c2
 clear hz1 hzr dz0 dz1 hzR hzf hzd
 generalize freshD 300=z0 at *
 refine ACall.enter (rs:=[.tmp 4]) 110 [(0,.slice pk l.length ck),(1,.int .i64 (w:Int))] Tryz.func3 rfl rfl (Nat.le_of_ble_eq_true rfl) rfl ⟨rfl,rfl,trivial⟩ ?_
 iterate 8 refine s1_ ?_
 refine ca_ rfl (top_begins _) ?_
 rintro _ Sx ⟨rfl,h1⟩
 rw [h1];clear h1 Sx
 iterate 3 refine s1_ ?_
 refine su_ [(0,_),(1,_),(4,_),(22,_)] ?_
 refine cF_ ?_
 iterate 6 refine s1_ ?_
 refine rC (Calm.bin rfl rfl (bin_bool (bin_lss _ _) (decide_eq_false q1))) ?_
 iterate 2 refine s1_ ?_
 first|refine k_q 25 ?_|refine rG 25 (Calm.bin rfl rfl (bin_bool (bin_gtr _ _) (decide_eq_false q2))) ?_
 iterate 3 refine s1_ ?_
 refine su_ [(0,_),(1,_),(4,_),(22,_),(28,_)] ?_
 refine cF_ ?_
 iterate 6 refine s1_ ?_
 refine ca_ rfl (hrec) ?_
 rintro r S1 ⟨hS1,hr⟩
 obtain ⟨hs,hlen,⟨pr,cr,rfl,_⟩,_⟩:=id hr
 rw [hlen] at hr ⊢
 iterate 3 refine s1_ ?_
 refine su_ [(0,_),(1,_),(4,_),(22,_),(28,_)] ?_
 iterate 8 refine s1_ ?_
 refine su_ [(0,_),(1,_),(4,_),(22,_),(28,_),(34,_)] ?_
 refine cF_ ?_
 iterate 4 refine s1_ ?_
 refine ca_ rfl (c0 _) ?_
 rintro _ M2 ⟨v2,rfl,hM2,hd2⟩
 have hd2:DkR M2 _ z0:=hd2
 obtain ⟨qe2,de2,qw2,dw2,rfl,_⟩:=id hd2
 iterate 3 refine s1_ ?_
 refine ARun.alloc (lit_lt rfl) ty_zero_28 ?_
 intro b5 f5
 have g5:=f5
 repeat ((with_reducible replace g5:=fresh_set g5);obtain ⟨g5,_⟩:=g5)
 refine nl_ ?_
 iterate 4 refine s1_ ?_
 refine su_ [(0,_),(1,_),(4,_),(22,_),(28,_),(34,_),(5,_),(6,_)] ?_
 iterate 5 refine s1_ ?_
 refine ca_ rfl ((c1 _ _ M2 hd2 (hr.less rowR_less hM2)).frame f5) ?_
 rintro _ Sx ⟨M3,⟨v3,rfl,hM3,hd3⟩,fa,h1⟩
 rw [h1];clear h1 Sx
 have hd3:DkR M3 _ z:=hd3
 obtain ⟨qe3,de3,qw3,dw3,rfl,_⟩:=id hd3
 iterate 7 refine s1_ ?_
 refine su_ [(0,_),(1,_),(4,_),(22,_),(28,_),(34,_),(5,_),(6,_),(7,_)] ?_
 have g5:=fa
 have hr:=hr.less rowR_less (hM2.trans hM3)
 refine named (S:=M3) (b:=b5) g5.1 ?_
 intro T5 hT5 kb5
 replace hr:=hr.less rowR_less hT5
 replace hd3:=hd3.less hT5
 iterate 3 refine s1_ ?_
 refine ca_ rfl (c2 _ _ hd3) ?_
 rintro _ S4 ⟨v4,rfl,hS4,hr4⟩
 replace hr:=hr.less rowR_less hS4
 replace hd3:=hd3.less hS4
 replace kb5:=hS4.own kb5
 obtain ⟨hs4,hlen4,⟨pr4,cr4,rfl,_⟩,_⟩:=id hr4
 rw [hlen4] at hr4 ⊢
 iterate 9 refine s1_ ?_
 refine su_ [(0,_),(1,_),(4,_),(22,_),(28,_),(34,_),(5,_),(6,_),(7,_),(9,_),(10,_)] ?_
 iterate 3 refine s1_ ?_
 refine ca_ rfl (losV_Make _ ks _ hr4 hrow) ?_
 rintro _ S5 hr5
 rw [hmk] at hr5
 obtain ⟨pa5,ca5,pt5,ct5,rfl,hS5,hlo5⟩:=hr5.slices
 replace hr:=hr.less rowR_less hS5
 replace hd3:=hd3.less hS5
 replace kb5:=hS5.own kb5
 iterate 3 refine s1_ ?_
 refine ARun.alloc (lit_lt rfl) ty_zero_37 ?_
 intro b11 f11
 have g11:=f11
 repeat ((with_reducible replace g11:=fresh_set g11);obtain ⟨g11,_⟩:=g11)
 have:=g11.ne kb5;have:=g11.ne' kb5
 refine nl_ ?_
 iterate 4 refine s1_ ?_
 refine su_ [(0,_),(1,_),(4,_),(22,_),(28,_),(34,_),(5,_),(6,_),(7,_),(9,_),(10,_),(11,_),(12,_)] ?_
 rw [treeOf_length ks] at *
 iterate 19 refine s1_ ?_
 refine su_ [(0,_),(1,_),(4,_),(22,_),(28,_),(34,_),(5,_),(6,_),(7,_),(9,_),(10,_),(11,_),(12,_),(70,_)] ?_
 refine cF_ ?_
 iterate 15 refine s1_ ?_
 refine su_ [(0,_),(1,_),(4,_),(22,_),(28,_),(34,_),(5,_),(6,_),(7,_),(9,_),(10,_),(11,_),(12,_),(70,_),(13,_),(72,_),(73,_)] ?_
 refine s1_ ?_
 refine AWP.loop (X:=TlX) (fun x=>[(0,.slice pr ks.length cr),(11,.pointer (some ⟨b11,0,none⟩)),(13,.slice x.lp x.last.length x.lc),(72,.int .i64 (ks.length:Int)),(73,.int .i64 (x.m:Int))]) (fun x=>x.M.set b11 ⟨37,[.slice x.ka ks.length x.kc,.slice x.ta ks.length x.tc],2⟩) (fun x=>x.m≤ks.length∧SoL ks x.cur x.told x.last x.at_ x.m∧S5.Less x.M∧Fresh x.M b11∧LoV x.M (.slice x.ka ks.length x.kc) (.slice x.ta ks.length x.tc) x.cur (treeOf x.cur)∧RowR x.M (.slice x.lp x.last.length x.lc) x.last) (fun x=>ks.length-x.m) (⟨0,List.replicate ks.length false,ks,[],-1,S5,none,0,pa5,ca5,pt5,ct5⟩) ⟨rfl,rfl,rfl,rfl,rfl,trivial⟩ (Mem.Less.refl _) (⟨Nat.zero_le _,SoL.start ks hrow,Mem.Less.refl _,g11,hlo5,Sl.nil _ _ _⟩) ?_
 rintro ⟨m,told,cur,last,at_,M,lp,lc,ka,kc,ta,tc⟩ ⟨hm,hI,hSM,f11M,hlo,hlast⟩
 (try dsimp only at *)
 have hcl:=hI.so.cl
 have htop:=losV_Top _ _ cur (treeOf cur) M hlo hI.so.rl
 by_cases hmk1:m<ks.length
 ·have he:=hI.win_ne (by omega) hne hmk1
  have hcs:=(topP_put cur (treeOf cur) []).resolve_left (fun h=>by have:=h.1;rw [chk_ok ⟨by omega,by omega,rfl⟩] at this;exact absurd this (by decide))
  obtain ⟨_,_,_,_,_,htp,hpp⟩:=hcs.resolve_left (fun h=>he h.2.2.2.2.1)
  have hstep:=hI.step (by omega) he
  obtain ⟨hw,htw,hkw,hlw,haw⟩:=hI.so.win_ (by omega) he
  rw [htp] at htop
  rw [if_neg (fun h=>h.1 rfl)] at hpp
  iterate 6 refine s1_ ?_
  refine cT_ ?_
  iterate 7 refine s1_ ?_
  refine ca_ rfl (htop.frame f11M) ?_
  rintro _ Sx ⟨Mt,⟨v43,rfl,hMt,hv43⟩,f3t,h1⟩
  rw [h1];clear h1 Sx
  obtain ⟨p43,c43,rfl,_⟩:=id hv43
  iterate 9 refine s1_ ?_
  refine su_ [(0,_),(11,_),(13,_),(72,_),(73,_),(74,_),(15,_),(16,_)] ?_
  iterate 3 refine s1_ ?_
  refine ca_ rfl ((losV_Put _ _ _ cur (treeOf cur) [] Mt (hlo.less hMt) (Sl.nil _ _ _) (Nat.zero_le _) hI.so.rl).frame f3t) ?_
  rintro _ Sx ⟨Mu,hr5,f3u,h1⟩
  rw [h1];clear h1 Sx
  rw [hpp] at hr5
  obtain ⟨p5,c5,q5,d5,rfl,hMu,hlo5'⟩:=hr5.of (n:=ks.length) (m:=ks.length) (by rw [List.length_set,hcl]) (by rw [treeOf_length,List.length_set,hcl])
  have hrk:=rowR_less _ _ _ _ hv43 hMu
  have hrl:=rowR_less _ _ _ _ hlast (hMt.trans hMu)
  iterate 3 refine s1_ ?_
  refine ARun.alloc (lit_lt rfl) ty_zero_37 ?_
  intro b17 f17
  have g17:=f17
  repeat ((with_reducible replace g17:=fresh_set g17);obtain ⟨g17,_⟩:=g17)
  refine nl_ ?_
  iterate 4 refine s1_ ?_
  refine su_ [(0,_),(11,_),(13,_),(72,_),(73,_),(74,_),(15,_),(16,_),(17,_),(18,_)] ?_
  have n17:=f17.1
  iterate 12 refine s1_ ?_
  refine ARun.callG 6 false 92 rfl (lit_lt rfl) rfl (lit_lt rfl) go_12 rfl (rnumV_Less _ _ _ _ _ (hrk.less less_) (hrl.less less_)) ?_
  rintro _ Sx ⟨rfl,h1⟩
  rw [h1,hlw];clear h1 Sx
  iterate 3 refine s1_ ?_
  refine su_ [(0,_),(11,_),(13,_),(72,_),(73,_),(74,_),(15,_),(16,_),(17,_),(18,_),(96,_)] ?_
  refine cF_ ?_
  iterate 8 refine s1_ ?_
  refine su_ [(0,_),(11,_),(13,_),(72,_),(73,_),(74,_),(15,_),(16,_),(17,_),(18,_),(96,_)] ?_
  iterate 6 refine s1_ ?_
  refine su_ [(0,_),(11,_),(13,_),(72,_),(73,_),(74,_),(15,_),(16,_),(17,_),(18,_),(96,_)] ?_
  iterate 5 refine s1_ ?_
  refine ⟨⟨m+1,told.set (win cur 1) true,cur.set (win cur 1) [],key cur (win cur 1),(win cur 1:Nat),Mu,p43,c43,p5,c5,q5,d5⟩,?_,?_,?_,?_⟩
  all_goals (try dsimp only)
  ·exact ⟨rfl,rfl,rfl,rfl,rfl,trivial⟩
  ·exact less_twice n17
  ·exact ⟨hmk1,hstep,(hSM.trans hMt).trans hMu,f3u,hlo5',hrk⟩
  ·omega
 ·have hdone:=hI.done (by omega) hne
  have hrM:=hr.less rowR_less (hSM.trans (Mem.less_set _ b11 ⟨37,[.slice ka ks.length kc,.slice ta ks.length tc],2⟩ f11M.1))
  have hlM:=hlast.less (Mem.less_set _ b11 ⟨37,[.slice ka ks.length kc,.slice ta ks.length tc],2⟩ f11M.1)
  iterate 6 refine s1_ ?_
  refine cF_ ?_
  iterate 14 refine s1_ ?_
  refine AWP.loop (X:=Nat) (fun x=>[(13,.slice lp last.length lc),(100,.slice pr ks.length cr),(101,.int .i64 (ks.length:Int)),(102,.int .i64 (x:Int))]) (fun x=>M.set b11 ⟨37,[.slice ka ks.length kc,.slice ta ks.length tc],2⟩) (fun x=>x≤ks.length) (fun x=>ks.length-x) (0) ⟨rfl,rfl,rfl,rfl,trivial⟩ (Mem.Less.refl _) (Nat.zero_le _) ?_
  rintro j hj0
  (try dsimp only at *)
  by_cases hj:j<ks.length
  ·obtain ⟨b0,off,g,rfl,hkk,hrj⟩:=slOf_at hrM j hj
   iterate 6 refine s1_ ?_
   refine cT_ ?_
   iterate 11 refine s1_ ?_
   refine su_ [(13,_),(100,_),(101,_),(102,_),(103,_),(20,_)] ?_
   iterate 4 refine s1_ ?_
   refine ca_ rfl (rnumV_Less _ _ _ _ _ hlM hrj) ?_
   rintro _ Sx ⟨rfl,h1⟩
   rw [h1,hdone j hj];clear h1 Sx
   iterate 2 refine s1_ ?_
   refine su_ [(13,_),(100,_),(101,_),(102,_),(103,_),(20,_),(108,_)] ?_
   refine cF_ ?_
   iterate 8 refine s1_ ?_
   refine ⟨j+1,?_,?_,?_,?_⟩
   all_goals (try dsimp only)
   ·exact ⟨rfl,rfl,rfl,rfl,trivial⟩
   ·exact Mem.Less.refl _
   ·exact hj
   ·omega
  ·iterate 6 refine s1_ ?_
   refine cF_ ?_
   iterate 11 refine s1_ ?_
   refine ⟨_,_,⟨_,_,rfl,rfl,rfl⟩,less_,?_⟩
   rfl
end Top
theorem walk_TopLeast (pa : Option Addr) (la ca : Nat) (l : List (List Nat)) (w : Int) (W : World) (w0 : SlOf (fun S v l => Sl 1 (fun x : Nat => [Value.int .u64 (x : Int)]) S v l) (roM W) (.slice pa la ca) l) (wb : ∀ x ∈ l, ∀ n ∈ x, n < 18446744073709551616) (zl : l.length ≤ 5864062014634) (zr : ∀ x ∈ l, x.length ≤ 17592186043904) (w1 : (Lit.int .i64 w).wf = true) :
  Calls Tryz.prog 3 #[.slice pa la ca,.int .i64 w] W fun e w'=>e = .returned (.bool true)∧Below W.heap.size W w' :=
 ACall.callsW (Top.law_TopLeast _ l w _ w0 zl)
end Go.Proofs.YthbadpcmdlfmdaaGreatDoor
namespace Go.Proofs.YthbadpcmdlfmdaaGreatDoor
open Go.RowKit
set_option maxRecDepth 100000
/-- A start for the witnesses: the door's run, and the pinned table. -/
noncomputable def laidW (os : Os) : World :=
  { World.doorLaid Tryz.prog 400 os with heap := (World.doorLaid Tryz.prog 400 os).heap.modify 1 fun
      | .cells _ t frozen => .cells (match (Rows.laid_unicode_utf8_first) with | .agg l => (l.map fun d => match d with | .lit (.int k n) => Value.int k n | _ => .int .u8 0).toArray | _ => #[]) t frozen
      | o => o }
theorem laidW_shaped (os : Os) (args : Array Value) : ((laidW os).forCall (fun _ _ => 0) ⟨#[], args, []⟩).Shaped Tryz.prog :=
 World.shaped_of_RefB (by kernel_rfl) (by kernel_rfl)
theorem laidW_2 (os : Os) (args : Array Value) : laidMet Tryz.prog [("unicode/utf8.acceptRanges", Rows.laid_unicode_utf8_acceptRanges), ("unicode/utf8.first", Rows.laid_unicode_utf8_first)] ((laidW os).forCall (fun _ _ => 0) ⟨#[], args, []⟩).memory :=
 laidMet_of_run' 8 (by kernel_rfl) (by kernel_rfl)
theorem laidW_met2 (os : Os) (args : Array Value) {l : List (String × DataW Unit)} (h : l = [("unicode/utf8.acceptRanges", Rows.laid_unicode_utf8_acceptRanges), ("unicode/utf8.first", Rows.laid_unicode_utf8_first)]) : laidMetH Tryz.prog l ((laidW os).forCall (fun _ _ => 0) ⟨#[], args, []⟩).memory := by
 subst h
 rw [MakeChecks.laidMetH_plain _ _ _ (by kernel_rfl)]
 exact laidW_2 os args
end Go.Proofs.YthbadpcmdlfmdaaGreatDoor
