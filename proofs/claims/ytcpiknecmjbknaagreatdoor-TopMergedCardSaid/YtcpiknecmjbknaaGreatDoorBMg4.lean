/-
  Texts that belong together: Rec2, Rec3, Str, Rec4, VNum5, VNum3, VNum6, Rec5, Rec6, Rec7, RecMath3, RecMath4, TlMath, Sto1, Pool1, Pool2, Pool3, Pool4, Pool5, Pool6, Pool7, Sto2, Sto3, Sto4, Sto5, Pool8, Pool9.
-/
import Derived.Test.YtcpiknecmjbknaaGreatDoorBMg3
set_option linter.unusedVariables false
set_option linter.unusedSimpArgs false
set_option linter.unusedSectionVars false
namespace Go.Proofs.YtcpiknecmjbknaaGreatDoor
section
open Go.RowKit
open Mv Disk Num
set_option maxRecDepth 4000
namespace Rec
theorem dev_shape {S:Mem} {p:Nat} {e:D} {oE oW:Option (Nat × Nat)} (hok:OkV S p e oE oW) (h:e.ext.length≤9223372036854775807∧e.waits.length≤9223372036854775807) :
  ∃ qe de qw dw,(devM S p e oE oW).own p=some ⟨100,[.int .i64 e.size,.slice qe e.ext.length de,.slice qw e.waits.length dw,.int .i64 e.fuse,.bool e.down],5⟩ ∧
   DkR (devM S p e oE oW) (.agg #[.int .i64 e.size,.slice qe e.ext.length de,.slice qw e.waits.length dw,.int .i64 e.fuse,.bool e.down]) e∧S.Less (devM S p e oE oW):=by
 have hdk:=(hok.dk.dk h.1 h.2).less (Mem.less_set _ p (devB e oE oW) hok.fr.1)
 have hl:=hok.dk.less.trans (Mem.less_set _ p (devB e oE oW) hok.fr.1)
 have hp:(devM S p e oE oW).own p=some (devB e oE oW):=Mem.own_set_same _ _ _
 unfold dkV at hdk
 unfold devB at hp hdk hl
 obtain ⟨qe,de,hqe⟩:=outV_eq hok.dk.e
 obtain ⟨qw,dw,hqw⟩:=outV_eq hok.dk.w
 rw [hqe,hqw] at hp hdk hl
 refine ⟨qe,de,qw,dw,hp,?_,?_⟩
 ·unfold devM;rw [hqe,hqw];exact hdk
 ·unfold devM;rw [hqe,hqw];exact hl
abbrev bx (d:D) (pe:Option Addr) (ce:Nat) (pw:Option Addr) (cw:Nat):Blk:=⟨28,[.int .i64 d.size,.slice pe d.ext.length ce,.slice pw d.waits.length cw,.int .i64 d.fuse,.bool d.down],5⟩
abbrev zb:Blk:=⟨28,[.int .i64 0,.slice none 0 0,.slice none 0 0,.int .i64 0,.bool false],5⟩
theorem open_lens (d:D):(openD d).1.ext.length≤9223372036854775807∧(openD d).1.waits.length≤9223372036854775807:=by
 rcases openD_or d with ⟨ho,hR⟩ | ⟨ho,hR,hdn⟩ | ⟨ho,hR,hdn⟩ <;> rw [ho]
 ·exact ⟨by decide,by decide⟩
 ·exact right_lens hR
 ·exact right_lens hR
theorem rec_refused (v:Value) (d:D) (S:Mem) (hd:DkR S v d) (hz:Dz d):ACall Tryz.prog 15 #[v] S (DkRes (refD d) S):=by
 have hopen:=disk_Open v d S hd hz
 have hlens:=open_lens d
 obtain ⟨pe,ce,pw,cw,rfl,hE,hW⟩:=id hd
 unfold refD
 refine k_E1 (rs:=[.cell 2 28,.tmp 3]) 15 Tryz.func15 rfl rfl rfl ?_
 iterate 2 refine s1_ ?_
 refine k_b5 rfl ?_
 intro b1 f1
 have g1:=f1
 repeat ((with_reducible replace g1:=fresh_set g1);obtain ⟨g1,_⟩:=g1)
 refine nl_ ?_
 refine ARun.alloc (lit_lt rfl) ty_zero_28 ?_
 intro b2 f2
 have g2:=f2
 repeat ((with_reducible replace g2:=fresh_set g2);obtain ⟨g2,_⟩:=g2)
 refine nl_ ?_
 iterate 6 refine s1_ ?_
 refine ca_ rfl ((hopen.frame f1).frame f2) ?_
 rintro _ S1 ⟨Sa,⟨M,⟨p,oE,oW,hok,rfl,hM⟩,fa,hSa⟩,fb,h1⟩
 rw [h1,hSa];rw [hSa] at fb;clear h1 S1 hSa Sa
 obtain ⟨qe,de,qw,dw,hp,hdk,hl⟩:=dev_shape hok hlens
 rw [← hM] at hp hdk hl
 obtain ⟨gb,_⟩:=fresh_set fb
 have:=fa.ne hp;have:=fa.ne' hp;have:=gb.ne hp;have:=gb.ne' hp
 iterate 18 refine s1_ ?_
 refine ⟨_,M,⟨_,_,_,rfl,.inr ⟨ty_agg_28,[_,_,_,_,_],ty_size_28,rds_,rfl⟩,⟨_,_,rfl,rfl,rfl⟩,rfl⟩,less_,?_⟩
 exact ⟨_,rfl,hl,hdk⟩
theorem rest_sec (x:ByteArray) (j:Nat) (h:64*j+64≤x.size):(x.extract (64*j) x.size).extract 0 64=secAt x j:=by
 unfold secAt
 rw [ByteArray.extract_extract]
 congr 1;omega
theorem rest_next (x:ByteArray) (j:Nat) (h:64*j+64≤x.size):(x.extract (64*j) x.size).extract 64 (x.extract (64*j) x.size).size=x.extract (64*(j+1)) x.size:=by
 rw [ByteArray.extract_extract,ByteArray.size_extract]
 congr 1 <;> omega
theorem putTo_lens {d:D} (hR:Right d) (hdn:d.down=false) (hf:d.fuse≤9223372036854775807) (s all:ByteArray) (k:Nat):(putTo d s all k).1.ext.length≤9223372036854775807∧(putTo d s all k).1.waits.length≤9223372036854775807 :=
 right_lens (putTo_keep hR hdn hf s all k).1
set_option maxHeartbeats 4000000 in
theorem rec_put (v:Value) (d:D) (s:ByteArray) (k c:Nat) (body:ByteArray) (S:Mem) (hd:DkR S v d) (hz:Dz d) (hk:k≤8) (hc:c≤65536) (hb:body.size=eachN k*c) :
  ACall Tryz.prog 18 #[v,.string s,.int .i64 (k:Int),.int .i64 (c:Int),.string body] S (DkRes (opened d (putP d s k c body)) S):=by
 have hopen:=disk_Open v d S hd hz
 have hlens:=open_lens d
 have hneed:needP (k:Int) c=(((needN k c:Nat):Int),0):=by unfold needP;rw [if_neg (by omega),Int.toNat_natCast]
 have hN:=rec_Need (k:Int) c
 have hHd:=fun S=>rec_HeadOf k c S hk (by omega)
 rw [hneed] at hN
 have hn1:=needN_pos k c
 have hn2:=needN_le hk hc
 have hall:(padS body).size=64*(needN k c-1):=by rw [padS_size,hb];unfold needN;omega
 have hbz:body.size≤140737488355328:=by have:=(mul_le_each hk hc).2;rw [hb];omega
 have hpad:=fun S=>rec_padded body S hbz
 unfold putP
 generalize needN k c=n at *
 generalize padS body=all at *
 generalize headS k c=hs at *
 obtain ⟨pe,ce,pw,cw,rfl,hE,hW⟩:=id hd
 unfold opened
 rcases openD_or d with ⟨ho,hR⟩ | ⟨ho,hR,hdn⟩ | ⟨ho,hR,hdn⟩ <;> rw [ho] at hopen ⊢ hlens
 ·rw [if_neg (show ¬ (2:Int)=0 from by decide)]
  refine k_E5 (rs:=[.cell 10 28,.tmp 11]) 81 Tryz.func18 rfl rfl rfl ?_
  iterate 2 refine s1_ ?_
  refine k_b5 rfl ?_
  intro b5 f5
  have g5:=f5
  repeat ((with_reducible replace g5:=fresh_set g5);obtain ⟨g5,_⟩:=g5)
  refine nl_ ?_
  refine ARun.alloc (lit_lt rfl) ty_zero_28 ?_
  intro b10 f10
  have g10:=f10
  repeat ((with_reducible replace g10:=fresh_set g10);obtain ⟨g10,_⟩:=g10)
  refine nl_ ?_
  iterate 6 refine s1_ ?_
  refine ca_ rfl ((hopen.frame f5).frame f10) ?_
  rintro _ S1 ⟨Sa,⟨M,⟨p,oE,oW,hok,rfl,hM⟩,fa,hSa⟩,fb,h1⟩
  rw [h1,hSa];rw [hSa] at fb;clear h1 S1 hSa Sa
  iterate 14 refine s1_ ?_
  refine cT_ ?_
  obtain ⟨qe,de,qw,dw,hp,hdk,hl⟩:=dev_shape hok hlens
  rw [← hM] at hp hdk hl
  obtain ⟨gb,_⟩:=fresh_set fb
  have:=fa.ne hp;have:=fa.ne' hp;have:=gb.ne hp;have:=gb.ne' hp
  iterate 13 refine s1_ ?_
  refine ⟨_,M,⟨_,_,_,rfl,.inr ⟨ty_agg_28,[_,_,_,_,_],ty_size_28,rds_,rfl⟩,⟨_,_,rfl,rfl,rfl⟩,rfl⟩,less_,?_⟩
  exact ⟨_,rfl,hl,hdk⟩
 ·rw [if_neg (show ¬ (10:Int)=0 from by decide)]
  refine k_E5 (rs:=[.cell 10 28,.tmp 11]) 81 Tryz.func18 rfl rfl rfl ?_
  iterate 2 refine s1_ ?_
  refine k_b5 rfl ?_
  intro b5 f5
  have g5:=f5
  repeat ((with_reducible replace g5:=fresh_set g5);obtain ⟨g5,_⟩:=g5)
  refine nl_ ?_
  refine ARun.alloc (lit_lt rfl) ty_zero_28 ?_
  intro b10 f10
  have g10:=f10
  repeat ((with_reducible replace g10:=fresh_set g10);obtain ⟨g10,_⟩:=g10)
  refine nl_ ?_
  iterate 6 refine s1_ ?_
  refine ca_ rfl ((hopen.frame f5).frame f10) ?_
  rintro _ S1 ⟨Sa,⟨M,⟨p,oE,oW,hok,rfl,hM⟩,fa,hSa⟩,fb,h1⟩
  rw [h1,hSa];rw [hSa] at fb;clear h1 S1 hSa Sa
  iterate 14 refine s1_ ?_
  refine k_v11 0 1 2 3 4 5 10 11 12 13 23 ?_
  refine cT_ ?_
  obtain ⟨qe,de,qw,dw,hp,hdk,hl⟩:=dev_shape hok hlens
  rw [← hM] at hp hdk hl
  obtain ⟨gb,_⟩:=fresh_set fb
  have:=fa.ne hp;have:=fa.ne' hp;have:=gb.ne hp;have:=gb.ne' hp
  iterate 13 refine s1_ ?_
  refine ⟨_,M,⟨_,_,_,rfl,.inr ⟨ty_agg_28,[_,_,_,_,_],ty_size_28,rds_,rfl⟩,⟨_,_,rfl,rfl,rfl⟩,rfl⟩,less_,?_⟩
  exact ⟨_,rfl,hl,hdk⟩
 rw [if_pos rfl]
 by_cases hnew:(newD d s (n:Int)).2=0
 ·rw [if_neg (by omega)]
  obtain ⟨hR1,hd1,hf1,_⟩:=(new_law (s:=s) (n:=(n:Int)) hR hdn).2 hnew
  have hf1:(newD d s (n:Int)).1.fuse≤9223372036854775807:=by rw [hf1];exact hz.f1
  have hkeep:=putTo_keep hR1 hd1 hf1 s all
  have hplens:=putTo_lens hR1 hd1 hf1 s all
  have hst:=fun j=>putTo_stuck (d:=(newD d s (n:Int)).1) (s:=s) (all:=all) (k:=j)
  have hp0:putTo (newD d s (n:Int)).1 s all 0=((newD d s (n:Int)).1,0):=rfl
  have hps:∀ j,(putTo (newD d s (n:Int)).1 s all j).2=0→putTo (newD d s (n:Int)).1 s all (j+1)=writeD (putTo (newD d s (n:Int)).1 s all j).1 s ((j+1:Nat):Int) (secAt all j):=fun j h=>by rw [putTo,if_pos h]
  have hN9:=newD_lens hR s (n:Int)
  have hnw:=fun (p:Nat) (oE oW) (hok:OkV S p d oE oW)=>dev_New p d s (n:Int) S oE oW hok hR
  rw [show newD d s (n:Int)=((newD d s (n:Int)).1,0) from Prod.ext rfl hnew] at hnw
  generalize (newD d s (n:Int)).1=e1 at *
  generalize hP:putTo e1 s all=P at *
  refine k_E5 (rs:=[.cell 10 28,.tmp 11]) 81 Tryz.func18 rfl rfl rfl ?_
  iterate 2 refine s1_ ?_
  refine k_b5 rfl ?_
  intro b5 f5
  have g5:=f5
  repeat ((with_reducible replace g5:=fresh_set g5);obtain ⟨g5,_⟩:=g5)
  refine nl_ ?_
  refine ARun.alloc (lit_lt rfl) ty_zero_28 ?_
  intro b10 f10
  have g10:=f10
  repeat ((with_reducible replace g10:=fresh_set g10);obtain ⟨g10,_⟩:=g10)
  refine nl_ ?_
  iterate 6 refine s1_ ?_
  refine ca_ rfl ((hopen.frame f5).frame f10) ?_
  rintro _ S1 ⟨Sa,⟨M,⟨p,oE,oW,hok,rfl,hM⟩,fa,hSa⟩,fb,h1⟩
  rw [h1,hSa];rw [hSa] at fb;clear h1 S1 hSa Sa
  iterate 14 refine s1_ ?_
  refine cF_ ?_
  iterate 7 refine s1_ ?_
  refine ca_ rfl (hN _) ?_
  rintro _ S1 ⟨rfl,h1⟩
  rw [h1];clear h1 S1
  iterate 14 refine s1_ ?_
  refine k_v13 0 1 2 3 4 5 10 11 12 13 23 14 37 ?_
  refine cT_ ?_
  rw [hM] at fa fb ⊢
  iterate 4 refine s1_ ?_
  refine ca_ rfl (((hnw p oE oW hok).frame fa).frame fb) ?_
  rintro _ S1 ⟨Sa,⟨M3,⟨oE3,oW3,hok3,rfl,hM3⟩,fa3,hSa⟩,fb3,h1⟩
  rw [h1,hSa];rw [hSa] at fb3;clear h1 S1 hSa Sa;rw [hM3] at fa3 fb3 ⊢
  iterate 7 refine s1_ ?_
  refine ca_ rfl (hpad _) ?_
  rintro _ S1 ⟨rfl,h1⟩
  rw [h1];clear h1 S1
  iterate 5 refine s1_ ?_
  refine AWP.loop (X:=Nat × Option (Nat × Nat) × Option (Nat × Nat)) (fun x=>[(1,.string s),(2,.int .i64 (k:Int)),(3,.int .i64 (c:Int)),(10,.pointer (some ⟨b10,0,none⟩)),(12,.pointer (some ⟨p,0,none⟩)),(13,.int .i64 (P x.1).2),(14,.int .i64 ((n:Nat):Int)),(15,.int .i64 ((x.1+1:Nat):Int)),(16,.string (all.extract (64*x.1) all.size))]) (fun x=>((devM S p (P x.1).1 x.2.1 x.2.2).set b5 (bx d pe ce pw cw)).set b10 zb) (fun x=>x.1+1≤n∧OkV S p (P x.1).1 x.2.1 x.2.2∧Fresh (devM S p (P x.1).1 x.2.1 x.2.2) b5∧Fresh ((devM S p (P x.1).1 x.2.1 x.2.2).set b5 (bx d pe ce pw cw)) b10) (fun x=>n-x.1) ((0,oE3,oW3)) ⟨rfl,rfl,rfl,rfl,rfl,by rw [hp0];rfl,rfl,rfl,by rw [show all.extract (64*0) all.size=all from by rw [Nat.mul_zero];simp];rfl,trivial⟩ (by rw [hp0];exact Mem.Less.refl _) (⟨by show 0+1≤n;omega,by rw [hp0];exact hok3,by rw [hp0];exact fa3,by rw [hp0];exact fb3⟩) ?_
  rintro ⟨j,oE,oW⟩ ⟨hj,hok,fa,fb⟩
  (try dsimp only at *)
  clear fa3 fb3 hok3 hM3 M3
  by_cases hi:j+1<n
  ·by_cases hc0:(P j).2=0
   ·rw [hc0]
    iterate 12 refine s1_ ?_
    refine cT_ ?_
    have hsz:(all.extract (64*j) all.size).size=all.size-64*j:=by rw [ByteArray.size_extract];omega
    have hw1:=dev_Write p (P j).1 s ((j+1:Nat):Int) (secAt all j) S oE oW hok (hkeep j).1 (hkeep j).2.1
    rw [← hps j hc0,← rest_sec all j (by omega)] at hw1
    iterate 10 refine s1_ ?_
    refine ca_ rfl ((hw1.frame fa).frame fb) ?_
    rintro _ S1 ⟨Sa,⟨M3,⟨oE3,oW3,hok3,rfl,hM3⟩,fa3,hSa⟩,fb3,h1⟩
    rw [h1,hSa];rw [hSa] at fb3;clear h1 S1 hSa Sa;rw [hM3] at fa3 fb3 ⊢
    iterate 4 refine s1_ ?_
    refine AWP.draw [(0,true),(1,true),(2,true),(3,true),(4,true),(5,true)] [] mixed (by kernel_rfl) ?_
    iterate 8 refine s1_ ?_
    refine ⟨(j+1,oE3,oW3),?_,?_,?_,?_⟩
    all_goals (try dsimp only)
    ·exact ⟨rfl,rfl,rfl,rfl,rfl,rfl,rfl,some_int (by omega),by rw [← rest_next all j (by omega)];rfl,trivial⟩
    ·exact Mem.Less.refl _
    ·exact ⟨by omega,hok3,fa3,fb3⟩
    ·omega
   ·iterate 12 refine s1_ ?_
    refine k_v10 1 2 3 10 12 13 14 15 16 50 ?_
    refine cF_ ?_
    iterate 12 refine s1_ ?_
    refine cF_ ?_
    iterate 9 refine s1_ ?_
    refine cF_ ?_
    obtain ⟨qe,de,qw,dw,hp,hdk,hl⟩:=dev_shape hok (hplens j)
    obtain ⟨gb,_⟩:=fresh_set fb
    have:=fa.ne hp;have:=fa.ne' hp;have:=gb.ne hp;have:=gb.ne' hp
    have hfin:=hst j hc0 (n-1) (by omega)
    rw [hfin,if_pos hc0]
    generalize devM S p (P j).1 oE oW=M at *
    iterate 14 refine s1_ ?_
    refine ⟨_,M,⟨_,_,_,rfl,.inr ⟨ty_agg_28,[_,_,_,_,_],ty_size_28,rds_,rfl⟩,⟨_,_,rfl,rfl,rfl⟩,rfl⟩,less_,?_⟩
    exact ⟨_,rfl,hl,hdk⟩
  ·obtain rfl:j=n-1:=by omega
   by_cases hc0:(P (n-1)).2=0
   ·rw [hc0]
    iterate 12 refine s1_ ?_
    refine cF_ ?_
    iterate 12 refine s1_ ?_
    refine k_v11 1 2 3 10 12 13 14 15 16 50 62 ?_
    refine cT_ ?_
    have hsy:=dev_Sync p (P (n-1)).1 S oE oW hok (hkeep (n-1)).1
    iterate 3 refine s1_ ?_
    refine ca_ rfl ((hsy.frame fa).frame fb) ?_
    rintro _ S1 ⟨Sa,⟨M3,⟨oE3,oW3,hok3,rfl,hM3⟩,fa3,hSa⟩,fb3,h1⟩
    rw [h1,hSa];rw [hSa] at fb3;clear h1 S1 hSa Sa;rw [hM3] at fa3 fb3 ⊢
    have hR3:=right_settle (hkeep (n-1)).1 (fun _=>true)
    have hw1:=dev_Write p (settleD (P (n-1)).1 fun _=>true) s 0 hs S oE3 oW3 hok3 hR3 (hkeep (n-1)).2.1
    have hd3:(settleD (P (n-1)).1 fun _=>true).down=false:=(hkeep (n-1)).2.2 hc0
    have hf3:(settleD (P (n-1)).1 fun _=>true).fuse≤9223372036854775807:=(hkeep (n-1)).2.1
    have hlw:=writeD_lens hR3 s 0 hs
    rw [if_neg (by omega)]
    unfold sealD
    generalize settleD (P (n-1)).1 (fun _=>true)=e3 at *
    iterate 8 refine s1_ ?_
    refine ca_ rfl (hHd _) ?_
    rintro _ S1 ⟨rfl,h1⟩
    rw [h1];clear h1 S1
    refine ca_ rfl ((hw1.frame fa3).frame fb3) ?_
    rintro _ S1 ⟨Sa,⟨M4,⟨oE4,oW4,hok4,rfl,hM4⟩,fa4,hSa⟩,fb4,h1⟩
    rw [h1,hSa];rw [hSa] at fb4;clear h1 S1 hSa Sa;rw [hM4] at fa4 fb4 ⊢
    iterate 3 refine s1_ ?_
    by_cases hc1:(writeD e3 s 0 hs).2=0
    ·rw [if_pos hc1]
     iterate 7 refine s1_ ?_
     refine cT_ ?_
     have hRw:=(write_keep hR3 hd3 hf3 s hs 0).1
     have hsy2:=dev_Sync p (writeD e3 s 0 hs).1 S oE4 oW4 hok4 hRw
     iterate 2 refine s1_ ?_
     refine ca_ rfl ((hsy2.frame fa4).frame fb4) ?_
     rintro _ S1 ⟨Sa,⟨M5,⟨oE5,oW5,hok5,rfl,hM5⟩,fa5,hSa⟩,fb5,h1⟩
     rw [h1,hSa];rw [hSa] at fb5;clear h1 S1 hSa Sa;rw [hM5] at fa5 fb5 ⊢
     obtain ⟨qe,de,qw,dw,hp,hdk,hl⟩:=dev_shape hok5 (settle_lens hRw _)
     obtain ⟨gb,_⟩:=fresh_set fb5
     have:=fa5.ne hp;have:=fa5.ne' hp;have:=gb.ne hp;have:=gb.ne' hp
     rw [hc1]
     generalize devM S p (settleD (writeD e3 s 0 hs).1 fun _=>true) oE5 oW5=M at *
     iterate 13 refine s1_ ?_
     refine k_v13 1 2 3 10 12 13 14 15 16 50 62 73 11 ?_
     refine s1_ ?_
     refine ⟨_,M,⟨_,_,_,rfl,.inr ⟨ty_agg_28,[_,_,_,_,_],ty_size_28,rds_,rfl⟩,⟨_,_,rfl,rfl,rfl⟩,rfl⟩,less_,?_⟩
     exact ⟨_,rfl,hl,hdk⟩
    ·rw [if_neg hc1]
     iterate 7 refine s1_ ?_
     refine cF_ ?_
     obtain ⟨qe,de,qw,dw,hp,hdk,hl⟩:=dev_shape hok4 hlw
     obtain ⟨gb,_⟩:=fresh_set fb4
     have:=fa4.ne hp;have:=fa4.ne' hp;have:=gb.ne hp;have:=gb.ne' hp
     generalize devM S p (writeD e3 s 0 hs).1 oE4 oW4=M at *
     iterate 14 refine s1_ ?_
     refine ⟨_,M,⟨_,_,_,rfl,.inr ⟨ty_agg_28,[_,_,_,_,_],ty_size_28,rds_,rfl⟩,⟨_,_,rfl,rfl,rfl⟩,rfl⟩,less_,?_⟩
     exact ⟨_,rfl,hl,hdk⟩
   ·iterate 12 refine s1_ ?_
    refine cF_ ?_
    iterate 12 refine s1_ ?_
    refine cF_ ?_
    iterate 9 refine s1_ ?_
    refine k_v12 1 2 3 10 12 13 14 15 16 50 62 73 ?_
    refine cF_ ?_
    obtain ⟨qe,de,qw,dw,hp,hdk,hl⟩:=dev_shape hok (hplens (n-1))
    obtain ⟨gb,_⟩:=fresh_set fb
    have:=fa.ne hp;have:=fa.ne' hp;have:=gb.ne hp;have:=gb.ne' hp
    rw [if_pos hc0]
    generalize devM S p (P (n-1)).1 oE oW=M at *
    iterate 14 refine s1_ ?_
    refine ⟨_,M,⟨_,_,_,rfl,.inr ⟨ty_agg_28,[_,_,_,_,_],ty_size_28,rds_,rfl⟩,⟨_,_,rfl,rfl,rfl⟩,rfl⟩,less_,?_⟩
    exact ⟨_,rfl,hl,hdk⟩
 ·rw [if_pos hnew]
  have hN9:=newD_lens hR s (n:Int)
  have hnw:=fun (p:Nat) (oE oW) (hok:OkV S p d oE oW)=>dev_New p d s (n:Int) S oE oW hok hR
  generalize newD d s (n:Int)=q1 at *
  refine k_E5 (rs:=[.cell 10 28,.tmp 11]) 81 Tryz.func18 rfl rfl rfl ?_
  iterate 2 refine s1_ ?_
  refine k_b5 rfl ?_
  intro b5 f5
  have g5:=f5
  repeat ((with_reducible replace g5:=fresh_set g5);obtain ⟨g5,_⟩:=g5)
  refine nl_ ?_
  refine ARun.alloc (lit_lt rfl) ty_zero_28 ?_
  intro b10 f10
  have g10:=f10
  repeat ((with_reducible replace g10:=fresh_set g10);obtain ⟨g10,_⟩:=g10)
  refine nl_ ?_
  iterate 6 refine s1_ ?_
  refine ca_ rfl ((hopen.frame f5).frame f10) ?_
  rintro _ S1 ⟨Sa,⟨M,⟨p,oE,oW,hok,rfl,hM⟩,fa,hSa⟩,fb,h1⟩
  rw [h1,hSa];rw [hSa] at fb;clear h1 S1 hSa Sa
  iterate 14 refine s1_ ?_
  refine cF_ ?_
  iterate 7 refine s1_ ?_
  refine ca_ rfl (hN _) ?_
  rintro _ S1 ⟨rfl,h1⟩
  rw [h1];clear h1 S1
  iterate 14 refine s1_ ?_
  refine k_v13 0 1 2 3 4 5 10 11 12 13 23 14 37 ?_
  refine cT_ ?_
  rw [hM] at fa fb ⊢
  iterate 4 refine s1_ ?_
  refine ca_ rfl (((hnw p oE oW hok).frame fa).frame fb) ?_
  rintro _ S1 ⟨Sa,⟨M3,⟨oE3,oW3,hok3,rfl,hM3⟩,fa3,hSa⟩,fb3,h1⟩
  rw [h1,hSa];rw [hSa] at fb3;clear h1 S1 hSa Sa;rw [hM3] at fa3 fb3 ⊢
  iterate 7 refine s1_ ?_
  refine ca_ rfl (hpad _) ?_
  rintro _ S1 ⟨rfl,h1⟩
  rw [h1];clear h1 S1
  obtain ⟨qe,de,qw,dw,hp,hdk,hl⟩:=dev_shape hok3 hN9
  obtain ⟨gb,_⟩:=fresh_set fb3
  have:=fa3.ne hp;have:=fa3.ne' hp;have:=gb.ne hp;have:=gb.ne' hp
  generalize devM S p q1.1 oE3 oW3=M3 at *
  iterate 5 refine s1_ ?_
  refine AWP.loop (X:=Unit) (fun x=>[(10,.pointer (some ⟨b10,0,none⟩)),(12,.pointer (some ⟨p,0,none⟩)),(13,.int .i64 q1.2),(14,.int .i64 ((n:Nat):Int)),(15,.int .i64 1)]) (fun x=>(M3.set b5 (bx d pe ce pw cw)).set b10 zb) (fun x=>True) (fun x=>0) (()) ⟨rfl,rfl,rfl,rfl,rfl,trivial⟩ (Mem.Less.refl _) (trivial) ?_
  rintro _ _
  (try dsimp only at *)
  by_cases hi:1<n
  ·iterate 12 refine s1_ ?_
   refine cF_ ?_
   iterate 12 refine s1_ ?_
   refine cF_ ?_
   iterate 9 refine s1_ ?_
   refine k_v8 10 12 13 14 15 50 62 73 ?_
   refine cF_ ?_
   iterate 14 refine s1_ ?_
   refine ⟨_,M3,⟨_,_,_,rfl,.inr ⟨ty_agg_28,[_,_,_,_,_],ty_size_28,rds_,rfl⟩,⟨_,_,rfl,rfl,rfl⟩,rfl⟩,less_,?_⟩
   exact ⟨_,rfl,hl,hdk⟩
  ·iterate 12 refine s1_ ?_
   refine cF_ ?_
   iterate 12 refine s1_ ?_
   refine cF_ ?_
   iterate 9 refine s1_ ?_
   refine cF_ ?_
   iterate 13 refine s1_ ?_
   refine k_v9 10 12 13 14 15 50 62 73 11 ?_
   refine s1_ ?_
   refine ⟨_,M3,⟨_,_,_,rfl,.inr ⟨ty_agg_28,[_,_,_,_,_],ty_size_28,rds_,rfl⟩,⟨_,_,rfl,rfl,rfl⟩,rfl⟩,less_,?_⟩
   exact ⟨_,rfl,hl,hdk⟩
end Rec
end
section
open Go.RowKit
open Mv Disk Num
set_option maxRecDepth 4000
namespace Rec
theorem recB_len (x:List Nat):(recB x).length=5*x.length:=by
 unfold recB
 induction x with
 | nil=>rfl
 | cons a x ih=>rw [List.flatMap_cons,List.length_append,ih];simp [five];omega
theorem recs_len {w:Nat}:∀ l:List (List Nat),l.all (rowOK w)=true→(l.flatMap recB).length=5*w*l.length
 | [],_=>by simp
 | x :: l,h=>by
  rw [List.all_cons,Bool.and_eq_true] at h
  have h1:=h.1
  unfold rowOK at h1
  rw [Bool.and_eq_true,decide_eq_true_eq] at h1
  rw [List.flatMap_cons,List.length_append,recB_len,recs_len l h.2,h1.2,List.length_cons,Nat.mul_succ];omega
theorem all_take {α : Type} {p : α→Bool} {l:List α} {i:Nat} (hi:i<l.length) (h:(l.take i).all p=true) (hx:p l[i]=true):(l.take (i+1)).all p=true:=by
 rw [List.take_succ_eq_append_getElem hi,List.all_append,h]
 simp [hx]
set_option maxHeartbeats 4000000 in
theorem rec_Write (v:Value) (d:D) (s:ByteArray) (w:Int) (l:List (List Nat)) (vl:Value) (S:Mem) (hd:DkR S v d) (hz:Dz d) (hl:SlOf RowR S vl l) (hb:∀ x ∈ l,∀ n ∈ x,n<18446744073709551616) :
  ACall Tryz.prog 7 #[v,.string s,.int .i64 w,vl] S (DkRes (writeP d s w l) S):=by
 have href:=rec_refused v d S hd hz
 obtain ⟨hs,hlen,⟨pa,ca,rfl,ha1,ha2,ha3⟩,hae⟩:=hl
 unfold writeP
 by_cases hw1:w<1
 ·rw [if_pos (.inl hw1)]
  obtain ⟨pe,ce,pw,cw,rfl,hE,hW⟩:=id hd
  refine k_E4 (rs:=[.cell 8 28,.tmp 9]) 65 Tryz.func7 rfl rfl rfl ?_
  iterate 2 refine s1_ ?_
  refine k_b5 rfl ?_
  intro b4 f4
  have g4:=f4
  repeat ((with_reducible replace g4:=fresh_set g4);obtain ⟨g4,_⟩:=g4)
  refine nl_ ?_
  refine ARun.alloc (lit_lt rfl) ty_zero_28 ?_
  intro b8 f8
  have g8:=f8
  repeat ((with_reducible replace g8:=fresh_set g8);obtain ⟨g8,_⟩:=g8)
  refine nl_ ?_
  iterate 19 refine s1_ ?_
  refine cT_ ?_
  iterate 3 refine s1_ ?_
  refine ca_ rfl ((href.frame f4).frame f8) ?_
  rintro _ S1 ⟨Sa,⟨M2,⟨v,rfl,hl2,hdk⟩,fc,hSa⟩,fd,h1⟩
  rw [h1,hSa];rw [hSa] at fd;clear h1 S1 hSa Sa
  obtain ⟨qe,de,qw,dw,rfl,_⟩:=id hdk
  obtain ⟨ge,_⟩:=fresh_set fd
  iterate 8 refine s1_ ?_
  refine ⟨_,M2,⟨_,_,_,rfl,.inr ⟨ty_agg_28,[_,_,_,_,_],ty_size_28,rds_,rfl⟩,⟨_,_,rfl,rfl,rfl⟩,rfl⟩,less_,?_⟩
  exact ⟨_,rfl,hl2,hdk⟩
 by_cases hw2:8<w
 ·rw [if_pos (.inr (.inl hw2))]
  obtain ⟨pe,ce,pw,cw,rfl,hE,hW⟩:=id hd
  refine k_E4 (rs:=[.cell 8 28,.tmp 9]) 65 Tryz.func7 rfl rfl rfl ?_
  iterate 2 refine s1_ ?_
  refine k_b5 rfl ?_
  intro b4 f4
  have g4:=f4
  repeat ((with_reducible replace g4:=fresh_set g4);obtain ⟨g4,_⟩:=g4)
  refine nl_ ?_
  refine ARun.alloc (lit_lt rfl) ty_zero_28 ?_
  intro b8 f8
  have g8:=f8
  repeat ((with_reducible replace g8:=fresh_set g8);obtain ⟨g8,_⟩:=g8)
  refine nl_ ?_
  iterate 19 refine s1_ ?_
  refine cT_ ?_
  iterate 3 refine s1_ ?_
  refine ca_ rfl ((href.frame f4).frame f8) ?_
  rintro _ S1 ⟨Sa,⟨M2,⟨v,rfl,hl2,hdk⟩,fc,hSa⟩,fd,h1⟩
  rw [h1,hSa];rw [hSa] at fd;clear h1 S1 hSa Sa
  obtain ⟨qe,de,qw,dw,rfl,_⟩:=id hdk
  obtain ⟨ge,_⟩:=fresh_set fd
  iterate 8 refine s1_ ?_
  refine ⟨_,M2,⟨_,_,_,rfl,.inr ⟨ty_agg_28,[_,_,_,_,_],ty_size_28,rds_,rfl⟩,⟨_,_,rfl,rfl,rfl⟩,rfl⟩,less_,?_⟩
  exact ⟨_,rfl,hl2,hdk⟩
 by_cases hw3:65536<l.length
 ·rw [if_pos (.inr (.inr hw3))]
  obtain ⟨pe,ce,pw,cw,rfl,hE,hW⟩:=id hd
  refine k_E4 (rs:=[.cell 8 28,.tmp 9]) 65 Tryz.func7 rfl rfl rfl ?_
  iterate 2 refine s1_ ?_
  refine k_b5 rfl ?_
  intro b4 f4
  have g4:=f4
  repeat ((with_reducible replace g4:=fresh_set g4);obtain ⟨g4,_⟩:=g4)
  refine nl_ ?_
  refine ARun.alloc (lit_lt rfl) ty_zero_28 ?_
  intro b8 f8
  have g8:=f8
  repeat ((with_reducible replace g8:=fresh_set g8);obtain ⟨g8,_⟩:=g8)
  refine nl_ ?_
  iterate 19 refine s1_ ?_
  refine k_v8 0 1 2 3 4 8 9 25 ?_
  refine cT_ ?_
  iterate 3 refine s1_ ?_
  refine ca_ rfl ((href.frame f4).frame f8) ?_
  rintro _ S1 ⟨Sa,⟨M2,⟨v,rfl,hl2,hdk⟩,fc,hSa⟩,fd,h1⟩
  rw [h1,hSa];rw [hSa] at fd;clear h1 S1 hSa Sa
  obtain ⟨qe,de,qw,dw,rfl,_⟩:=id hdk
  obtain ⟨ge,_⟩:=fresh_set fd
  iterate 8 refine s1_ ?_
  refine ⟨_,M2,⟨_,_,_,rfl,.inr ⟨ty_agg_28,[_,_,_,_,_],ty_size_28,rds_,rfl⟩,⟨_,_,rfl,rfl,rfl⟩,rfl⟩,less_,?_⟩
  exact ⟨_,rfl,hl2,hdk⟩
 rw [if_neg (by omega)]
 obtain ⟨k,rfl⟩:=Int.eq_ofNat_of_zero_le (by omega:0≤w)
 rw [Int.toNat_natCast]
 have hput:=fun (h:l.all (rowOK k)=true)=>rec_put v d s k l.length (bs (l.flatMap recB)) S hd hz (by omega) (by omega) (by rw [size_bs,recs_len l h];unfold eachN;rw [if_neg (by omega)])
 have htk:∀ i,i≤l.length→(l.take i).all (rowOK k)=true→((l.take i).flatMap recB).length≤5*k*65536:=fun i hi h=>by
  rw [recs_len _ h,List.length_take]
  exact Nat.mul_le_mul_left _ (by omega)
 have hk40:5*k*65536≤2621440:=by omega
 obtain ⟨pe,ce,pw,cw,rfl,hE,hW⟩:=id hd
 refine k_E4 (rs:=[.cell 8 28,.tmp 9]) 65 Tryz.func7 rfl rfl rfl ?_
 iterate 2 refine s1_ ?_
 refine k_b5 rfl ?_
 intro b4 f4
 have g4:=f4
 repeat ((with_reducible replace g4:=fresh_set g4);obtain ⟨g4,_⟩:=g4)
 refine nl_ ?_
 refine ARun.alloc (lit_lt rfl) ty_zero_28 ?_
 intro b8 f8
 have g8:=f8
 repeat ((with_reducible replace g8:=fresh_set g8);obtain ⟨g8,_⟩:=g8)
 refine nl_ ?_
 iterate 19 refine s1_ ?_
 refine cF_ ?_
 iterate 4 refine s1_ ?_
 refine ARun.alloc (lit_lt rfl) ty_zero_58 ?_
 intro b10 f10
 have g10:=f10
 repeat ((with_reducible replace g10:=fresh_set g10);obtain ⟨g10,_⟩:=g10)
 refine nl_ ?_
 iterate 2 refine s1_ ?_
 have hnew:=Bl.R.new ((S.set b4 (bx d pe ce pw cw)).set b8 zb) b10
 have hb4:((S.set b4 (bx d pe ce pw cw)).set b8 zb).own b4=some (bx d pe ce pw cw):=own_
 have hb8:((S.set b4 (bx d pe ce pw cw)).set b8 zb).own b8=some zb:=own_
 have hB:S.Less ((S.set b4 (bx d pe ce pw cw)).set b8 zb):=less_
 have n4:S.own b4=none:=g4.1
 have n8:S.own b8=none:=g8.1
 iterate 9 refine s1_ ?_
 refine AWP.loop (X:=Nat × Mem) (fun x=>[(1,.string s),(2,.int .i64 (k:Int)),(3,.slice pa hs.length ca),(4,.pointer (some ⟨b4,0,none⟩)),(8,.pointer (some ⟨b8,0,none⟩)),(10,.pointer (some ⟨b10,0,none⟩)),(30,.slice pa hs.length ca),(31,.int .i64 (hs.length:Int)),(32,.int .i64 (x.1:Int))]) (fun x=>x.2) (fun x=>x.1≤l.length∧Bl.R ((S.set b4 (bx d pe ce pw cw)).set b8 zb) b10 ((l.take x.1).flatMap recB) x.2∧(l.take x.1).all (rowOK k)=true) (fun x=>l.length-x.1) ((0,((S.set b4 (bx d pe ce pw cw)).set b8 zb).set b10 (Bl.blk (.pointer none) (.slice none 0 0)))) ⟨rfl,rfl,rfl,rfl,rfl,rfl,rfl,rfl,rfl,trivial⟩ (Mem.Less.refl _) (⟨Nat.zero_le _,hnew,rfl⟩) ?_
 rintro ⟨i,T⟩ ⟨hi,hT,hq⟩
 (try dsimp only at *)
 have hBT:=hT.less f10
 have hST:=hB.trans hBT
 have o4:=hBT.own hb4
 have o8:=hBT.own hb8
 iterate 6 refine s1_ ?_
 refine AWP.condB rfl (fun hl=>?_) (fun hl=>?_)
 ·have hil:i<l.length:=by have:=of_decide_eq_true hl;omega
  have hia:i<hs.length:=by omega
  obtain ⟨b0,off,rfl,hkn⟩:=ha3.resolve_left (by intro h;rw [h] at hia;exact absurd hia (Nat.not_lt_zero _))
  have hkk:=(hkn i hia).less hST
  have hrow:=(hae i hil hia).less hST
  have hmem:=List.getElem_mem hil
  have hRec:=numV_Record l[i] hs[i] T hrow (hb _ hmem)
  unfold recP at hRec
  obtain ⟨xa,xc,hxe,-⟩:=id hrow
  by_cases hr:recOK l[i]=true
  ·rw [if_pos hr] at hRec
   iterate 14 refine s1_ ?_
   refine ca_ rfl (hRec) ?_
   rintro _ S1 ⟨rfl,h1⟩
   rw [h1];clear h1 S1
   rw [hxe]
   iterate 7 refine s1_ ?_
   by_cases hx:(l[i]).length=k
   ·iterate 13 refine s1_ ?_
    refine k_v14 1 2 3 4 8 10 30 31 32 33 12 13 14 48 ?_
    refine cF_ ?_
    have hsz:(bs (recB l[i])).size=5*k:=by rw [size_bs,recB_len,hx]
    have hti:=htk i hi hq
    iterate 4 refine s1_ ?_
    refine ca_ rfl (Bl.WriteString _ b10 _ T (bs (recB l[i])) f10 hT (by omega)) ?_
    rintro _ T2 ⟨rfl,hT2⟩
    rw [show (l.take i).flatMap recB ++ (bs (recB l[i])).data.toList=(l.take (i+1)).flatMap recB from by rw [List.take_succ_eq_append_getElem hil,List.flatMap_append];simp [bs]] at hT2
    iterate 8 refine s1_ ?_
    refine ⟨(i+1,T2),?_,?_,?_,?_⟩
    all_goals (try dsimp only)
    ·exact ⟨rfl,rfl,rfl,rfl,rfl,rfl,rfl,rfl,some_int (by omega),trivial⟩
    ·exact Mem.Less.refl _
    ·exact ⟨hil,hT2,all_take hil hq (by unfold rowOK;rw [hr,decide_eq_true hx];rfl)⟩
    ·omega
   ·iterate 13 refine s1_ ?_
    refine cT_ ?_
    rw [if_neg (fun h=>by have:=List.all_eq_true.1 h _ hmem;unfold rowOK at this;rw [Bool.and_eq_true,decide_eq_true_eq] at this;exact hx this.2)]
    iterate 3 refine s1_ ?_
    refine ca_ rfl (href.over hST) ?_
    rintro _ T2 ⟨M2,⟨v,rfl,hl2,hdk⟩,hMT,hkeep⟩
    obtain ⟨p8,q8⟩:=hkeep b8 _ n8 o8
    obtain ⟨qe,de,qw,dw,rfl,_⟩:=id hdk
    iterate 13 refine s1_ ?_
    refine ⟨_,M2,⟨_,_,_,rfl,.inr ⟨ty_agg_28,[_,_,_,_,_],ty_size_28,rds_,rfl⟩,⟨_,_,rfl,rfl,rfl⟩,rfl⟩,less_set_skip hMT q8,?_⟩
    exact ⟨_,rfl,hl2,hdk⟩
  ·rw [if_neg hr] at hRec
   rw [if_neg (fun h=>by have:=List.all_eq_true.1 h _ hmem;unfold rowOK at this;rw [Bool.and_eq_true] at this;exact hr this.1)]
   iterate 14 refine s1_ ?_
   refine ca_ rfl (hRec) ?_
   rintro _ S1 ⟨rfl,h1⟩
   rw [h1];clear h1 S1
   iterate 7 refine s1_ ?_
   refine k_v13 1 2 3 4 8 10 30 31 32 33 12 13 14 ?_
   iterate 13 refine s1_ ?_
   refine cT_ ?_
   iterate 3 refine s1_ ?_
   refine ca_ rfl (href.over hST) ?_
   rintro _ T2 ⟨M2,⟨v,rfl,hl2,hdk⟩,hMT,hkeep⟩
   obtain ⟨p8,q8⟩:=hkeep b8 _ n8 o8
   obtain ⟨qe,de,qw,dw,rfl,_⟩:=id hdk
   iterate 13 refine s1_ ?_
   refine ⟨_,M2,⟨_,_,_,rfl,.inr ⟨ty_agg_28,[_,_,_,_,_],ty_size_28,rds_,rfl⟩,⟨_,_,rfl,rfl,rfl⟩,rfl⟩,less_set_skip hMT q8,?_⟩
   exact ⟨_,rfl,hl2,hdk⟩
 ·obtain rfl:i=l.length:=by have:=of_decide_eq_false hl;omega
  rw [List.take_length] at hq hT
  rw [if_pos hq]
  have hti:(l.flatMap recB).length≤2621440:=by have:=htk l.length (Nat.le_refl _) (by rw [List.take_length];exact hq);rw [List.take_length] at this;omega
  have hStr:=Bl.StringE _ b10 _ T f10 hT (by omega)
  rw [hlen]
  iterate 6 refine s1_ ?_
  refine AWP.drawG [0,5,6,9] mixed ?_
  refine DG.pure 1 (by kernel_rfl) (by kernel_rfl) rfl rfl rfl rfl (lit_lt rfl) (fun _=>Calm.move rfl) ?_
  refine DG.pure 2 (by kernel_rfl) (by kernel_rfl) rfl rfl rfl rfl (lit_lt rfl) (fun _=>Calm.move rfl) ?_
  refine DG.pure 3 (by kernel_rfl) (by kernel_rfl) rfl rfl rfl rfl (lit_lt rfl) (fun _=>Calm.move rfl) ?_
  refine DG.pure 4 (by kernel_rfl) (by kernel_rfl) rfl rfl rfl rfl (lit_lt rfl) (fun _=>Calm.lenSl Tryz.underlying22 rfl) ?_
  refine DG.two 0 5 (by kernel_rfl) rfl ?_ rfl ?_
  ·refine s1_ ?_
   refine arun_nil ⟨fun h=>absurd h (by decide),?_⟩
   refine DG.only 5 (by kernel_rfl) rfl ?_
   refine ca_ rfl (hStr) ?_
   rintro _ S1 ⟨rfl,h1⟩
   rw [h1];clear h1 S1
   refine arun_nil ⟨fun h=>absurd h (by decide),?_⟩
   refine DG.only 6 (by kernel_rfl) rfl ?_
   refine ca_ rfl (((hput hq).frame f4).frame f8) ?_
   rintro _ S1 ⟨Sa,⟨M2,⟨v,rfl,hl2,hdk⟩,fc,hSa⟩,fd,h1⟩
   rw [h1,hSa];rw [hSa] at fd;clear h1 S1 hSa Sa
   obtain ⟨qe,de,qw,dw,rfl,_⟩:=id hdk
   obtain ⟨ge,_⟩:=fresh_set fd
   refine arun_nil ⟨fun h=>absurd h (by decide),?_⟩
   refine DG.pure 7 (by kernel_rfl) (by kernel_rfl) rfl rfl rfl rfl (lit_lt rfl) (fun _=>Calm.extract rfl rfl) ?_
   refine DG.pure 8 (by kernel_rfl) (by kernel_rfl) rfl rfl rfl rfl (lit_lt rfl) (fun _=>Calm.extract rfl rfl) ?_
   refine DG.only 9 (by kernel_rfl) rfl ?_
   refine s1_ ?_
   refine arun_nil ⟨fun h=>absurd h (by decide),?_⟩
   refine DG.pure 10 (by kernel_rfl) (by kernel_rfl) rfl rfl rfl rfl (lit_lt rfl) (fun _=>Calm.assign rfl) ?_
   refine DG.end_ (by kernel_rfl) ?_
   iterate 2 refine s1_ ?_
   refine ⟨_,M2,⟨_,_,_,rfl,.inr ⟨ty_agg_28,[_,_,_,_,_],ty_size_28,rds_,rfl⟩,⟨_,_,rfl,rfl,rfl⟩,rfl⟩,less_,?_⟩
   exact ⟨_,rfl,hl2,hdk⟩
  ·refine ca_ rfl (hStr) ?_
   rintro _ S1 ⟨rfl,h1⟩
   rw [h1];clear h1 S1
   refine arun_nil ⟨fun h=>absurd h (by decide),?_⟩
   refine DG.only 0 (by kernel_rfl) rfl ?_
   refine s1_ ?_
   refine arun_nil ⟨fun h=>absurd h (by decide),?_⟩
   refine DG.only 6 (by kernel_rfl) rfl ?_
   refine ca_ rfl (((hput hq).frame f4).frame f8) ?_
   rintro _ S1 ⟨Sa,⟨M2,⟨v,rfl,hl2,hdk⟩,fc,hSa⟩,fd,h1⟩
   rw [h1,hSa];rw [hSa] at fd;clear h1 S1 hSa Sa
   obtain ⟨qe,de,qw,dw,rfl,_⟩:=id hdk
   obtain ⟨ge,_⟩:=fresh_set fd
   refine arun_nil ⟨fun h=>absurd h (by decide),?_⟩
   refine DG.pure 7 (by kernel_rfl) (by kernel_rfl) rfl rfl rfl rfl (lit_lt rfl) (fun _=>Calm.extract rfl rfl) ?_
   refine DG.pure 8 (by kernel_rfl) (by kernel_rfl) rfl rfl rfl rfl (lit_lt rfl) (fun _=>Calm.extract rfl rfl) ?_
   refine DG.only 9 (by kernel_rfl) rfl ?_
   refine s1_ ?_
   refine arun_nil ⟨fun h=>absurd h (by decide),?_⟩
   refine DG.pure 10 (by kernel_rfl) (by kernel_rfl) rfl rfl rfl rfl (lit_lt rfl) (fun _=>Calm.assign rfl) ?_
   refine DG.end_ (by kernel_rfl) ?_
   iterate 2 refine s1_ ?_
   refine ⟨_,M2,⟨_,_,_,rfl,.inr ⟨ty_agg_28,[_,_,_,_,_],ty_size_28,rds_,rfl⟩,⟨_,_,rfl,rfl,rfl⟩,rfl⟩,less_,?_⟩
   exact ⟨_,rfl,hl2,hdk⟩
end Rec
end
section
open Go.RowKit
open Mv
set_option maxRecDepth 4000
namespace St
theorem len_list (s:ByteArray):s.data.toList.length=s.size:=Array.length_toList (xs:=s.data)
theorem dw_nil {p:UInt8→Bool}:∀ {l:List UInt8},l.dropWhile p = [] ↔ ∀ x ∈ l,p x=true
 | []=>⟨fun _ x hx=>(by cases hx),fun _=>rfl⟩
 | a :: l=>by
  by_cases ha:p a=true
  ·rw [List.dropWhile_cons_of_pos ha,dw_nil]
   exact ⟨fun h x hx=>(List.mem_cons.1 hx).elim (fun e=>e ▸ ha) (h x),fun h x hx=>h x (List.mem_cons_of_mem _ hx)⟩
  ·rw [List.dropWhile_cons_of_neg ha]
   exact ⟨fun h=>(by cases h),fun h=>absurd (h a (List.mem_cons_self ..)) ha⟩
def rtrim (c:UInt8) (l:List UInt8):List UInt8:=(l.reverse.dropWhile (· == c)).reverse
theorem rtrim_all (c:UInt8) (l:List UInt8) (h:∀ x ∈ l,x=c):rtrim c l = []:=by
 unfold rtrim
 rw [dw_nil.2 (fun x hx=>by simp [h x (List.mem_reverse.1 hx)])];rfl
theorem rtrim_app (c:UInt8) (l r:List UInt8) (h:∀ x ∈ r,x=c):rtrim c (l ++ r)=rtrim c l:=by
 unfold rtrim
 rw [List.reverse_append]
 have:∀ (a b:List UInt8),(∀ x ∈ a,x=c)→(a ++ b).dropWhile (· == c)=b.dropWhile (· == c):=by
  intro a b ha
  induction a with
  | nil=>rfl
  | cons x a ih =>
   rw [List.cons_append,List.dropWhile_cons_of_pos (by simp [ha x (by simp)])]
   exact ih fun y hy=>ha y (by simp [hy])
 rw [this _ _ fun x hx=>h x (List.mem_reverse.1 hx)]
theorem rtrim_end (c x:UInt8) (l:List UInt8) (h:x≠c):rtrim c (l ++ [x])=l ++ [x]:=by
 unfold rtrim
 rw [List.reverse_append,List.reverse_singleton,List.singleton_append,List.dropWhile_cons_of_neg (by simpa using h)]
 simp
theorem rtrim_take (c:UInt8) (l:List UInt8) (m:Nat) (hm:m≤l.length) (hd:∀ x ∈ l.drop m,x=c) (he:m=0∨at8 l (m-1)≠c):rtrim c l=l.take m:=by
 rw [← List.take_append_drop m l,rtrim_app c _ _ hd,List.take_append_drop]
 rcases he with rfl | he
 ·rfl
 ·by_cases h0:m=0
  ·subst h0;rfl
  ·obtain ⟨k,rfl⟩ : ∃ k,m=k+1:=⟨m-1,by omega⟩
   rw [List.take_succ_eq_append_getElem (by omega:k<l.length)]
   refine rtrim_end c _ _ fun e=>he ?_
   rw [Nat.add_sub_cancel,← e]
   simp [at8,List.getD_eq_getElem?_getD,List.getElem?_eq_getElem (by omega:k<l.length)]
theorem nb_inj {a b:UInt8}:nb a=nb b ↔ a=b:=by
 unfold nb
 constructor
 ·intro h;exact UInt8.toNat_inj.1 (by omega)
 ·intro h;rw [h]
theorem trimRight (s:ByteArray) (c:UInt8) (S:Mem) (hs:s.size≤9223372036854775807) :
  ACall Tryz.prog 147 #[.string s,.int .u8 (nb c)] S fun r S'=>r = .string (bs (rtrim c s.data.toList))∧S'=S:=by
 have hlen:=len_list s
 refine k_E2 (rs:=[.tmp 4]) 23 Tryz.func147 rfl rfl rfl ?_
 iterate 7 refine s1_ ?_
 refine AWP.loop (X:=Nat) (fun m=>[(0,.string (bs (s.data.toList.take m))),(1,.int .u8 (nb c))]) (fun m=>S) (fun m=>m≤s.size ∧ ∀ x ∈ s.data.toList.drop m,x=c) (fun m=>m) (s.size) ⟨by rw [List.take_of_length_le (by omega),bs_of];rfl,rfl,trivial⟩ (Mem.Less.refl _) (⟨Nat.le_refl _,by rw [List.drop_of_length_le (by omega)];intro x hx;cases hx⟩) ?_
 rintro m ⟨hm,hd⟩
 (try dsimp only at *)
 have hz:(bs (s.data.toList.take m)).size=m:=by rw [size_bs,List.length_take];omega
 by_cases h0:m=0
 ·iterate 17 refine s1_ ?_
  refine cF_ ?_
  iterate 12 refine s1_ ?_
  refine ⟨_,S,⟨_,_,rfl,rfl,rfl⟩,less_,?_⟩
  exact ⟨by rw [rtrim_take c _ m (by omega) hd (.inl h0)];rfl,rfl⟩
 ·obtain ⟨k,rfl⟩ : ∃ k,m=k+1:=⟨m-1,by omega⟩
  have hat:at8 (bs (s.data.toList.take (k+1))).data.toList (((bs (s.data.toList.take (k+1))).size:Int)-1).toNat=at8 s.data.toList k:=by rw [hz,bs_data,show (((k+1:Nat):Int)-1).toNat=k from by omega];simp [at8,List.getD_eq_getElem?_getD,List.getElem?_take]
  have hdr:s.data.toList.drop k=at8 s.data.toList k :: s.data.toList.drop (k+1):=by rw [List.drop_eq_getElem_cons (by omega:k<s.data.toList.length)];simp [at8,List.getD_eq_getElem?_getD,List.getElem?_eq_getElem (by omega:k<s.data.toList.length)]
  by_cases hx:at8 s.data.toList k=c
  ·have hn:nb (at8 (bs (s.data.toList.take (k+1))).data.toList (((bs (s.data.toList.take (k+1))).size:Int)-1).toNat)=nb c:=by rw [hat,hx]
   iterate 17 refine s1_ ?_
   refine cT_ ?_
   iterate 13 refine s1_ ?_
   refine ⟨k,?_,?_,?_,?_⟩
   all_goals (try dsimp only)
   ·exact ⟨by rw [show (bs (s.data.toList.take k))=(bs (s.data.toList.take (k+1))).extract 0 (((bs (s.data.toList.take (k+1))).size:Int)-1).toNat from by rw [hz,show (((k+1:Nat):Int)-1).toNat=k from by omega];apply str_ext;rw [Lib.extract_data,bs_data,bs_data];simp [List.take_take]];rfl,rfl,trivial⟩
   ·exact less_
   ·exact ⟨by omega,by rw [hdr];intro x hx';rcases List.mem_cons.1 hx' with e | e;exact e.trans hx;exact hd x e⟩
   ·omega
  ·have hn:nb (at8 (bs (s.data.toList.take (k+1))).data.toList (((bs (s.data.toList.take (k+1))).size:Int)-1).toNat)≠nb c:=by rw [hat];exact fun e=>hx (nb_inj.1 e)
   iterate 17 refine s1_ ?_
   refine cF_ ?_
   iterate 11 refine s1_ ?_
   refine k_v4 0 1 16 4 ?_
   refine s1_ ?_
   refine ⟨_,S,⟨_,_,rfl,rfl,rfl⟩,less_,?_⟩
   exact ⟨by rw [rtrim_take c _ (k+1) (by omega) hd (.inr hx)];rfl,rfl⟩
theorem trimLeft (s:ByteArray) (c:UInt8) (S:Mem) (hs:s.size≤9223372036854775807) :
  ACall Tryz.prog 146 #[.string s,.int .u8 (nb c)] S fun r S'=>r = .string (bs (s.data.toList.dropWhile (· == c)))∧S'=S:=by
 have hlen:=len_list s
 have hdw:∀ l:List UInt8,l.dropWhile (· == c) = [] ∨ ∃ x r,l.dropWhile (· == c)=x :: r∧x≠c:=fun l=>by
  induction l with
  | nil=>exact .inl rfl
  | cons x l ih =>
   by_cases h:x=c
   ·rw [List.dropWhile_cons_of_pos (by simp [h])];exact ih
   ·rw [List.dropWhile_cons_of_neg (by simpa using h)];exact .inr ⟨x,l,rfl,h⟩
 refine k_E2 (rs:=[.tmp 4]) 17 Tryz.func146 rfl rfl rfl ?_
 iterate 7 refine s1_ ?_
 refine AWP.loop (X:=Nat) (fun m=>[(0,.string (bs (s.data.toList.drop m))),(1,.int .u8 (nb c))]) (fun m=>S) (fun m=>m≤s.size∧(s.data.toList.drop m).dropWhile (· == c)=s.data.toList.dropWhile (· == c)) (fun m=>s.size-m) (0) ⟨by rw [List.drop_zero,bs_of];rfl,rfl,trivial⟩ (Mem.Less.refl _) (⟨Nat.zero_le _,rfl⟩) ?_
 rintro m ⟨hm,hd⟩
 (try dsimp only at *)
 have hz:(bs (s.data.toList.drop m)).size=s.size-m:=by rw [size_bs,List.length_drop];omega
 by_cases h0:m=s.size
 ·iterate 14 refine s1_ ?_
  refine cF_ ?_
  iterate 12 refine s1_ ?_
  refine ⟨_,S,⟨_,_,rfl,rfl,rfl⟩,less_,?_⟩
  exact ⟨by rw [← hd,List.drop_of_length_le (by omega)];rfl,rfl⟩
 ·have hdr:s.data.toList.drop m=at8 s.data.toList m :: s.data.toList.drop (m+1):=by rw [List.drop_eq_getElem_cons (by omega:m<s.data.toList.length)];simp [at8,List.getD_eq_getElem?_getD,List.getElem?_eq_getElem (by omega:m<s.data.toList.length)]
  have hat:at8 (bs (s.data.toList.drop m)).data.toList (0:Int).toNat=at8 s.data.toList m:=by rw [bs_data,hdr];rfl
  by_cases hx:at8 s.data.toList m=c
  ·have hn:nb (at8 (bs (s.data.toList.drop m)).data.toList (0:Int).toNat)=nb c:=by rw [hat,hx]
   iterate 14 refine s1_ ?_
   refine cT_ ?_
   iterate 10 refine s1_ ?_
   refine ⟨m+1,?_,?_,?_,?_⟩
   all_goals (try dsimp only)
   ·exact ⟨by rw [show (bs (s.data.toList.drop (m+1)))=(bs (s.data.toList.drop m)).extract 1 (bs (s.data.toList.drop m)).size from by apply str_ext;rw [Lib.extract_data,bs_data,bs_data,hz,hdr];simp;rw [List.take_of_length_le (by rw [List.length_drop];omega)]];rfl,rfl,trivial⟩
   ·exact less_
   ·exact ⟨by omega,by rw [← hd,hdr,List.dropWhile_cons_of_pos (by simp [hx])]⟩
   ·omega
  ·have hn:nb (at8 (bs (s.data.toList.drop m)).data.toList (0:Int).toNat)≠nb c:=by rw [hat];exact fun e=>hx (nb_inj.1 e)
   iterate 14 refine s1_ ?_
   refine cF_ ?_
   iterate 11 refine s1_ ?_
   refine k_v4 0 1 13 4 ?_
   refine s1_ ?_
   refine ⟨_,S,⟨_,_,rfl,rfl,rfl⟩,less_,?_⟩
   exact ⟨by rw [← hd,hdr,List.dropWhile_cons_of_neg (by simpa using hx)];rfl,rfl⟩
theorem trim0 (s:ByteArray) (S:Mem) (hs:s.size≤9223372036854775807) :
  ACall Tryz.prog 110 #[.string s,.string ⟨#[0]⟩] S fun r S'=>r = .string (bs ((rtrim 0 s.data.toList).dropWhile (· == 0)))∧S'=S:=by
 have z1:(⟨#[0]⟩ : ByteArray).size=1:=rfl
 have hne:(⟨#[0]⟩ : ByteArray)≠ByteArray.empty:=fun e=>by have:=congrArg ByteArray.size e;rw [z1] at this;exact absurd this (by decide)
 have hat:nb (at8 (⟨#[0]⟩ : ByteArray).data.toList (0:Int).toNat)=0:=rfl
 by_cases h0:s=ByteArray.empty
 ·subst h0
  refine k_E2 (rs:=[.tmp 4]) 43 Tryz.func110 rfl rfl rfl ?_
  iterate 9 refine s1_ ?_
  refine rC (Calm.bin rfl rfl (bin_bool (bin_str_eql _ _) (decide_eq_true rfl))) ?_
  iterate 6 refine s1_ ?_
  refine cT_ ?_
  iterate 8 refine s1_ ?_
  refine ⟨_,S,⟨_,_,rfl,rfl,rfl⟩,less_,?_⟩
  exact ⟨rfl,rfl⟩
 ·have hr:(bs (rtrim 0 s.data.toList)).size≤9223372036854775807:=by
   rw [size_bs]
   unfold rtrim
   rw [List.length_reverse]
   have h1:=(List.dropWhile_sublist (· == (0:UInt8)) (l:=s.data.toList.reverse)).length_le
   rw [List.length_reverse] at h1
   have:=len_list s
   omega
  have hl:=trimLeft (bs (rtrim 0 s.data.toList)) 0 S hr
  rw [bs_data] at hl
  refine k_E2 (rs:=[.tmp 4]) 43 Tryz.func110 rfl rfl rfl ?_
  iterate 9 refine s1_ ?_
  refine rC (Calm.bin rfl rfl (bin_bool (bin_str_eql _ _) (decide_eq_false h0))) ?_
  iterate 2 refine s1_ ?_
  first|refine k_q 9 ?_|refine rG 9 (Calm.bin rfl rfl (bin_bool (bin_str_eql _ _) (decide_eq_false hne))) ?_
  iterate 3 refine s1_ ?_
  refine cF_ ?_
  iterate 15 refine s1_ ?_
  refine cT_ ?_
  refine s1_ ?_
  refine AWP.draw [(0,true),(1,true),(2,true),(4,true),(5,true),(3,false),(6,false),(7,true)] [] mixed (by kernel_rfl) ?_
  iterate 5 refine s1_ ?_
  refine draw_only rfl ?_
  refine ca_ rfl (trimRight s 0 S hs) ?_
  rintro _ S1 ⟨rfl,h1⟩
  rw [h1];clear h1 S1
  refine arun_nil ⟨fun _=>less_,?_⟩
  refine draw_only rfl ?_
  refine ca_ rfl (hl) ?_
  rintro _ S1 ⟨rfl,h1⟩
  rw [h1];clear h1 S1
  refine arun_nil ⟨fun _=>less_,?_⟩
  iterate 3 refine s1_ ?_
  refine k_v5 0 1 4 12 21 ?_
  iterate 2 refine s1_ ?_
  refine ⟨_,S,⟨_,_,rfl,rfl,rfl⟩,less_,?_⟩
  exact ⟨rfl,rfl⟩
theorem trim_nil (l:List UInt8):((rtrim 0 l).dropWhile (· == 0) = []) ↔ (l.all fun b=>b == 0)=true:=by
 constructor
 ·intro h
  rw [List.all_eq_true]
  intro x hx
  have h1:∀ y ∈ rtrim 0 l,(y == (0:UInt8))=true:=dw_nil.1 h
  have h2:∀ (r:List UInt8),(∀ y ∈ (r.dropWhile (· == (0:UInt8))),(y == (0:UInt8))=true) → ∀ y ∈ r,(y == (0:UInt8))=true:=by
   intro r
   induction r with
   | nil=>intro _ y hy;cases hy
   | cons a r ih =>
    by_cases ha:(a == (0:UInt8))=true
    ·rw [List.dropWhile_cons_of_pos (p:=fun x=>x == (0:UInt8)) ha]
     intro hh y hy
     rcases List.mem_cons.1 hy with rfl | hy
     ·exact ha
     ·exact ih hh y hy
    ·rw [List.dropWhile_cons_of_neg (p:=fun x=>x == (0:UInt8)) ha]
     exact fun hh=>hh
  exact h2 l.reverse (fun y hy=>h1 y (by unfold rtrim;exact List.mem_reverse.2 hy)) x (List.mem_reverse.2 hx)
 ·intro h
  rw [rtrim_all 0 l (fun x hx=>by have:=List.all_eq_true.1 h x hx;simpa using this)]
  rfl
theorem hasPrefix (s p:ByteArray) (S:Mem) (hs:s.size≤9223372036854775807) (hp:p.size≤9223372036854775807) :
  ACall Tryz.prog 158 #[.string s,.string p] S fun r S'=>r = .bool (decide (s.data.toList.take p.size=p.data.toList))∧S'=S:=by
 have hl:=len_list s
 have hlp:=len_list p
 by_cases h:p.size≤s.size
 ·have e:decide (s.extract 0 p.size=p)=decide (s.data.toList.take p.size=p.data.toList):=by
   rw [decide_eq_decide]
   constructor
   ·intro h;rw [← congrArg (fun x=>x.data.toList) h];simp [Lib.extract_data]
   ·intro h;apply str_ext;rw [← h];simp [Lib.extract_data]
  refine k_E2 (rs:=[.tmp 4]) 18 Tryz.func158 rfl rfl rfl ?_
  iterate 24 refine s1_ ?_
  refine ⟨_,S,⟨_,_,rfl,rfl,rfl⟩,less_,?_⟩
  exact ⟨by rw [← e];rfl,rfl⟩
 ·have e:decide (s.data.toList.take p.size=p.data.toList)=false:=decide_eq_false fun h=>by
   have:=congrArg List.length h
   rw [List.length_take] at this;omega
  rw [e]
  refine k_E2 (rs:=[.tmp 4]) 18 Tryz.func158 rfl rfl rfl ?_
  iterate 24 refine s1_ ?_
  refine ⟨_,S,⟨_,_,rfl,rfl,rfl⟩,less_,?_⟩
  exact ⟨rfl,rfl⟩
theorem HasPrefix (s p:ByteArray) (S:Mem) (hs:s.size≤9223372036854775807) (hp:p.size≤9223372036854775807) :
  ACall Tryz.prog 122 #[.string s,.string p] S fun r S'=>r = .bool (decide (s.data.toList.take p.size=p.data.toList))∧S'=S:=by
 refine k_E2 (rs:=[.tmp 4]) 8 Tryz.func122 rfl rfl rfl ?_
 iterate 9 refine s1_ ?_
 refine ca_ rfl (hasPrefix s p _ hs hp) ?_
 rintro _ S1 ⟨rfl,h1⟩
 rw [h1];clear h1 S1
 iterate 4 refine s1_ ?_
 refine ⟨_,S,⟨_,_,rfl,rfl,rfl⟩,less_,?_⟩
 exact ⟨rfl,rfl⟩
end St
end
section
open Go.RowKit
open Mv Disk Num
set_option maxRecDepth 4000
namespace Rec
theorem readD_size {d:D} (hR:Right d) {s:ByteArray} {k:Int} (h:(readD d s k).2=0):(placeD d s k).2=0∧(readD d s k).1.size=64:=by
 have hp:(placeD d s k).2=0:=by
  by_cases q:(placeD d s k).2=0
  ·exact q
  ·rw [readD_see,if_pos q] at h;exact absurd h q
 refine ⟨hp,?_⟩
 rw [readD_see,if_neg (by simpa using hp)]
 obtain ⟨h1,h2,h3⟩:=place0 hp
 have hx:=exOf_has hR.ex.asc h1
 have he:=(eok_sec (hR.ex.ok _ hx.1)).2
 unfold seen
 rcases seeW_mem allK d.waits s k ((exOf d.ext s).2.extract (64*k.toNat) (64*k.toNat+64)) d.waits.length with e | ⟨w,hw,_,_,e⟩
 ·rw [e,ByteArray.size_extract];omega
 ·rw [e]
  obtain ⟨_,_,_,_,_,h64⟩:=hR.wr w hw
  exact h64
noncomputable def headD (d:D) (s:ByteArray):Nat × Nat × Int :=
  if (readD d s 0).2≠0 then (0,0,(readD d s 0).2) else
  if (formP (readD d s 0).1).2.2≠0 then (0,0,(formP (readD d s 0).1).2.2) else
  if (needP (formP (readD d s 0).1).1 (formP (readD d s 0).1).2.1).2≠0∨(sec (exOf d.ext s):Int)≠(needN (formP (readD d s 0).1).1 (formP (readD d s 0).1).2.1:Nat) then (0,0,2) else
  formP (readD d s 0).1
theorem readO_open {d:D} (h:(openD d).2=0) (s:ByteArray) (k:Int):readO d s k=readD d s k:=by unfold readO;rw [if_neg (by omega)]
theorem headP_open {d:D} (h:(openD d).2=0) (s:ByteArray):headP d s=headD d s:=by
 unfold headP headD
 rw [readO_open h]
 by_cases q:(readD d s 0).2≠0
 ·rw [if_pos q,if_pos q]
 rw [if_neg q,if_neg q]
 have hh:has d.ext s=true:=by
  have q:(readD d s 0).2=0:=by omega
  by_cases p:(placeD d s 0).2=0
  ·exact (place0 p).1
  ·rw [readD_see,if_pos p] at q;exact absurd q p
 have hs:(sectorsD d s).1=((sec (exOf d.ext s):Nat):Int):=by unfold sectorsD;rw [if_neg (by omega),if_pos hh]
 rw [hs]
theorem headP_shut {d:D} (h:(openD d).2≠0) (s:ByteArray):headP d s=(0,0,(openD d).2):=by
 have e:(readO d s 0).2=(openD d).2:=by unfold readO;rw [if_pos h]
 unfold headP
 rw [if_pos (by rw [e];exact h),e]
theorem rec_zeros (s:ByteArray) (S:Mem) (hs:s.size≤9223372036854775807):ACall Tryz.prog 68 #[.string s] S fun r S'=>r = .bool (zeroL s.data.toList)∧S'=S:=by
 have e:decide (bs ((St.rtrim 0 s.data.toList).dropWhile (· == 0))=ByteArray.empty)=zeroL s.data.toList:=by
  rw [Bool.eq_iff_iff,decide_eq_true_eq]
  unfold zeroL
  rw [← St.trim_nil]
  constructor
  ·intro h
   have:=congrArg (fun x=>x.data.toList) h
   rw [bs_data] at this
   exact this
  ·intro h;rw [h];rfl
 refine k_E1 (rs:=[.tmp 2]) 6 Tryz.func68 rfl rfl rfl ?_
 iterate 8 refine s1_ ?_
 refine ca_ rfl (St.trim0 s _ hs) ?_
 rintro _ S1 ⟨rfl,h1⟩
 rw [h1];clear h1 S1
 iterate 5 refine s1_ ?_
 refine ⟨_,S,⟨_,_,rfl,rfl,rfl⟩,less_,?_⟩
 exact ⟨by rw [← e];rfl,rfl⟩
def formV (p:Nat × Nat × Int):Value:=.tuple #[.int .i64 (p.1:Nat),.int .u64 (p.2.1:Nat),.int .i64 p.2.2]
theorem at8_getD (l:List UInt8) (j:Nat):at8 l j=l.getD j 0:=rfl
set_option maxHeartbeats 1000000 in
theorem rec_form (s:ByteArray) (S:Mem) (hs:s.size=64):ACall Tryz.prog 107 #[.string s] S fun r S'=>r=formV (formP s)∧S'=S:=by
 have hpre:=fun M=>St.HasPrefix s ⟨#[87,82]⟩ M (by omega) (by show 2≤_;decide)
 have hl2:(⟨#[87,82]⟩ : ByteArray).data.toList = [87,82]:=rfl
 rw [hl2] at hpre
 have hsl:=St.len_list s
 unfold formV formP
 by_cases h1:s.data.toList.take 2 = [87,82]
 ·rw [show s.data.toList.take (⟨#[87,82]⟩ : ByteArray).size=s.data.toList.take 2 from rfl,decide_eq_true h1] at hpre
  by_cases h2:8<(s.data.toList.getD 2 0).toNat
  ·rw [if_pos (.inr (.inl h2))]
   have hn:(8:Int)<nb (at8 s.data.toList (2:Int).toNat):=by rw [at8_getD];unfold nb;exact Int.ofNat_lt.2 h2
   refine k_E1 (rs:=[.tmp 2,.tmp 3,.tmp 4]) 36 Tryz.func107 rfl rfl rfl ?_
   iterate 11 refine s1_ ?_
   refine ca_ rfl (hpre _) ?_
   rintro _ S1 ⟨rfl,h1⟩
   rw [h1];clear h1 S1
   iterate 3 refine s1_ ?_
   first|refine k_q 10 ?_|refine rG 10 (Calm.indexStr (strT_spec ty_str_9) rfl rfl (by omega) (by omega)) ?_
   iterate 10 refine s1_ ?_
   refine cT_ ?_
   iterate 9 refine s1_ ?_
   refine ⟨_,S,⟨_,_,rfl,⟨_,_,rfl,⟨_,_,rfl,rfl,rfl⟩,rfl⟩,rfl⟩,less_,?_⟩
   exact ⟨rfl,rfl⟩
  ·have hn : ¬ (8:Int)<nb (at8 s.data.toList (2:Int).toNat):=by rw [at8_getD];unfold nb;exact fun h=>h2 (Int.ofNat_lt.1 h)
   have hn0:=nb_nonneg (at8 s.data.toList (2:Int).toNat)
   have hex:∀ n:Nat,n≤64→(s.extract n s.size).data.toList=s.data.toList.drop n:=fun n hn=>by simp [Lib.extract_data];rw [List.take_of_length_le (by rw [List.length_drop];omega)]
   have hz:=fun M=>rec_zeros (s.extract 12 s.size) M (by rw [ByteArray.size_extract];omega)
   rw [hex 12 (by decide)] at hz
   by_cases h3:zeroL (s.data.toList.drop 12)=false
   ·rw [if_pos (.inr (.inr h3))]
    rw [h3] at hz
    refine k_E1 (rs:=[.tmp 2,.tmp 3,.tmp 4]) 36 Tryz.func107 rfl rfl rfl ?_
    iterate 11 refine s1_ ?_
    refine ca_ rfl (hpre _) ?_
    rintro _ S1 ⟨rfl,h1⟩
    rw [h1];clear h1 S1
    iterate 3 refine s1_ ?_
    first|refine k_q 10 ?_|refine rG 10 (Calm.indexStr (strT_spec ty_str_9) rfl rfl (by omega) (by omega)) ?_
    iterate 5 refine s1_ ?_
    refine ARun.callG 8 false 15 rfl (lit_lt rfl) rfl (lit_lt rfl) go_68 rfl (hz _) ?_
    rintro _ S1 ⟨rfl,h1⟩
    rw [h1];clear h1 S1
    iterate 4 refine s1_ ?_
    refine cT_ ?_
    iterate 9 refine s1_ ?_
    refine ⟨_,S,⟨_,_,rfl,⟨_,_,rfl,⟨_,_,rfl,rfl,rfl⟩,rfl⟩,rfl⟩,less_,?_⟩
    exact ⟨rfl,rfl⟩
   ·rw [if_neg (fun h=>by rcases h with h | h | h;exact h h1;exact h2 h;exact h3 h)]
    rw [Bool.not_eq_false] at h3
    rw [h3] at hz
    have ho:∀ M,ACall Tryz.prog 144 #[.string (s.extract 0 12)] M fun r S'=>r = .tuple #[.string (openS (s.extract 0 12)).1,.int .i64 (openS (s.extract 0 12)).2]∧S'=M:=fun M=>ACall.of_calls fun w=>crc_Open _ (by rw [ByteArray.size_extract,hs];decide) w
    have hof:=fun M=>numV_Of (s.extract 3 s.size) M (by rw [ByteArray.size_extract];omega) (by rw [ByteArray.size_extract];omega)
    rw [hex 3 (by decide)] at hof
    by_cases h4:(openS (s.extract 0 12)).2=0
    ·rw [if_neg (by omega)]
     rw [h4] at ho
     refine k_E1 (rs:=[.tmp 2,.tmp 3,.tmp 4]) 36 Tryz.func107 rfl rfl rfl ?_
     iterate 11 refine s1_ ?_
     refine ca_ rfl (hpre _) ?_
     rintro _ S1 ⟨rfl,h1⟩
     rw [h1];clear h1 S1
     iterate 3 refine s1_ ?_
     first|refine k_q 10 ?_|refine rG 10 (Calm.indexStr (strT_spec ty_str_9) rfl rfl (by omega) (by omega)) ?_
     iterate 5 refine s1_ ?_
     refine ARun.callG 8 false 15 rfl (lit_lt rfl) rfl (lit_lt rfl) go_68 rfl (hz _) ?_
     rintro _ S1 ⟨rfl,h1⟩
     rw [h1];clear h1 S1
     iterate 4 refine s1_ ?_
     refine cF_ ?_
     iterate 7 refine s1_ ?_
     refine ca_ rfl (ho _) ?_
     rintro _ S1 ⟨rfl,h1⟩
     rw [h1];clear h1 S1
     iterate 13 refine s1_ ?_
     refine k_v7 0 2 3 4 20 6 28 ?_
     refine cF_ ?_
     iterate 3 refine s1_ ?_
     refine AWP.draw [(0,true),(1,true),(2,true),(3,true),(4,true),(5,false),(6,true),(7,true),(8,true)] [] mixed (by kernel_rfl) ?_
     iterate 5 refine s1_ ?_
     refine draw_only rfl ?_
     refine ca_ rfl (hof _) ?_
     rintro _ S1 ⟨rfl,h1⟩
     rw [h1];clear h1 S1
     refine arun_nil ⟨fun _=>less_,?_⟩
     iterate 6 refine s1_ ?_
     refine ⟨_,S,⟨_,_,rfl,⟨_,_,rfl,⟨_,_,rfl,rfl,rfl⟩,rfl⟩,rfl⟩,less_,?_⟩
     exact ⟨rfl,rfl⟩
    ·rw [if_pos h4]
     refine k_E1 (rs:=[.tmp 2,.tmp 3,.tmp 4]) 36 Tryz.func107 rfl rfl rfl ?_
     iterate 11 refine s1_ ?_
     refine ca_ rfl (hpre _) ?_
     rintro _ S1 ⟨rfl,h1⟩
     rw [h1];clear h1 S1
     iterate 3 refine s1_ ?_
     first|refine k_q 10 ?_|refine rG 10 (Calm.indexStr (strT_spec ty_str_9) rfl rfl (by omega) (by omega)) ?_
     iterate 5 refine s1_ ?_
     refine ARun.callG 8 false 15 rfl (lit_lt rfl) rfl (lit_lt rfl) go_68 rfl (hz _) ?_
     rintro _ S1 ⟨rfl,h1⟩
     rw [h1];clear h1 S1
     iterate 4 refine s1_ ?_
     refine cF_ ?_
     iterate 7 refine s1_ ?_
     refine ca_ rfl (ho _) ?_
     rintro _ S1 ⟨rfl,h1⟩
     rw [h1];clear h1 S1
     iterate 13 refine s1_ ?_
     refine cT_ ?_
     iterate 8 refine s1_ ?_
     refine k_v7 0 2 3 4 20 6 28 ?_
     iterate 2 refine s1_ ?_
     refine ⟨_,S,⟨_,_,rfl,⟨_,_,rfl,⟨_,_,rfl,rfl,rfl⟩,rfl⟩,rfl⟩,less_,?_⟩
     exact ⟨rfl,rfl⟩
 ·rw [if_pos (.inl h1)]
  rw [show s.data.toList.take (⟨#[87,82]⟩ : ByteArray).size=s.data.toList.take 2 from rfl,decide_eq_false h1] at hpre
  refine k_E1 (rs:=[.tmp 2,.tmp 3,.tmp 4]) 36 Tryz.func107 rfl rfl rfl ?_
  iterate 11 refine s1_ ?_
  refine ca_ rfl (hpre _) ?_
  rintro _ S1 ⟨rfl,h1⟩
  rw [h1];clear h1 S1
  iterate 14 refine s1_ ?_
  refine cT_ ?_
  iterate 9 refine s1_ ?_
  refine ⟨_,S,⟨_,_,rfl,⟨_,_,rfl,⟨_,_,rfl,rfl,rfl⟩,rfl⟩,rfl⟩,less_,?_⟩
  exact ⟨rfl,rfl⟩
theorem knows_snd {S:Mem} {b o:Nat} {u v:Value} (h:S.Knows ⟨b,o,none⟩ [u,v]):S.Knows ⟨b,o+1,none⟩ [v]:=fun w hv j x hj=>by
 cases j with
 | zero =>
  have:=h w hv 1 v rfl
  simp only [List.getElem?_cons_zero,Option.some.injEq] at hj
  subst hj
  rw [addr_add] at this ⊢
  exact this
 | succ j=>simp at hj
theorem rec_name (s n:ByteArray) (x:ByteArray) (kb:Nat) (S:Mem) (hk:S.Knows ⟨kb,0,none⟩ [.string s]) :
  ACall Tryz.prog 108 #[.agg #[.string n,.string x],.pointer (some ⟨kb,0,none⟩)] S fun r S'=>r = .bool (decide (n=s))∧S'=S:=by
 refine k_E2 (rs:=[.tmp 3]) 8 Tryz.func108 rfl rfl rfl ?_
 iterate 2 refine s1_ ?_
 refine ARun.boxA (cs:=[_,_]) (lit_lt rfl) rfl ?_
 intro b2 f2
 have g2:=f2
 repeat ((with_reducible replace g2:=fresh_set g2);obtain ⟨g2,_⟩:=g2)
 refine nl_ ?_
 iterate 13 refine s1_ ?_
 refine ⟨_,S,⟨_,_,rfl,rfl,rfl⟩,less_,?_⟩
 exact ⟨rfl,rfl⟩
theorem rec_index (v:Value) (l:List Ext) (s:ByteArray) (kb:Nat) (S:Mem) (hl:Sl 2 extF S v l) (hk:S.Knows ⟨kb,0,none⟩ [.string s]) (x:Ext) (hx:x ∈ l) (hxs:x.1=s) (ha:Asc l) :
  ACall Tryz.prog 90 #[v,.func (.func 108) #[] #[.pointer (some ⟨kb,0,none⟩)]] S fun r S'=>(∃ j,∃ h:j<l.length,r = .int .i64 (j:Int)∧l[j]=x)∧S'=S:=by
 obtain ⟨a,cap,rfl,h1,h2,h3⟩:=id hl
 refine k_E2 (rs:=[.tmp 4]) 19 Tryz.func90 rfl rfl rfl ?_
 iterate 14 refine s1_ ?_
 refine AWP.loop (X:=Nat) (fun i=>[(0,.slice a l.length cap),(1,.func (.func 108) #[] #[.pointer (some ⟨kb,0,none⟩)]),(7,.int .i64 l.length),(8,.int .i64 i)]) (fun i=>S) (fun i=>i≤l.length ∧ ∀ j (h:j<l.length),j<i→l[j].1≠s) (fun i=>l.length-i) (0) ⟨rfl,rfl,rfl,rfl,trivial⟩ (Mem.Less.refl _) (⟨Nat.zero_le _,fun j _ h=>absurd h (Nat.not_lt_zero _)⟩) ?_
 rintro i ⟨hi,hall⟩
 (try dsimp only at *)
 obtain ⟨j0,hj0,e0⟩:=List.getElem_of_mem hx
 have hc:i<l.length:=by rcases Nat.lt_or_ge i l.length with h | h;exact h;exact absurd (by rw [e0];exact hxs) (hall j0 hj0 (by omega))
 iterate 6 refine s1_ ?_
 refine cT_ ?_
 obtain ⟨b,off,rfl,hkk⟩:=h3.resolve_left (fun e=>by subst e;simp at hc)
 have hki:=hkk i hc
 unfold extF at hki
 iterate 17 refine s1_ ?_
 refine ARun.callV (lit_lt rfl) go_108 rfl rfl (rec_name s l[i].1 l[i].2 kb _ hk) ?_
 rintro _ S1 ⟨rfl,h1⟩
 rw [h1];clear h1 S1
 iterate 2 refine s1_ ?_
 refine AWP.condB rfl (fun hb=>?_) (fun hb=>?_)
 ·have hb:=of_decide_eq_true hb
  iterate 12 refine s1_ ?_
  refine ⟨_,S,⟨_,_,rfl,rfl,rfl⟩,less_,?_⟩
  exact ⟨⟨i,hc,rfl,by have e1:=exOf_mem ha (List.getElem_mem hc);have e2:=exOf_mem ha hx;rw [← e1,← e2,hb,hxs]⟩,rfl⟩
 ·have hb:=of_decide_eq_false hb
  iterate 8 refine s1_ ?_
  refine ⟨i+1,?_,?_,?_,?_⟩
  all_goals (try dsimp only)
  ·exact ⟨rfl,rfl,rfl,rfl,trivial⟩
  ·exact less_
  ·exact ⟨hc,fun j h hj=>by rcases Nat.lt_or_ge j i with h' | h';exact hall j h h';obtain rfl:j=i:=(by omega);exact hb⟩
  ·omega
end Rec
end
section
open Go.RowKit
open Mv Num
set_option maxRecDepth 4000
theorem numV_isNaN (x:Nat) (S:Mem):ACall Tryz.prog 111 #[.int .u64 x] S fun r S'=>r = .bool false∧S'=S:=by
 refine k_E1 (rs:=[.tmp 2]) 6 Tryz.func111 rfl rfl rfl ?_
 iterate 14 refine s1_ ?_
 refine ⟨_,S,⟨_,_,rfl,rfl,rfl⟩,less_,?_⟩
 exact ⟨rfl,rfl⟩
theorem numV_cmp (x y:Nat) (S:Mem):ACall Tryz.prog 70 #[.int .u64 x,.int .u64 y] S fun r S'=>r = .int .i64 (if x<y then -1 else if y<x then 1 else 0)∧S'=S:=by
 refine k_E2 (rs:=[.tmp 4]) 20 Tryz.func70 rfl rfl rfl ?_
 iterate 8 refine s1_ ?_
 refine ca_ rfl (numV_isNaN x S) ?_
 rintro _ S1 ⟨rfl,h1⟩
 rw [h1];clear h1 S1
 iterate 6 refine s1_ ?_
 refine ca_ rfl (numV_isNaN y S) ?_
 rintro _ S1 ⟨rfl,h1⟩
 rw [h1];clear h1 S1
 iterate 9 refine s1_ ?_
 refine cF_ ?_
 iterate 8 refine s1_ ?_
 refine cF_ ?_
 by_cases c1:x<y
 ·iterate 10 refine s1_ ?_
  refine cT_ ?_
  iterate 7 refine s1_ ?_
  refine ⟨_,S,⟨_,_,rfl,rfl,rfl⟩,less_,?_⟩
  exact ⟨by rw [if_pos c1];rfl,rfl⟩
 ·iterate 10 refine s1_ ?_
  refine cF_ ?_
  by_cases c2:y<x
  ·iterate 10 refine s1_ ?_
   refine k_v9 0 1 4 5 6 11 13 16 19 ?_
   refine cT_ ?_
   iterate 7 refine s1_ ?_
   refine ⟨_,S,⟨_,_,rfl,rfl,rfl⟩,less_,?_⟩
   exact ⟨by rw [if_neg c1,if_pos c2];rfl,rfl⟩
  ·iterate 10 refine s1_ ?_
   refine cF_ ?_
   iterate 8 refine s1_ ?_
   refine ⟨_,S,⟨_,_,rfl,rfl,rfl⟩,less_,?_⟩
   exact ⟨by rw [if_neg c1,if_neg c2];rfl,rfl⟩
set_option maxHeartbeats 1000000 in
theorem numV_Compare (a b:List Nat) (va vb:Value) (S:Mem) (ha:Sl 1 u64s S va a) (hb:Sl 1 u64s S vb b) :
  ACall Tryz.prog 31 #[va,vb] S fun r S'=>r = .int .i64 (cmpB a b)∧S'=S:=by
 obtain ⟨pa,ca,rfl,ha1,ha2,ha3⟩:=ha
 obtain ⟨pb,cb,rfl,hb1,hb2,hb3⟩:=hb
 refine k_E2 (rs:=[.tmp 4]) 36 Tryz.func31 rfl rfl rfl ?_
 iterate 14 refine s1_ ?_
 refine AWP.loop (X:=Nat) (fun x=>[(0,.slice pa a.length ca),(1,.slice pb b.length cb),(9,.slice pa a.length ca),(10,.int .i64 a.length),(11,.int .i64 x)]) (fun x=>S) (fun x=>x≤a.length∧x≤b.length∧cmpB (a.drop x) (b.drop x)=cmpB a b) (fun x=>a.length-x) (0) ⟨rfl,rfl,rfl,rfl,rfl,trivial⟩ (Mem.Less.refl _) (⟨Nat.zero_le _,Nat.zero_le _,rfl⟩) ?_
 rintro i ⟨hi1,hi2,hq⟩
 (try dsimp only at *)
 iterate 6 refine s1_ ?_
 refine AWP.condB rfl (fun hl=>?_) (fun hl=>?_)
 ·have hl:i<a.length:=by have:=of_decide_eq_true hl;omega
  rw [List.drop_eq_getElem_cons hl] at hq
  obtain ⟨b0,off,rfl,hkn⟩:=ha3.resolve_left (by intro h;rw [h] at hl;exact absurd hl (Nat.not_lt_zero _))
  have hkk:=hkn i hl
  by_cases hlb:i<b.length
  ·iterate 13 refine s1_ ?_
   iterate 9 refine s1_ ?_
   refine cF_ ?_
   rw [List.drop_eq_getElem_cons hlb,cmpB] at hq
   obtain ⟨b1,off1,rfl,hkn1⟩:=hb3.resolve_left (by intro h;rw [h] at hlb;exact absurd hlb (Nat.not_lt_zero _))
   have hkk1:=hkn1 i hlb
   iterate 15 refine s1_ ?_
   refine ca_ rfl (numV_cmp a[i] b[i] S) ?_
   rintro _ S1 ⟨rfl,h1⟩
   rw [h1];clear h1 S1
   iterate 3 refine s1_ ?_
   by_cases c1:a[i]<b[i]
   ·rw [if_pos c1] at hq ⊢
    iterate 6 refine s1_ ?_
    refine k_v12 0 1 9 10 11 12 5 6 19 7 8 28 ?_
    refine cT_ ?_
    iterate 12 refine s1_ ?_
    refine ⟨_,S,⟨_,_,rfl,rfl,rfl⟩,less_,?_⟩
    exact ⟨by rw [← hq];rfl,rfl⟩
   ·rw [if_neg c1] at hq ⊢
    by_cases c2:b[i]<a[i]
    ·rw [if_pos c2] at hq ⊢
     iterate 6 refine s1_ ?_
     refine cT_ ?_
     iterate 12 refine s1_ ?_
     refine ⟨_,S,⟨_,_,rfl,rfl,rfl⟩,less_,?_⟩
     exact ⟨by rw [← hq];rfl,rfl⟩
    ·rw [if_neg c2] at hq ⊢
     iterate 6 refine s1_ ?_
     refine cF_ ?_
     iterate 8 refine s1_ ?_
     refine ⟨i+1,?_,?_,?_,?_⟩
     all_goals (try dsimp only)
     ·exact ⟨rfl,rfl,rfl,rfl,rfl,trivial⟩
     ·exact Mem.Less.refl _
     ·exact ⟨hl,hlb,hq⟩
     ·omega
  ·iterate 13 refine s1_ ?_
   refine k_v8 0 1 9 10 11 12 5 6 ?_
   iterate 9 refine s1_ ?_
   refine cT_ ?_
   rw [List.drop_of_length_le (show b.length≤i by omega)] at hq
   iterate 12 refine s1_ ?_
   refine ⟨_,S,⟨_,_,rfl,rfl,rfl⟩,less_,?_⟩
   exact ⟨by rw [← hq];rfl,rfl⟩
 ·have hl:i=a.length:=by have:=of_decide_eq_false hl;omega
  rw [List.drop_of_length_le (show a.length≤i by omega)] at hq
  by_cases hlb:i<b.length
  ·rw [List.drop_eq_getElem_cons hlb] at hq
   iterate 15 refine s1_ ?_
   refine cT_ ?_
   iterate 7 refine s1_ ?_
   refine ⟨_,S,⟨_,_,rfl,rfl,rfl⟩,less_,?_⟩
   exact ⟨by rw [← hq];rfl,rfl⟩
  ·rw [List.drop_of_length_le (show b.length≤i by omega)] at hq
   iterate 15 refine s1_ ?_
   refine cF_ ?_
   iterate 8 refine s1_ ?_
   refine ⟨_,S,⟨_,_,rfl,rfl,rfl⟩,less_,?_⟩
   exact ⟨by rw [← hq];rfl,rfl⟩
theorem numV_Less (a b:List Nat) (va vb:Value) (S:Mem) (ha:Sl 1 u64s S va a) (hb:Sl 1 u64s S vb b) :
  ACall Tryz.prog 12 #[va,vb] S fun r S'=>r = .bool (lessB a b)∧S'=S:=by
 have hq:=cmpB_lt a b
 refine k_E2 (rs:=[.tmp 4]) 9 Tryz.func12 rfl rfl rfl ?_
 iterate 9 refine s1_ ?_
 refine ca_ rfl (numV_Compare a b va vb S ha hb) ?_
 rintro _ S1 ⟨rfl,h1⟩
 rw [h1];clear h1 S1
 refine rC (Calm.bin rfl rfl (bin_bool (bin_lss _ _) hq)) ?_
 iterate 4 refine s1_ ?_
 refine ⟨_,S,⟨_,_,rfl,rfl,rfl⟩,less_,?_⟩
 exact ⟨rfl,rfl⟩
end
section
open Go.RowKit
open Mv Num
set_option maxRecDepth 4000
namespace Num
end Num
namespace Num
theorem bs_drop (s:ByteArray) (i:Nat):s.extract i s.size=bs (s.data.toList.drop i):=by
 apply str_ext;rw [data_extract,bs_data,List.take_of_length_le (by rw [size_data];exact Nat.le_refl _)]
end Num
end
section
open Go.RowKit
open Mv Num
set_option maxRecDepth 4000
def SplitR (s:ByteArray) (w:Int) (S:Mem) (r:Value) (S':Mem):Prop:=∃ v,r = .tuple #[v,.int .i64 (splitE s w)]∧S.Less S'∧SlOf RowR S' v (splitL s w)
theorem splitE_1 (s:ByteArray) (w:Int) (h:w<1∨8<w):splitE s w=1∧splitL s w = []:=by
 have:splitE s w=1:=by unfold splitE;rw [if_pos h]
 exact ⟨this,by unfold splitL;rw [this];rfl⟩
theorem splitE_5 (s:ByteArray) (w:Int) (h : ¬ (w<1∨8<w)) (h2:s.size % (5*w.toNat)≠0):splitE s w=5∧splitL s w = []:=by
 have:splitE s w=5:=by unfold splitE;rw [if_neg h,if_pos h2]
 exact ⟨this,by unfold splitL;rw [this];rfl⟩
theorem splitE_0 (s:ByteArray) (w:Int) (h : ¬ (w<1∨8<w)) (h2:s.size % (5*w.toNat)=0):splitE s w=0∧splitL s w=rowsTo s.data.toList w.toNat (s.size / (5*w.toNat)):=by
 have:splitE s w=0:=by unfold splitE;rw [if_neg h,if_neg (by omega)]
 exact ⟨this,by unfold splitL;rw [this,if_pos rfl,rowsOf,size_data]⟩
def rowZ (l:List UInt8) (w p j:Nat):List Value:=(nrow l j p).map (fun n:Nat=>Value.int .u64 (n:Int)) ++ List.replicate (w-j) (.int .u64 0)
theorem nrow_length (l:List UInt8) (w p:Nat):(nrow l w p).length=w:=by simp [nrow]
theorem nrow_succ (l:List UInt8) (w p:Nat):nrow l (w+1) p=nrow l w p ++ [ofB ((l.drop (p+5*w)).take 5)]:=by simp [nrow,List.range_succ]
theorem rowZ_length (l:List UInt8) (w p j:Nat) (h:j≤w):(rowZ l w p j).length=w:=by simp [rowZ,nrow_length];omega
theorem rowZ_set (l:List UInt8) (w p j:Nat) (h:j<w):(rowZ l w p j).set j (.int .u64 (ofB ((l.drop (p+5*j)).take 5):Nat))=rowZ l w p (j+1):=by
 unfold rowZ
 obtain ⟨m,hm⟩ : ∃ m,w-j=m+1:=⟨w-j-1,by omega⟩
 rw [hm,List.set_append_right _ _ (by simp [nrow_length]),List.replicate_succ]
 simp only [List.length_map,nrow_length,Nat.sub_self,List.set_cons_zero,nrow_succ,List.map_append,List.append_assoc,show w-(j+1)=m from by omega]
 rfl
theorem rowZ_full (l:List UInt8) (w p:Nat):rowZ l w p w=(nrow l w p).map (fun n:Nat=>Value.int .u64 (n:Int)):=by simp [rowZ]
theorem rowZ_zero (l:List UInt8) (w p:Nat):rowZ l w p 0=List.replicate w (.int .u64 0):=by simp [rowZ,nrow]
theorem bs_extract (l:List UInt8) (j:Nat):(bs l).extract j (bs l).size=bs (l.drop j):=by rw [bs_drop,bs_data]
set_option maxHeartbeats 4000000 in
theorem numV_Split (s:ByteArray) (w:Int) (S:Mem) (hs:s.size≤16777216) :
  ACall Tryz.prog 30 #[.string s,.int .i64 w] S (SplitR s w S):=by
 have hsz:=size_list s
 by_cases c1:w<1
 ·obtain ⟨q1,q2⟩:=splitE_1 s w (.inl c1)
  refine k_E2 (rs:=[.tmp 4,.tmp 5]) 50 Tryz.func30 rfl rfl rfl ?_
  iterate 19 refine s1_ ?_
  refine cT_ ?_
  iterate 9 refine s1_ ?_
  refine ⟨_,S,⟨_,_,rfl,⟨_,_,rfl,rfl,rfl⟩,rfl⟩,less_,?_⟩
  exact ⟨_,by rw [q1];rfl,Mem.Less.refl _,by rw [q2];exact SlOf.nil _ _⟩
 by_cases c2:8<w
 ·obtain ⟨q1,q2⟩:=splitE_1 s w (.inr c2)
  refine k_E2 (rs:=[.tmp 4,.tmp 5]) 50 Tryz.func30 rfl rfl rfl ?_
  iterate 19 refine s1_ ?_
  refine cT_ ?_
  iterate 9 refine s1_ ?_
  refine ⟨_,S,⟨_,_,rfl,⟨_,_,rfl,rfl,rfl⟩,rfl⟩,less_,?_⟩
  exact ⟨_,by rw [q1];rfl,Mem.Less.refl _,by rw [q2];exact SlOf.nil _ _⟩
 obtain ⟨W,rfl⟩ : ∃ W:Nat,w=W:=⟨w.toNat,by omega⟩
 by_cases c3:s.size % (5*W)=0
 ·obtain ⟨q1,q2⟩:=splitE_0 s W (by omega) c3
  rw [Int.toNat_natCast] at q2
  obtain ⟨B,hB⟩ : ∃ B,B=5*W:=⟨_,rfl⟩
  rw [← hB] at c3 q2
  obtain ⟨Q,hQ⟩ : ∃ Q,Q=s.size / B:=⟨_,rfl⟩
  have hQB:s.size=Q*B:=by rw [hQ,Nat.mul_comm];have:=Nat.div_add_mod s.size B;omega
  rw [← hQ] at q2
  have hc3:((s.size:Int) % (5*(W:Int)))=0:=by rw [show (5*(W:Int))=((B:Nat):Int) from by omega,← Int.natCast_emod,c3];rfl
  refine k_E2 (rs:=[.tmp 4,.tmp 5]) 50 Tryz.func30 rfl rfl rfl ?_
  iterate 19 refine s1_ ?_
  refine cF_ ?_
  iterate 7 refine s1_ ?_
  refine rC (Calm.bin rfl rfl (bin_bool (bin_neq _ _) (bnot_dec_false hc3))) ?_
  iterate 3 refine s1_ ?_
  refine cF_ ?_
  iterate 10 refine s1_ ?_
  refine AWP.loop (X:=Nat × Mem × Option (Nat × Nat) × List Value) (fun x=>[(0,.string (bs (s.data.toList.drop (x.1*B)))),(1,.int .i64 W),(6,outV x.2.2.1 x.2.2.2.length)]) (fun x=>outM x.2.1 x.2.2.1 46 x.2.2.2) (fun x=>x.1≤Q∧x.2.2.2.length=x.1∧GrowI RowR S x.2.1 x.2.2.1 x.2.2.2 (rowsTo s.data.toList W x.1)) (fun x=>Q-x.1) ((0,S,none,[])) ⟨by rw [Nat.zero_mul,List.drop_zero,bs_of];rfl,rfl,rfl,trivial⟩ (Mem.Less.refl _) (⟨Nat.zero_le _,rfl,GrowI.nil _ _⟩) ?_
  rintro ⟨k,M,o,hs⟩ ⟨hk,hkl,hI⟩
  (try dsimp only at *)
  have hkQ:k*B≤Q*B:=Nat.mul_le_mul_right _ hk
  have hk5:k*5≤k*B:=Nat.mul_le_mul_left _ (by omega)
  have hlen:(s.data.toList.drop (k*B)).length=s.size-k*B:=by rw [List.length_drop];omega
  obtain ⟨R,hR⟩ : ∃ R,R=s.data.toList.drop (k*B):=⟨_,rfl⟩
  rw [← hR] at hlen ⊢
  have hRs:=bs_size R
  by_cases hl:k<Q
  ·have hkB:(k+1)*B≤Q*B:=Nat.mul_le_mul_right _ hl
   rw [Nat.succ_mul] at hkB
   iterate 4 refine s1_ ?_
   refine rC (Calm.bin rfl rfl (bin_bool (bin_str_neq _ _) (bnot_dec_true (fun e=>by have h0:R.length=0:=(by rw [← bs_size R,e];rfl);omega)))) ?_
   iterate 2 refine s1_ ?_
   refine k_v4 0 1 6 24 ?_
   refine cT_ ?_
   iterate 7 refine s1_ ?_
   refine ARun.makeSlice (lit_lt rfl) ty_sl_46 rfl rfl (by omega) (by omega) (by omega) (by omega) ?_
   intro b30 f30
   have g30:=f30
   repeat ((with_reducible replace g30:=fresh_set g30);obtain ⟨g30,_⟩:=g30)
   iterate 3 refine s1_ ?_
   simp only [Nat.mul_one,madeL_one,Int.toNat_natCast]
   obtain ⟨hfM,hnq⟩:=fresh_outM f30
   iterate 9 refine s1_ ?_
   refine AWP.loop (X:=Nat) (fun x=>[(0,.string (bs R)),(1,.int .i64 W),(6,outV o hs.length),(7,.slice (some ⟨b30,0,none⟩) W W),(32,.int .i64 W),(33,.int .i64 x)]) (fun x=>(outM M o 46 hs).set b30 ⟨33,rowZ s.data.toList W (k*B) x,W⟩) (fun x=>x≤W) (fun x=>W-x) (0) ⟨rfl,rfl,rfl,rfl,rfl,rfl,trivial⟩ (by simp only [rowZ_zero];exact Mem.Less.refl _) (Nat.zero_le _) ?_
   rintro j hj
   (try dsimp only at *)
   iterate 6 refine s1_ ?_
   refine AWP.condB rfl (fun hjl=>?_) (fun hjl=>?_)
   ·have hjl:j<W:=by have:=of_decide_eq_true hjl;omega
    have hzl:=rowZ_length s.data.toList W (k*B) j hj
    have he:(bs R).extract (5*(j:Int)).toNat (bs R).size=bs (s.data.toList.drop (k*B+5*j)):=by rw [show (5*(j:Int)).toNat=5*j from by omega,bs_extract,hR,List.drop_drop]
    have hel:=bs_size (s.data.toList.drop (k*B+5*j))
    rw [List.length_drop] at hel
    iterate 16 refine s1_ ?_
    refine rC (Calm.as (congrArg Value.string he) (Calm.sliceStr (strT_spec ty_str_9) rfl (bnd_none _ _) (bnd_some _ _ rfl (by omega) (by omega)))) ?_
    refine ca_ rfl (numV_Of (bs (s.data.toList.drop (k*B+5*j))) _ (by omega) (by omega)) ?_
    rintro _ S1 ⟨rfl,h1⟩
    rw [h1,bs_data];clear h1 S1
    iterate 5 refine s1_ ?_
    simp only [Nat.zero_add,Nat.mul_one,Int.toNat_natCast,rowZ_set _ _ _ _ hjl]
    iterate 5 refine s1_ ?_
    refine ⟨j+1,?_,?_,?_,?_⟩
    all_goals (try dsimp only)
    ·exact ⟨rfl,rfl,rfl,rfl,rfl,rfl,trivial⟩
    ·exact Mem.Less.refl _
    ·exact hjl
    ·omega
   ·have hjl:j=W:=by have:=of_decide_eq_false hjl;omega
    subst hjl
    rw [rowZ_full]
    have hnr:=nrow_length s.data.toList j (k*B)
    rw [outM_set _ _ _ _ _ _ hnq]
    have ho1:=hI.ok.set (r:=⟨33,(nrow s.data.toList j (k*B)).map (fun n:Nat=>Value.int .u64 (n:Int)),j⟩) hnq
    have hr:=sl_u64 (S:=M.set b30 ⟨33,(nrow s.data.toList j (k*B)).map (fun n:Nat=>Value.int .u64 (n:Int)),j⟩) (cap:=j) (Mem.own_set_same _ _ _) hnr (Nat.le_refl _) (by omega)
    have hlm:=Mem.less_set M b30 ⟨33,(nrow s.data.toList j (k*B)).map (fun n:Nat=>Value.int .u64 (n:Int)),j⟩ hfM.1
    obtain ⟨M1,hM1⟩ : ∃ M1,M1=M.set b30 ⟨33,(nrow s.data.toList j (k*B)).map (fun n:Nat=>Value.int .u64 (n:Int)),j⟩:=⟨_,rfl⟩
    rw [← hM1] at ho1 hr hlm ⊢
    iterate 8 refine s1_ ?_
    refine ARun.build1s (lit_lt rfl) ty_sl_22 rfl rfl ?_
    intro b47 f47
    have g47:=f47
    repeat ((with_reducible replace g47:=fresh_set g47);obtain ⟨g47,_⟩:=g47)
    refine ARun.appendO (lit_lt rfl) ty_sl_22 rfl rfl (appO_of ho1 rfl g47) rfl (news:=[_]) rds_ rfl (by omega) (by simp [Value.oneCell']) (by omega) (by omega) ?_
    intro b48 c48 ho2
    have hI2:=hI.step rowR_less hlm hr ho2
    rw [show k*B=k*(5*j) from by rw [hB],← rowsTo_succ] at hI2
    have hst2:(bs R).extract (5*(j:Int)).toNat (bs R).size=bs (s.data.toList.drop ((k+1)*B)):=by rw [show (5*(j:Int)).toNat=B from by omega,bs_extract,hR,List.drop_drop,Nat.succ_mul]
    iterate 4 refine s1_ ?_
    refine k_v7 0 1 6 7 32 33 34 ?_
    iterate 4 refine s1_ ?_
    refine rC (Calm.as (congrArg Value.string hst2) (Calm.sliceStr (strT_spec ty_str_9) rfl (bnd_none _ _) (bnd_some _ _ rfl (by omega) (by omega)))) ?_
    iterate 3 refine s1_ ?_
    refine ⟨(k+1,M1,some (b48,c48),hs ++ [.slice (some ⟨b30,0,none⟩) j j]),?_,?_,?_,?_⟩
    all_goals (try dsimp only)
    ·exact ⟨rfl,rfl,by rw [List.length_append];rfl,trivial⟩
    ·exact Mem.Less.refl _
    ·exact ⟨hl,by rw [List.length_append,hkl];rfl,hI2⟩
    ·omega
  ·have hkQ2:k=Q:=by omega
   subst hkQ2
   have hR0:R = []:=List.eq_nil_of_length_eq_zero (by omega)
   iterate 4 refine s1_ ?_
   refine rC (Calm.bin rfl rfl (bin_bool (bin_str_neq _ _) (bnot_dec_false (by rw [hR0];rfl)))) ?_
   iterate 2 refine s1_ ?_
   refine cF_ ?_
   iterate 13 refine s1_ ?_
   refine ⟨_,_,⟨_,_,rfl,⟨_,_,rfl,rfl,rfl⟩,rfl⟩,less_,?_⟩
   exact ⟨_,by rw [q1];rfl,hI.less.trans (outM_over hI.ok),by rw [q2];exact hI.slOf rowR_less (by omega)⟩
 ·obtain ⟨q1,q2⟩:=splitE_5 s W (by omega) (by rw [Int.toNat_natCast];exact c3)
  have hc3 : ¬ ((s.size:Int) % (5*(W:Int)))=0:=by rw [show (5*(W:Int))=((5*W:Nat):Int) from by omega,← Int.natCast_emod];omega
  refine k_E2 (rs:=[.tmp 4,.tmp 5]) 50 Tryz.func30 rfl rfl rfl ?_
  iterate 19 refine s1_ ?_
  refine cF_ ?_
  iterate 7 refine s1_ ?_
  refine rC (Calm.bin rfl rfl (bin_bool (bin_neq _ _) (bnot_dec_true hc3))) ?_
  iterate 3 refine s1_ ?_
  refine cT_ ?_
  iterate 9 refine s1_ ?_
  refine ⟨_,S,⟨_,_,rfl,⟨_,_,rfl,rfl,rfl⟩,rfl⟩,less_,?_⟩
  exact ⟨_,by rw [q1];rfl,Mem.Less.refl _,by rw [q2];exact SlOf.nil _ _⟩
end
section
open Go.RowKit
open Mv Disk Num
set_option maxRecDepth 4000
namespace Rec
theorem form_le {s:ByteArray} (h:s.size=64):(formP s).1≤255∧(formP s).2.1<18446744073709551616∧((formP s).2.2=0→(formP s).1≤8):=by
 unfold formP
 by_cases q1:s.data.toList.take 2 ≠ [87,82]∨8<(s.data.toList.getD 2 0).toNat∨zeroL (s.data.toList.drop 12)=false
 ·rw [if_pos q1];exact ⟨by decide,by decide,fun h=>by simp at h⟩
 rw [if_neg q1]
 by_cases q2:(openS (s.extract 0 12)).2≠0
 ·rw [if_pos q2];exact ⟨Nat.zero_le _,Nat.lt_of_lt_of_le (Nat.zero_lt_succ 0) (by show 1≤18446744073709551616;decide),fun h=>absurd h q2⟩
 rw [if_neg q2]
 have h8:(s.data.toList.getD 2 0).toNat≤8:=by
  rcases Nat.lt_or_ge 8 (s.data.toList.getD 2 0).toNat with h | h
  ·exact absurd (.inr (.inl h)) q1
  ·exact h
 refine ⟨by show (s.data.toList.getD 2 0).toNat≤255;omega,?_,fun _=>h8⟩
 show ofB ((s.data.toList.drop 3).take 5)<_
 have:=ofB_lt ((s.data.toList.drop 3).take 5)
 have hl:((s.data.toList.drop 3).take 5).length=5:=by rw [List.length_take,List.length_drop,St.len_list,h];rfl
 rw [hl] at this
 omega
theorem need_iff {w c:Nat} (hw:w≤8):((needP (w:Int) c).2≠0 ↔ 65536<c)∧(c≤65536→needP (w:Int) c=(((needN w c:Nat):Int),0)):=by
 unfold needP
 by_cases h:65536<c
 ·rw [if_pos (by omega)];exact ⟨⟨fun _=>h,fun _=>by decide⟩,fun h'=>by omega⟩
 ·rw [if_neg (by omega),Int.toNat_natCast];exact ⟨⟨fun h'=>absurd rfl h',fun h'=>absurd h' h⟩,fun _=>rfl⟩
set_option maxHeartbeats 2000000 in
theorem rec_HeadAt (p:Nat) (d:D) (s:ByteArray) (M:Mem) (h:RdV M p d) (hR:Right d) :
  ACall Tryz.prog 65 #[.pointer (some ⟨p,0,none⟩),.string s] M fun r S'=>r=formV (headD d s)∧S'=M:=by
 have hread:=fun M h=>dev_Read p d s 0 M h hR
 unfold headD
 by_cases q1:(readD d s 0).2=0
 ·rw [if_neg (by omega)]
  obtain ⟨hpl,h64⟩:=readD_size hR q1
  obtain ⟨hhas,_,_⟩:=place0 hpl
  obtain ⟨hx,hxs⟩:=exOf_has hR.ex.asc hhas
  have hsec:=(eok_sec (hR.ex.ok _ hx)).2
  have hform:=fun M=>rec_form (readD d s 0).1 M h64
  obtain ⟨f1,f2,f3⟩:=form_le h64
  rw [show readD d s 0=((readD d s 0).1,0) from Prod.ext rfl q1] at hread
  generalize (readD d s 0).1=y at *
  rcases hf:formP y with ⟨w,c,e⟩
  rw [hf] at hform f1 f2 f3
  simp only [formV] at hform f1 f2 f3 ⊢
  by_cases q2:e=0
  ·subst q2
   rw [if_neg (by simp)]
   have f3:=f3 rfl
   have hneed:=fun M=>rec_Need (w:Int) c M
   obtain ⟨n1,n2⟩:=need_iff (c:=c) f3
   by_cases q3:65536<c
   ·have n1:=n1.2 q3
    rw [if_pos (.inl n1)]
    unfold needV at hneed
    generalize needP (w:Int) c=nn at *
    obtain ⟨qe,de,qw,dw,hp,hE,hW⟩:=id h
    have hidx:=fun M' kb hl hk=>rec_index (.slice qe d.ext.length de) d.ext s kb M' hl hk _ hx hxs hR.ex.asc
    refine k_E2 (rs:=[.tmp 4,.tmp 5,.tmp 6]) 63 Tryz.func65 rfl rfl rfl ?_
    iterate 2 refine s1_ ?_
    refine ARun.box1 (lit_lt rfl) rfl rfl ?_
    intro b3 f3
    have g3:=f3
    repeat ((with_reducible replace g3:=fresh_set g3);obtain ⟨g3,_⟩:=g3)
    have:=g3.ne hp;have:=g3.ne' hp
    refine nl_ ?_
    iterate 9 refine s1_ ?_
    refine ca_ rfl (hread _ (h.less less_)) ?_
    rintro _ S1 ⟨rfl,h1⟩
    rw [h1];clear h1 S1
    iterate 14 refine s1_ ?_
    refine cF_ ?_
    iterate 5 refine s1_ ?_
    refine ca_ rfl (hform _) ?_
    rintro _ S1 ⟨rfl,h1⟩
    rw [h1];clear h1 S1
    iterate 16 refine s1_ ?_
    refine cF_ ?_
    iterate 6 refine s1_ ?_
    refine ca_ rfl (hneed _) ?_
    rintro _ S1 ⟨rfl,h1⟩
    rw [h1];clear h1 S1
    iterate 7 refine s1_ ?_
    refine k_v13 0 1 3 4 5 6 7 8 20 9 10 29 11 ?_
    iterate 8 refine s1_ ?_
    refine ca_ rfl (hidx _ b3 (hE.less less_) (Mem.rds.knows rds_)) ?_
    rintro _ S1 ⟨⟨j,hj,rfl,hjx⟩,h1⟩
    rw [h1];clear h1 S1
    iterate 25 refine s1_ ?_
    refine cT_ ?_
    iterate 9 refine s1_ ?_
    refine ⟨_,M,⟨_,_,rfl,⟨_,_,rfl,⟨_,_,rfl,rfl,rfl⟩,rfl⟩,rfl⟩,less_,?_⟩
    exact ⟨rfl,rfl⟩
   ·have n2:=n2 (by omega)
    rw [n2] at hneed ⊢
    unfold needV at hneed
    have hnl:=needN_le f3 (by omega:c≤65536)
    generalize needN w c=n at *
    obtain ⟨qe,de,qw,dw,hp,hE,hW⟩:=id h
    have hidx:=fun M' kb hl hk=>rec_index (.slice qe d.ext.length de) d.ext s kb M' hl hk _ hx hxs hR.ex.asc
    have hlim:=(right_len hR).1
    have hus:=Nat.le_trans (used_mem hx) (right_len hR).2
    obtain ⟨ea,ec,heq,g1,g2,g3⟩:=id hE
    cases heq
    have hkE:=g3.resolve_left (fun e=>by rw [e] at hx;cases hx)
    obtain ⟨eb,eo,rfl,hkE⟩:=hkE
    generalize exOf d.ext s=x at *
    by_cases q4:sec x=n
    ·rw [if_neg (by omega)]
     refine k_E2 (rs:=[.tmp 4,.tmp 5,.tmp 6]) 63 Tryz.func65 rfl rfl rfl ?_
     iterate 2 refine s1_ ?_
     refine ARun.box1 (lit_lt rfl) rfl rfl ?_
     intro b3 f3
     have g3:=f3
     repeat ((with_reducible replace g3:=fresh_set g3);obtain ⟨g3,_⟩:=g3)
     have:=g3.ne hp;have:=g3.ne' hp
     refine nl_ ?_
     iterate 9 refine s1_ ?_
     refine ca_ rfl (hread _ (h.less less_)) ?_
     rintro _ S1 ⟨rfl,h1⟩
     rw [h1];clear h1 S1
     iterate 14 refine s1_ ?_
     refine cF_ ?_
     iterate 5 refine s1_ ?_
     refine ca_ rfl (hform _) ?_
     rintro _ S1 ⟨rfl,h1⟩
     rw [h1];clear h1 S1
     iterate 9 refine s1_ ?_
     refine k_v11 0 1 3 4 5 6 7 8 20 9 10 ?_
     iterate 7 refine s1_ ?_
     refine cF_ ?_
     iterate 6 refine s1_ ?_
     refine ca_ rfl (hneed _) ?_
     rintro _ S1 ⟨rfl,h1⟩
     rw [h1];clear h1 S1
     iterate 15 refine s1_ ?_
     refine ca_ rfl (hidx _ b3 (hE.less less_) (Mem.rds.knows rds_)) ?_
     rintro _ S1 ⟨⟨j,hj,rfl,hjx⟩,h1⟩
     rw [h1];clear h1 S1
     have hkj:=knows_snd (hkE j hj)
     rw [hjx] at hkj
     rw [show eo+j*2+1=eo+(j:Int).toNat*2+1 from by rw [Int.toNat_natCast]] at hkj
     iterate 25 refine s1_ ?_
     refine cF_ ?_
     iterate 11 refine s1_ ?_
     refine k_v15 0 1 3 4 5 6 7 8 20 9 10 29 11 12 60 ?_
     refine s1_ ?_
     refine ⟨_,M,⟨_,_,rfl,⟨_,_,rfl,⟨_,_,rfl,rfl,rfl⟩,rfl⟩,rfl⟩,less_,?_⟩
     exact ⟨rfl,rfl⟩
    ·rw [if_pos (by right;show ((sec x:Nat):Int)≠_;omega)]
     refine k_E2 (rs:=[.tmp 4,.tmp 5,.tmp 6]) 63 Tryz.func65 rfl rfl rfl ?_
     iterate 2 refine s1_ ?_
     refine ARun.box1 (lit_lt rfl) rfl rfl ?_
     intro b3 f3
     have g3:=f3
     repeat ((with_reducible replace g3:=fresh_set g3);obtain ⟨g3,_⟩:=g3)
     have:=g3.ne hp;have:=g3.ne' hp
     refine nl_ ?_
     iterate 9 refine s1_ ?_
     refine ca_ rfl (hread _ (h.less less_)) ?_
     rintro _ S1 ⟨rfl,h1⟩
     rw [h1];clear h1 S1
     iterate 14 refine s1_ ?_
     refine cF_ ?_
     iterate 5 refine s1_ ?_
     refine ca_ rfl (hform _) ?_
     rintro _ S1 ⟨rfl,h1⟩
     rw [h1];clear h1 S1
     iterate 16 refine s1_ ?_
     refine cF_ ?_
     iterate 6 refine s1_ ?_
     refine ca_ rfl (hneed _) ?_
     rintro _ S1 ⟨rfl,h1⟩
     rw [h1];clear h1 S1
     iterate 7 refine s1_ ?_
     refine k_v13 0 1 3 4 5 6 7 8 20 9 10 29 11 ?_
     iterate 8 refine s1_ ?_
     refine ca_ rfl (hidx _ b3 (hE.less less_) (Mem.rds.knows rds_)) ?_
     rintro _ S1 ⟨⟨j,hj,rfl,hjx⟩,h1⟩
     rw [h1];clear h1 S1
     have hkj:=knows_snd (hkE j hj)
     rw [hjx] at hkj
     rw [show eo+j*2+1=eo+(j:Int).toNat*2+1 from by rw [Int.toNat_natCast]] at hkj
     iterate 25 refine s1_ ?_
     refine cT_ ?_
     iterate 9 refine s1_ ?_
     refine ⟨_,M,⟨_,_,rfl,⟨_,_,rfl,⟨_,_,rfl,rfl,rfl⟩,rfl⟩,rfl⟩,less_,?_⟩
     exact ⟨rfl,rfl⟩
  ·rw [if_pos q2]
   obtain ⟨qe,de,qw,dw,hp,hE,hW⟩:=id h
   refine k_E2 (rs:=[.tmp 4,.tmp 5,.tmp 6]) 63 Tryz.func65 rfl rfl rfl ?_
   iterate 2 refine s1_ ?_
   refine ARun.box1 (lit_lt rfl) rfl rfl ?_
   intro b3 f3
   have g3:=f3
   repeat ((with_reducible replace g3:=fresh_set g3);obtain ⟨g3,_⟩:=g3)
   have:=g3.ne hp;have:=g3.ne' hp
   refine nl_ ?_
   iterate 9 refine s1_ ?_
   refine ca_ rfl (hread _ (h.less less_)) ?_
   rintro _ S1 ⟨rfl,h1⟩
   rw [h1];clear h1 S1
   iterate 14 refine s1_ ?_
   refine cF_ ?_
   iterate 5 refine s1_ ?_
   refine ca_ rfl (hform _) ?_
   rintro _ S1 ⟨rfl,h1⟩
   rw [h1];clear h1 S1
   iterate 9 refine s1_ ?_
   refine k_v11 0 1 3 4 5 6 7 8 20 9 10 ?_
   iterate 7 refine s1_ ?_
   refine cT_ ?_
   iterate 10 refine s1_ ?_
   refine ⟨_,M,⟨_,_,rfl,⟨_,_,rfl,⟨_,_,rfl,rfl,rfl⟩,rfl⟩,rfl⟩,less_,?_⟩
   exact ⟨rfl,rfl⟩
 ·rw [if_pos q1]
  obtain ⟨qe,de,qw,dw,hp,hE,hW⟩:=id h
  refine k_E2 (rs:=[.tmp 4,.tmp 5,.tmp 6]) 63 Tryz.func65 rfl rfl rfl ?_
  iterate 2 refine s1_ ?_
  refine ARun.box1 (lit_lt rfl) rfl rfl ?_
  intro b3 f3
  have g3:=f3
  repeat ((with_reducible replace g3:=fresh_set g3);obtain ⟨g3,_⟩:=g3)
  have:=g3.ne hp;have:=g3.ne' hp
  refine nl_ ?_
  iterate 9 refine s1_ ?_
  refine ca_ rfl (hread _ (h.less less_)) ?_
  rintro _ S1 ⟨rfl,h1⟩
  rw [h1];clear h1 S1
  iterate 14 refine s1_ ?_
  refine cT_ ?_
  iterate 8 refine s1_ ?_
  refine k_v9 0 1 3 4 5 6 7 8 20 ?_
  iterate 2 refine s1_ ?_
  refine ⟨_,M,⟨_,_,rfl,⟨_,_,rfl,⟨_,_,rfl,rfl,rfl⟩,rfl⟩,rfl⟩,less_,?_⟩
  exact ⟨rfl,rfl⟩
end Rec
end
section
open Go.RowKit
open Mv Disk Num
set_option maxRecDepth 4000
namespace Rec
theorem head_ok {d:D} {s:ByteArray} (hR:Right d) {w c:Nat} (h:headD d s=(w,c,0)) :
  has d.ext s=true∧w≤8∧c≤65536∧sec (exOf d.ext s)=needN w c:=by
 unfold headD at h
 by_cases q1:(readD d s 0).2=0
 ·rw [if_neg (by omega)] at h
  obtain ⟨hpl,h64⟩:=readD_size hR q1
  by_cases q2:(formP (readD d s 0).1).2.2=0
  ·rw [if_neg (by omega)] at h
   obtain ⟨f1,f2,f3⟩:=form_le h64
   split at h
   ·cases h
   ·rename_i q3
    rw [h] at q3 f3
    obtain ⟨n1,n2⟩:=need_iff (c:=c) (f3 rfl)
    refine ⟨(place0 hpl).1,f3 rfl,?_,?_⟩
    ·rcases Nat.lt_or_ge 65536 c with hc | hc
     ·exact absurd (.inl (n1.2 hc)) q3
     ·exact hc
    ·have q3:=not_or.1 q3
     have q4:((sec (exOf d.ext s):Nat):Int)=((needN w c:Nat):Int):=by
      by_cases q:((sec (exOf d.ext s):Nat):Int)=((needN w c:Nat):Int)
      ·exact q
      ·exact absurd q q3.2
     omega
  ·rw [if_pos q2] at h
   have:=congrArg (fun p=>p.2.2) h
   exact absurd this q2
 ·rw [if_pos q1] at h
  have:=congrArg (fun p=>p.2.2) h
  exact absurd this q1
theorem readD_in {d:D} {s:ByteArray} (hR:Right d) {n:Nat} (h1:has d.ext s=true) (h2:sec (exOf d.ext s)=n) {i:Nat} (hi:i<n):(readD d s (i:Int)).2=0∧(readD d s (i:Int)).1.size=64:=by
 have hp:(placeD d s (i:Int)).2=0:=by unfold placeD;rw [if_pos h1,if_neg (by rw [h2];omega)]
 have h0:(readD d s (i:Int)).2=0:=by rw [readD_see,if_neg (by simpa using hp)]
 exact ⟨h0,(readD_size hR h0).2⟩
theorem bodyL_len {d:D} {s:ByteArray} (hR:Right d) (ho:(openD d).2=0) {n:Nat} (h1:has d.ext s=true) (h2:sec (exOf d.ext s)=n):∀ k,k+1≤n→(bodyL d s k).length=64*k
 | 0,_=>rfl
 | k+1,h=>by
  unfold bodyL
  rw [List.length_append,bodyL_len hR ho h1 h2 k (by omega),readO_open ho,St.len_list,(readD_in hR h1 h2 (i:=k+1) (by omega)).2];omega
def bodyV (p:Nat × ByteArray × Int):Value:=.tuple #[.int .i64 (p.1:Nat),.string p.2.1,.int .i64 p.2.2]
set_option maxHeartbeats 4000000 in
theorem rec_body (v:Value) (d:D) (s:ByteArray) (text:Bool) (S:Mem) (hd:DkR S v d) (hz:Dz d) :
  ACall Tryz.prog 29 #[v,.string s,.bool text] S fun r S'=>r=bodyV (bodyP d s text)∧S'=S:=by
 have hopen:=disk_Open v d S hd hz
 obtain ⟨pe,ce,pw,cw,rfl,hE,hW⟩:=id hd
 unfold bodyP
 have hsh:=headP_shut (d:=d) (s:=s)
 have hop:=headP_open (d:=d) (s:=s)
 have ho2:=fun h=>@bodyL_len d s h
 have hro:=@readO_open d
 rcases openD_or d with ⟨ho,hR⟩ | ⟨ho,hR,hdn⟩ | ⟨ho,hR,hdn⟩ <;> rw [ho] at hopen hsh hop ho2 hro
 ·rw [hsh (by simp),if_pos (by simp)]
  refine k_E3 (rs:=[.tmp 6,.tmp 7,.tmp 8]) 78 Tryz.func29 rfl rfl rfl ?_
  iterate 2 refine s1_ ?_
  refine k_b5 rfl ?_
  intro b3 f3
  have g3:=f3
  repeat ((with_reducible replace g3:=fresh_set g3);obtain ⟨g3,_⟩:=g3)
  refine nl_ ?_
  iterate 8 refine s1_ ?_
  refine ca_ rfl (hopen.frame f3) ?_
  rintro _ S1 ⟨M,⟨p,oE,oW,hok,rfl,hM⟩,f1',h1⟩
  rw [h1];clear h1 S1
  have hSM:S.Less M:=by rw [hM];exact hok.less
  iterate 14 refine s1_ ?_
  refine cT_ ?_
  iterate 10 refine s1_ ?_
  refine ⟨_,S,⟨_,_,rfl,⟨_,_,rfl,⟨_,_,rfl,rfl,rfl⟩,rfl⟩,rfl⟩,less_,?_⟩
  exact ⟨rfl,rfl⟩
 ·rw [hsh (by simp),if_pos (by simp)]
  refine k_E3 (rs:=[.tmp 6,.tmp 7,.tmp 8]) 78 Tryz.func29 rfl rfl rfl ?_
  iterate 2 refine s1_ ?_
  refine k_b5 rfl ?_
  intro b3 f3
  have g3:=f3
  repeat ((with_reducible replace g3:=fresh_set g3);obtain ⟨g3,_⟩:=g3)
  refine nl_ ?_
  iterate 8 refine s1_ ?_
  refine ca_ rfl (hopen.frame f3) ?_
  rintro _ S1 ⟨M,⟨p,oE,oW,hok,rfl,hM⟩,f1',h1⟩
  rw [h1];clear h1 S1
  have hSM:S.Less M:=by rw [hM];exact hok.less
  iterate 14 refine s1_ ?_
  refine k_v10 0 1 2 3 6 7 8 9 10 26 ?_
  refine cT_ ?_
  iterate 10 refine s1_ ?_
  refine ⟨_,S,⟨_,_,rfl,⟨_,_,rfl,⟨_,_,rfl,rfl,rfl⟩,rfl⟩,rfl⟩,less_,?_⟩
  exact ⟨rfl,rfl⟩
 rw [hop rfl]
 have hhead:=fun p M h=>rec_HeadAt p d s M h hR
 have hhk:=@head_ok d s hR
 rcases hw:headD d s with ⟨w,c,e⟩
 rw [hw] at hhead
 simp only [formV] at hhead
 by_cases he:e=0
 ·subst he
  rw [if_neg (by simp)]
  obtain ⟨k1,k2,k3,k4⟩:=hhk hw
  have hrin:=fun i=>@readD_in d s hR (needN w c) k1 k4 i
  have hbl:=ho2 hR rfl k1 k4
  have hneed:=fun M=>rec_Need (w:Int) c M
  rw [(need_iff k2).2 k3] at hneed
  simp only [needV] at hneed
  have heach:=fun M=>rec_each w M k2
  obtain ⟨m1,m2,m3⟩:=mul_le_each k2 k3
  have hn1:=needN_pos w c
  have hn2:=needN_le k2 k3
  have hnn:eachN w*c≤64*(needN w c-1):=by unfold needN;omega
  have hbs:∀ k,bodyL d s (k+1)=bodyL d s k ++ (readD d s ((k+1:Nat):Int)).1.data.toList:=fun k=>by rw [bodyL,hro rfl]
  have hb0:bodyL d s 0 = []:=rfl
  generalize needN w c=n at *
  generalize bodyL d s=bL at *
  generalize eachN w=ew at *
  have heq:(decide (w=0))=true ↔ w=0:=by simp
  by_cases ht:text≠decide (w=0)
  ·rw [if_pos ht]
   have hb:(!(text == decide (w=0)))=true:=(by decide:∀ a b:Bool,a≠b→(!(a == b))=true) _ _ ht
   refine k_E3 (rs:=[.tmp 6,.tmp 7,.tmp 8]) 78 Tryz.func29 rfl rfl rfl ?_
   iterate 2 refine s1_ ?_
   refine k_b5 rfl ?_
   intro b3 f3
   have g3:=f3
   repeat ((with_reducible replace g3:=fresh_set g3);obtain ⟨g3,_⟩:=g3)
   refine nl_ ?_
   iterate 8 refine s1_ ?_
   refine ca_ rfl (hopen.frame f3) ?_
   rintro _ S1 ⟨M,⟨p,oE,oW,hok,rfl,hM⟩,f1',h1⟩
   rw [h1];clear h1 S1
   have hSM:S.Less M:=by rw [hM];exact hok.less
   have hrd:RdV M p d:=by rw [hM];exact hok.rd (right_lens hR).1 (right_lens hR).2
   iterate 14 refine s1_ ?_
   refine cF_ ?_
   iterate 6 refine s1_ ?_
   refine ca_ rfl (hhead p _ (hrd.less less_)) ?_
   rintro _ S1 ⟨rfl,h1⟩
   rw [h1];clear h1 S1
   iterate 18 refine s1_ ?_
   refine k_v13 0 1 2 3 6 7 8 9 10 26 11 12 35 ?_
   refine cF_ ?_
   iterate 4 refine s1_ ?_
   refine rC (Calm.bin rfl rfl (bin_bool (bin_eql _ _) (show decide ((w:Int)=0)=decide (w=0) from by rw [decide_eq_decide];omega))) ?_
   refine rC (Calm.bin rfl rfl (bin_bool (bin_bool_neq _ _ Tryz.underlying4) hb)) ?_
   iterate 3 refine s1_ ?_
   refine cT_ ?_
   iterate 10 refine s1_ ?_
   refine ⟨_,S,⟨_,_,rfl,⟨_,_,rfl,⟨_,_,rfl,rfl,rfl⟩,rfl⟩,rfl⟩,less_,?_⟩
   exact ⟨rfl,rfl⟩
  ·rw [if_neg ht]
   have hb:(!(text == decide (w=0)))=false:=(by decide:∀ a b:Bool,¬ a≠b→(!(a == b))=false) _ _ ht
   have hex1:∀ l:List UInt8,l.length=64*(n-1)→((bs l).extract (((ew*c:Nat):Int)).toNat (bs l).size).data.toList=l.drop (ew*c):=fun l hl=>by
    rw [Lib.extract_data,bs_data,size_bs,Int.toNat_natCast,List.take_of_length_le (by rw [List.length_drop];omega)]
   have hex2:∀ l:List UInt8,(bs l).extract 0 (((ew*c:Nat):Int)).toNat=bs (l.take (ew*c)):=fun l=>by
    apply str_ext
    rw [Lib.extract_data,bs_data,bs_data,Int.toNat_natCast];simp
   refine k_E3 (rs:=[.tmp 6,.tmp 7,.tmp 8]) 78 Tryz.func29 rfl rfl rfl ?_
   iterate 2 refine s1_ ?_
   refine k_b5 rfl ?_
   intro b3 f3
   have g3:=f3
   repeat ((with_reducible replace g3:=fresh_set g3);obtain ⟨g3,_⟩:=g3)
   refine nl_ ?_
   iterate 8 refine s1_ ?_
   refine ca_ rfl (hopen.frame f3) ?_
   rintro _ S1 ⟨M,⟨p,oE,oW,hok,rfl,hM⟩,f1',h1⟩
   rw [h1];clear h1 S1
   have hSM:S.Less M:=by rw [hM];exact hok.less
   have hrd:RdV M p d:=by rw [hM];exact hok.rd (right_lens hR).1 (right_lens hR).2
   iterate 14 refine s1_ ?_
   refine cF_ ?_
   iterate 6 refine s1_ ?_
   refine ca_ rfl (hhead p _ (hrd.less less_)) ?_
   rintro _ S1 ⟨rfl,h1⟩
   rw [h1];clear h1 S1
   iterate 18 refine s1_ ?_
   refine k_v13 0 1 2 3 6 7 8 9 10 26 11 12 35 ?_
   refine cF_ ?_
   iterate 4 refine s1_ ?_
   refine rC (Calm.bin rfl rfl (bin_bool (bin_eql _ _) (show decide ((w:Int)=0)=decide (w=0) from by rw [decide_eq_decide];omega))) ?_
   refine rC (Calm.bin rfl rfl (bin_bool (bin_bool_neq _ _ Tryz.underlying4) hb)) ?_
   iterate 3 refine s1_ ?_
   refine cF_ ?_
   iterate 7 refine s1_ ?_
   refine ca_ rfl (hneed _) ?_
   rintro _ S1 ⟨rfl,h1⟩
   rw [h1];clear h1 S1
   iterate 9 refine s1_ ?_
   refine ARun.alloc (lit_lt rfl) ty_zero_58 ?_
   intro b15 f15
   have g15:=f15
   repeat ((with_reducible replace g15:=fresh_set g15);obtain ⟨g15,_⟩:=g15)
   refine nl_ ?_
   iterate 2 refine s1_ ?_
   have hMB:M.Less (M.set b3 (bx d pe ce pw cw)):=Mem.less_set _ _ _ f1'.1
   have hnew:=Bl.R.new (M.set b3 (bx d pe ce pw cw)) b15
   iterate 6 refine s1_ ?_
   generalize hB:(M.set b3 (bx d pe ce pw cw))=B at *
   refine s1_ ?_
   refine AWP.loop (X:=Nat × Mem) (fun x=>[(1,.string s),(9,.pointer (some ⟨p,0,none⟩)),(11,.int .i64 (w:Int)),(12,.int .u64 (c:Int)),(13,.int .i64 (n:Int)),(15,.pointer (some ⟨b15,0,none⟩)),(16,.int .i64 ((x.1+1:Nat):Int))]) (fun x=>x.2) (fun x=>x.1+1≤n∧Bl.R B b15 (bL x.1) x.2) (fun x=>n-x.1) ((0,B.set b15 (Bl.blk (.pointer none) (.slice none 0 0)))) ⟨rfl,rfl,rfl,rfl,rfl,rfl,rfl,trivial⟩ (Mem.Less.refl _) (⟨by show 0+1≤n;omega,by rw [hb0];exact hnew⟩) ?_
   rintro ⟨i,T⟩ ⟨hi,hT⟩
   (try dsimp only at *)
   have hBT:=hT.less f15
   by_cases hin:i+1<n
   ·iterate 8 refine s1_ ?_
    refine cT_ ?_
    obtain ⟨r1,r2⟩:=hrin (i+1) hin
    have hlen:=hbl i (by omega)
    have hrr:=dev_Read p d s ((i+1:Nat):Int) T (hrd.less (hMB.trans hBT)) hR
    rw [show readD d s ((i+1:Nat):Int)=((readD d s ((i+1:Nat):Int)).1,0) from Prod.ext rfl r1] at hrr
    iterate 9 refine s1_ ?_
    refine ca_ rfl (hrr) ?_
    rintro _ S1 ⟨rfl,h1⟩
    rw [h1];clear h1 S1
    iterate 9 refine s1_ ?_
    refine ca_ rfl (Bl.WriteString _ b15 _ T (readD d s ((i+1:Nat):Int)).1 f15 hT (by omega)) ?_
    rintro _ T2 ⟨rfl,hT2⟩
    rw [← hbs i] at hT2
    iterate 3 refine s1_ ?_
    refine k_v9 1 9 11 12 13 15 16 52 17 ?_
    iterate 6 refine s1_ ?_
    refine ⟨(i+1,T2),?_,?_,?_,?_⟩
    all_goals (try dsimp only)
    ·exact ⟨rfl,rfl,rfl,rfl,rfl,rfl,some_int (by omega),trivial⟩
    ·exact Mem.Less.refl _
    ·exact ⟨hin,hT2⟩
    ·omega
   ·iterate 8 refine s1_ ?_
    refine cF_ ?_
    obtain rfl:i=n-1:=by omega
    have hlen:=hbl (n-1) (by omega)
    have hlb:(bs (bL (n-1))).size=64*(n-1):=by rw [size_bs,hlen]
    iterate 8 refine s1_ ?_
    refine ca_ rfl (heach _) ?_
    rintro _ S1 ⟨rfl,h1⟩
    rw [h1];clear h1 S1
    iterate 6 refine s1_ ?_
    rw [m3]
    iterate 3 refine s1_ ?_
    refine ca_ rfl (Bl.String _ b15 _ T f15 hT (by omega)) ?_
    rintro _ T2 ⟨rfl,hT2⟩
    have hzr:=rec_zeros ((bs (bL (n-1))).extract (((ew*c:Nat):Int)).toNat (bs (bL (n-1))).size) T2 (by rw [ByteArray.size_extract];omega)
    rw [hex1 _ hlen] at hzr
    have hlo:S.Lo T2:=(hSM.trans hMB).lo.trans (hT2.lo f15)
    iterate 2 refine s1_ ?_
    refine ca_ rfl (hzr) ?_
    rintro _ S1 ⟨rfl,h1⟩
    rw [h1];clear h1 S1
    iterate 3 refine s1_ ?_
    cases hzz:zeroL ((bL (n-1)).drop (ew*c))
    ·rw [if_pos rfl]
     refine cT_ ?_
     refine AWP.lo S hlo ?_
     iterate 9 refine s1_ ?_
     refine ⟨_,S,⟨_,_,rfl,⟨_,_,rfl,⟨_,_,rfl,rfl,rfl⟩,rfl⟩,rfl⟩,(Mem.Less.refl _),?_⟩
     exact ⟨rfl,rfl⟩
    ·rw [if_neg (by simp)]
     refine cF_ ?_
     iterate 3 refine s1_ ?_
     refine AWP.draw [(0,true),(2,true),(1,false),(3,true),(4,true),(5,true),(6,true)] [] mixed (by kernel_rfl) ?_
     iterate 2 refine s1_ ?_
     refine draw_only rfl ?_
     refine ca_ rfl (Bl.StringF _ b15 _ T2 hT2 (by omega)) ?_
     rintro _ S1 ⟨rfl,h1⟩
     rw [h1];clear h1 S1
     refine arun_nil ⟨fun _=>less_,?_⟩
     iterate 6 refine s1_ ?_
     refine AWP.lo S hlo ?_
     refine s1_ ?_
     refine ⟨_,S,⟨_,_,rfl,⟨_,_,rfl,⟨_,_,rfl,rfl,rfl⟩,rfl⟩,rfl⟩,(Mem.Less.refl _),?_⟩
     exact ⟨by unfold bodyV;rw [← hex2];rfl,rfl⟩
 ·rw [if_pos he]
  refine k_E3 (rs:=[.tmp 6,.tmp 7,.tmp 8]) 78 Tryz.func29 rfl rfl rfl ?_
  iterate 2 refine s1_ ?_
  refine k_b5 rfl ?_
  intro b3 f3
  have g3:=f3
  repeat ((with_reducible replace g3:=fresh_set g3);obtain ⟨g3,_⟩:=g3)
  refine nl_ ?_
  iterate 8 refine s1_ ?_
  refine ca_ rfl (hopen.frame f3) ?_
  rintro _ S1 ⟨M,⟨p,oE,oW,hok,rfl,hM⟩,f1',h1⟩
  rw [h1];clear h1 S1
  have hSM:S.Less M:=by rw [hM];exact hok.less
  have hrd:RdV M p d:=by rw [hM];exact hok.rd (right_lens hR).1 (right_lens hR).2
  iterate 7 refine s1_ ?_
  refine k_v9 0 1 2 3 6 7 8 9 10 ?_
  iterate 7 refine s1_ ?_
  refine cF_ ?_
  iterate 6 refine s1_ ?_
  refine ca_ rfl (hhead p _ (hrd.less less_)) ?_
  rintro _ S1 ⟨rfl,h1⟩
  rw [h1];clear h1 S1
  iterate 18 refine s1_ ?_
  refine cT_ ?_
  iterate 11 refine s1_ ?_
  refine ⟨_,S,⟨_,_,rfl,⟨_,_,rfl,⟨_,_,rfl,rfl,rfl⟩,rfl⟩,rfl⟩,less_,?_⟩
  exact ⟨rfl,rfl⟩
end Rec
end
section
open Go.RowKit
open Mv Disk Num
set_option maxRecDepth 4000
namespace Rec
noncomputable def readRP (d:D) (s:ByteArray):Nat × List (List Nat) × Int:=if (bodyP d s false).2.2≠0 then (0,[],(bodyP d s false).2.2) else ((bodyP d s false).1,splitL (bodyP d s false).2.1 ((bodyP d s false).1:Int),splitE (bodyP d s false).2.1 ((bodyP d s false).1:Int))
def ReadR (p:Nat × List (List Nat) × Int) (S:Mem) (r:Value) (S':Mem):Prop:=∃ v,r = .tuple #[.int .i64 (p.1:Nat),v,.int .i64 p.2.2]∧S.Less S'∧SlOf RowR S' v p.2.1
theorem head_open {d:D} {s:ByteArray} (h:(headP d s).2.2=0):openD d=(d,0)∧Right d∧d.down=false∧headP d s=headD d s:=by
 by_cases ho:(openD d).2=0
 ·have e:=headP_open ho s
  rcases openD_or d with ⟨h1,hR⟩ | ⟨h1,hR,hdn⟩ | ⟨h1,hR,hdn⟩
  ·rw [h1] at ho;simp at ho
  ·rw [h1] at ho;simp at ho
  ·exact ⟨h1,hR,hdn,e⟩
 ·rw [headP_shut ho] at h;exact absurd h ho
theorem headP_ok {d:D} {s:ByteArray} {w c:Nat} (h:headP d s=(w,c,0)):openD d=(d,0)∧Right d∧d.down=false∧has d.ext s=true∧w≤8∧c≤65536∧sec (exOf d.ext s)=needN w c:=by
 obtain ⟨h1,h2,h3,h4⟩:=head_open (d:=d) (s:=s) (by rw [h])
 rw [h4] at h
 exact ⟨h1,h2,h3,head_ok h2 h⟩
theorem body_size (d:D) (s:ByteArray) (t:Bool):(bodyP d s t).2.1.size≤2621440:=by
 unfold bodyP
 by_cases q1:(headP d s).2.2≠0
 ·rw [if_pos q1];exact Nat.zero_le _
 rw [if_neg q1]
 split
 ·exact Nat.zero_le _
 split
 ·exact Nat.zero_le _
 ·have q1:(headP d s).2.2=0:=by omega
  obtain ⟨_,_,_,_,k2,k3,_⟩:=headP_ok (d:=d) (s:=s) (w:=(headP d s).1) (c:=(headP d s).2.1) (by rw [← q1])
  have:=mul_le_each k2 k3
  show (bs _).size≤_
  rw [size_bs,List.length_take]
  omega
theorem rec_Read (v:Value) (d:D) (s:ByteArray) (S:Mem) (hd:DkR S v d) (hz:Dz d) :
  ACall Tryz.prog 11 #[v,.string s] S (ReadR (readRP d s) S):=by
 have hb:=fun M h=>rec_body v d s false M h hz
 have hsz:=body_size d s false
 unfold readRP
 generalize bodyP d s false=q at *
 obtain ⟨w,b,e⟩:=q
 simp only [bodyV] at hb
 simp only at hsz ⊢
 have hsp:=fun M=>numV_Split b (w:Int) M (by omega)
 obtain ⟨pe,ce,pw,cw,rfl,hE,hW⟩:=id hd
 by_cases he:e=0
 ·subst he
  rw [if_neg (by simp)]
  refine k_E2 (rs:=[.tmp 4,.tmp 5,.tmp 6]) 30 Tryz.func11 rfl rfl rfl ?_
  iterate 2 refine s1_ ?_
  refine k_b5 rfl ?_
  intro b2 f2
  have g2:=f2
  repeat ((with_reducible replace g2:=fresh_set g2);obtain ⟨g2,_⟩:=g2)
  refine nl_ ?_
  iterate 9 refine s1_ ?_
  refine ca_ rfl (hb _ (hd.less less_)) ?_
  rintro _ S1 ⟨rfl,h1⟩
  rw [h1];clear h1 S1
  iterate 16 refine s1_ ?_
  refine cF_ ?_
  iterate 6 refine s1_ ?_
  refine ca_ rfl (hsp _) ?_
  rintro _ T ⟨v,rfl,hl,hv⟩
  have hST:=(show S.Less _ from less_).trans hl
  iterate 18 refine s1_ ?_
  refine ⟨_,T,⟨_,_,rfl,⟨_,_,rfl,⟨_,_,rfl,rfl,rfl⟩,rfl⟩,rfl⟩,less_,?_⟩
  exact ⟨v,rfl,hST,hv⟩
 ·rw [if_pos he]
  refine k_E2 (rs:=[.tmp 4,.tmp 5,.tmp 6]) 30 Tryz.func11 rfl rfl rfl ?_
  iterate 2 refine s1_ ?_
  refine k_b5 rfl ?_
  intro b2 f2
  have g2:=f2
  repeat ((with_reducible replace g2:=fresh_set g2);obtain ⟨g2,_⟩:=g2)
  refine nl_ ?_
  iterate 9 refine s1_ ?_
  refine ca_ rfl (hb _ (hd.less less_)) ?_
  rintro _ S1 ⟨rfl,h1⟩
  rw [h1];clear h1 S1
  iterate 9 refine s1_ ?_
  refine k_v9 0 1 2 4 5 6 7 8 9 ?_
  iterate 7 refine s1_ ?_
  refine cT_ ?_
  iterate 10 refine s1_ ?_
  refine ⟨_,S,⟨_,_,rfl,⟨_,_,rfl,⟨_,_,rfl,rfl,rfl⟩,rfl⟩,rfl⟩,less_,?_⟩
  exact ⟨_,rfl,Mem.Less.refl _,SlOf.nil _ _⟩
end Rec
end
section
open Go.RowKit
open Mv Disk Num
namespace Rec
theorem put_steps {d:D} {s:ByteArray} {w c:Nat} {body:ByteArray} (h:(putP d s w c body).2=0) :
  (newD d s (needN w c:Nat)).2=0∧(putTo (newD d s (needN w c:Nat)).1 s (padS body) (needN w c-1)).2=0∧putP d s w c body=sealD (putTo (newD d s (needN w c:Nat)).1 s (padS body) (needN w c-1)).1 s (headS w c):=by
 unfold putP at h ⊢
 by_cases q1:(newD d s (needN w c:Nat)).2=0
 ·rw [if_neg (by omega)] at h ⊢
  by_cases q2:(putTo (newD d s (needN w c:Nat)).1 s (padS body) (needN w c-1)).2=0
  ·rw [if_neg (by omega)];exact ⟨q1,q2,rfl⟩
  ·rw [if_pos q2] at h;exact absurd h q2
 ·rw [if_pos q1] at h;exact absurd h q1
theorem put_law {d:D} {s:ByteArray} {w c:Nat} {body:ByteArray} (hR:Right d) (hdn:d.down=false) (hf:d.fuse≤9223372036854775807) (hk:w≤8) (hc:c≤65536) (hb:body.size=eachN w*c) (h:(putP d s w c body).2=0) :
  ∃ z,putP d s w c body=(z,0)∧Right z∧z.down=false∧z.fuse≤9223372036854775807∧z.waits = []∧FileR z s w c body ∧ ∀ o k,o≠s→readO z o k=readO d o k:=by
 obtain ⟨q1,q2,q3⟩:=put_steps h
 rw [q3] at h ⊢
 have hn1:=needN_pos w c
 obtain ⟨hR1,hd1,hf1,_⟩:=(new_law (s:=s) (n:=((needN w c:Nat):Int)) hR hdn).2 q1
 have hf1:(newD d s (needN w c:Nat)).1.fuse≤9223372036854775807:=by rw [hf1];exact hf
 obtain ⟨kR,kf,kd⟩:=putTo_keep hR1 hd1 hf1 s (padS body) (needN w c-1)
 have kd:=kd q2
 obtain ⟨f,f0,f1,e⟩:=putTo_yes (s:=s) (all:=padS body) hR hdn hf q1 _ q2
 rw [e] at kR kf kd h ⊢
 obtain ⟨x1,x2⟩:=exOf_new hR q1
 obtain ⟨z,z1,z2,z3,z4,z5,z6,z7⟩:=sealed (w:=w) (c:=c) (body:=body) kR kd kf (show has (newD d s (needN w c:Nat)).1.ext s=true from x2) (by
  show sec (exOf (newD d s (needN w c:Nat)).1.ext s)=_
  rw [x1];unfold sec;simp only;rw [zeros_size,Int.toNat_natCast];omega) (fun i hi=>by
  rw [seen_put hR q1,if_pos ⟨rfl,by omega,by omega⟩]
  rw [show (((i+1:Nat):Int)).toNat-1=i from by omega]) h
 refine ⟨z,z1,z2,z3,z4,z5,z6,fun o k ho=>(z7 o k ho).trans ?_⟩
 rw [read_ok kR kd,read_ok hR hdn]
 have hp:(placeD (putE' d s (padS body) (needN w c:Nat) (needN w c-1) f) o k).2=(placeD d o k).2:=place_other hR q1 ho k
 rw [hp]
 by_cases hp0:(placeD d o k).2=0
 ·rw [if_neg (by simpa using hp0),if_neg (by simpa using hp0),seen_put hR q1,if_neg (fun h=>ho h.1),seen_other hR q1 ho hp0]
 ·rw [if_pos hp0,if_pos hp0]
theorem padS_data (s:ByteArray):(padS s).data.toList=s.data.toList ++ List.replicate ((64-s.size % 64) % 64) 0:=bs_data _
theorem headS_list (w c:Nat):(headS w c).data.toList=(preS w c ++ Crc.tailS (sumOf (preS w c))).data.toList ++ List.replicate 52 0:=by
 unfold headS
 have h8:(preS w c).size=8:=by unfold preS;rw [size_bs];rfl
 rw [padS_data,ByteArray.size_append,h8,Crc.tailS_size]
theorem headS_take (w c:Nat):(headS w c).extract 0 12=preS w c ++ Crc.tailS (sumOf (preS w c)):=by
 have h8:(preS w c).size=8:=by unfold preS;rw [size_bs];rfl
 apply str_ext
 rw [Lib.extract_data,headS_list]
 have hl:(preS w c ++ Crc.tailS (sumOf (preS w c))).data.toList.length=12:=by rw [St.len_list,ByteArray.size_append,h8,Crc.tailS_size]
 rw [List.drop_zero,List.take_append_of_le_length (by omega),List.take_of_length_le (by omega)]
theorem form_head {w c:Nat} (hk:w≤8) (hc:c≤65536):formP (headS w c)=(w,c,0):=by
 have hl:(headS w c).data.toList = [87,82,UInt8.ofNat w] ++ five c ++ (Crc.tailS (sumOf (preS w c))).data.toList ++ List.replicate 52 0:=by
  rw [headS_list]
  have:(preS w c ++ Crc.tailS (sumOf (preS w c))).data.toList=(preS w c).data.toList ++ (Crc.tailS (sumOf (preS w c))).data.toList:=by simp
  rw [this]
  unfold preS
  rw [bs_data]
 have h5:(five c).length=5:=rfl
 have h4:(Crc.tailS (sumOf (preS w c))).data.toList.length=4:=by rw [St.len_list,Crc.tailS_size]
 have hw:(UInt8.ofNat w).toNat=w:=by rw [UInt8.toNat_ofNat'];omega
 have hop:openS ((headS w c).extract 0 12)=(preS w c,0):=by
  rw [headS_take]
  exact Crc.open_ok (preS w c) (by unfold preS;rw [size_bs];show 8≤65536;decide)
 have g3:(headS w c).data.toList.drop 12=List.replicate 52 0:=by
  rw [hl,List.drop_append,List.drop_of_length_le (by simp only [List.length_append,h4,h5,List.length_cons,List.length_nil];omega)]
  simp only [List.length_append,h4,h5,List.length_cons,List.length_nil]
  rfl
 unfold formP
 rw [if_neg,hop,if_neg (by simp)]
 ·refine Prod.ext ?_ (Prod.ext ?_ rfl)
  ·show ((headS w c).data.toList.getD 2 0).toNat=w
   rw [hl];exact hw
  ·show ofB (((headS w c).data.toList.drop 3).take 5)=c
   rw [hl]
   show ofB ((five c ++ (Crc.tailS (sumOf (preS w c))).data.toList ++ List.replicate 52 0).take 5)=c
   rw [List.append_assoc,List.take_append_of_le_length (by rw [h5];omega),List.take_of_length_le (by rw [h5];omega)]
   exact ofB_five c (by unfold top;omega)
 ·rintro (h | h | h)
  ·exact h (by rw [hl];rfl)
  ·rw [hl] at h
   have h:8<(UInt8.ofNat w).toNat:=h
   omega
  ·rw [g3] at h;revert h;decide
theorem file_open {z:D} {s:ByteArray} {w c:Nat} {body:ByteArray} (h:FileR z s w c body):(openD z).2=0:=by
 have h:=h.head
 unfold readO at h
 by_cases q:(openD z).2=0
 ·exact q
 ·rw [if_pos q] at h
  exact absurd (congrArg Prod.snd h) q
theorem file_head {z:D} {s:ByteArray} {w c:Nat} {body:ByteArray} (hk:w≤8) (hc:c≤65536) (h:FileR z s w c body):headP z s=(w,c,0):=by
 unfold headP
 rw [h.head,if_neg (by simp),form_head hk hc,if_neg (by simp),h.size,(need_iff hk).2 hc,if_neg (by simp)]
theorem file_bodyL {z:D} {s:ByteArray} {w c:Nat} {body:ByteArray} (hb:body.size=eachN w*c) (h:FileR z s w c body):∀ k,k≤needN w c-1→bodyL z s k=(padS body).data.toList.take (64*k)
 | 0,_=>rfl
 | k+1,hk=>by
  have hall:(padS body).size=64*(needN w c-1):=by rw [padS_size,hb];unfold needN;omega
  rw [bodyL,file_bodyL hb h k (by omega),h.secs k (by omega)]
  unfold secAt
  show _ ++ ((padS body).extract (64*k) (64*k+64)).data.toList=_
  rw [Lib.extract_data,show 64*(k+1)=64*k+64 from by omega,show 64*k+64-64*k=64 from by omega,List.take_add]
theorem file_body {z:D} {s:ByteArray} {w c:Nat} {body:ByteArray} (hk:w≤8) (hc:c≤65536) (hb:body.size=eachN w*c) (h:FileR z s w c body):bodyP z s (decide (w=0))=(w,body,0):=by
 have hall:(padS body).size=64*(needN w c-1):=by rw [padS_size,hb];unfold needN;omega
 have hl:=file_bodyL hb h (needN w c-1) (Nat.le_refl _)
 rw [List.take_of_length_le (by rw [St.len_list,hall];exact Nat.le_refl _),padS_data] at hl
 have hbl:body.data.toList.length=eachN w*c:=by rw [St.len_list,hb]
 unfold bodyP
 rw [file_head hk hc h]
 simp only [hl,← hbl,List.drop_left,List.take_left]
 rw [if_neg (by simp),if_neg (by simp),if_neg]
 ·rw [bs_of]
 ·unfold zeroL;simp
end Rec
end
section
open Go.RowKit
open Mv Disk Num
namespace Rec
theorem row_all {w:Nat} {l:List (List Nat)} (h:l.all (rowOK w)=true):∀ x ∈ l,x.length=w ∧ ∀ n ∈ x,n<top:=by
 intro x hx
 have:=List.all_eq_true.1 h x hx
 unfold rowOK at this
 rw [Bool.and_eq_true,decide_eq_true_eq] at this
 exact ⟨this.2,(recOK_all this.1).2.2⟩
theorem rows_read {z:D} {s:ByteArray} {w:Nat} {l:List (List Nat)} (h1:1≤w) (h8:w≤8) (hl:l.all (rowOK w)=true) (h:bodyP z s false=(w,bs (recsB l),0)):readRP z s=(w,l,0):=by
 have ha:=row_all hl
 have hsz:(bs (recsB l)).size=l.length*(5*w):=by rw [size_bs,recsB_length l w fun x hx=>(ha x hx).1]
 have e:splitE (bs (recsB l)) (w:Int)=0:=by
  unfold splitE
  rw [if_neg (by omega),if_neg]
  rw [hsz,Int.toNat_natCast]
  simp
 have e2:splitL (bs (recsB l)) (w:Int)=l:=by
  unfold splitL
  rw [if_pos e,rowsOf,bs_data,Int.toNat_natCast,recsB_length l w fun x hx=>(ha x hx).1,Nat.mul_div_cancel _ (by omega)]
  exact rows_recs l w (fun x hx=>(ha x hx).1) (fun x hx=>(ha x hx).2)
 unfold readRP
 rw [h]
 simp only
 rw [if_neg (by simp),e,e2]
theorem file_rows {z:D} {s:ByteArray} {w:Nat} {l:List (List Nat)} (h1:1≤w) (h8:w≤8) (hc:l.length≤65536) (hl:l.all (rowOK w)=true) (h:FileR z s w l.length (bs (l.flatMap recB))):readRP z s=(w,l,0):=by
 refine rows_read h1 h8 hl ?_
 have:=file_body h8 hc (by
  have ha:=row_all hl
  show (bs (recsB l)).size=_
  rw [size_bs,recsB_length l w fun x hx=>(ha x hx).1]
  unfold eachN
  rw [if_neg (by omega),Nat.mul_comm]) h
 rw [decide_eq_false (by omega)] at this
 exact this
theorem write_yes {d:D} {s:ByteArray} {w:Int} {l:List (List Nat)} (hf:d.fuse≤9223372036854775807) (h:(writeP d s w l).2=0) :
  ∃ z,writeP d s w l=(z,0)∧Right z∧z.down=false∧z.fuse≤9223372036854775807∧z.waits = []∧1≤w∧w≤8∧l.length≤65536∧l.all (rowOK w.toNat)=true∧FileR z s w.toNat l.length (bs (l.flatMap recB)) ∧ ∀ o k,o≠s→readO z o k=readO d o k:=by
 unfold writeP at h ⊢
 by_cases q1:w<1∨8<w∨65536<l.length
 ·rw [if_pos q1] at h;exact absurd h (by unfold refD;simp)
 rw [if_neg q1] at h ⊢
 by_cases q2:l.all (rowOK w.toNat)=true
 ·rw [if_pos q2] at h ⊢
  unfold opened at h ⊢
  rcases openD_or d with ⟨ho,hR⟩ | ⟨ho,hR,hdn⟩ | ⟨ho,hR,hdn⟩ <;> rw [ho] at h ⊢
  ·simp at h
  ·simp at h
  ·rw [if_pos rfl] at h ⊢
   have ha:=row_all q2
   obtain ⟨z,z1,z2,z3,z4,z5,z6,z7⟩:=put_law hR hdn hf (by omega) (by omega) (by
    show (bs (recsB l)).size=_
    rw [size_bs,recsB_length l w.toNat fun x hx=>(ha x hx).1]
    unfold eachN
    rw [if_neg (by omega),Nat.mul_comm]) h
   exact ⟨z,z1,z2,z3,z4,z5,by omega,by omega,by omega,q2,z6,z7⟩
 ·rw [if_neg q2] at h;exact absurd h (by unfold refD;simp)
/-! ### What the power leaves -/
end Rec
end
section
open Go.RowKit
open Mv Disk Num
namespace Top
open Rec
theorem write_free {d:D} {s y:ByteArray} {k:Int} (hf:d.fuse = -1) (hp:(placeD d s k).2=0) (hy:y.size=64) (hw:d.waits.length<16384):writeD d s k y=(addW d (s,k,y),0):=by
 unfold writeD
 rw [if_neg (by simpa using hp),if_neg (by simpa using hy),if_neg (by omega)]
 unfold fuseD
 rw [if_neg (show ¬ (addW d (s,k,y)).fuse=0 from by show ¬ d.fuse=0;omega),if_neg (show ¬ 0<(addW d (s,k,y)).fuse from by show ¬ 0<d.fuse;omega)]
theorem place_at {d:D} {s:ByteArray} {k:Int} (hh:has d.ext s=true) (h0:0≤k) (h1:k<sec (exOf d.ext s)):(placeD d s k).2=0:=by
 unfold placeD
 rw [if_pos hh,if_neg (by omega)]
theorem putTo_free {e:D} {s all:ByteArray} {n:Nat} (hf:e.fuse = -1) (hw:e.waits = []) (hh:has e.ext s=true) (hs:sec (exOf e.ext s)=n) (hn:n≤16384) (ha:all.size=64*(n-1)) :
  ∀ k,k+1≤n→putTo e s all k=({ e with waits:=secsW s all k },0)
 | 0,_=>by
  obtain ⟨z,x,w,f,b⟩:=e
  obtain rfl:w = []:=hw
  rfl
 | k+1,h=>by
  have ih:=putTo_free hf hw hh hs hn ha k (by omega)
  rw [putTo,ih,if_pos rfl]
  have hl:(secsW s all k).length=k:=by unfold secsW;simp
  have h1:(placeD { e with waits:=secsW s all k } s ((k+1:Nat):Int)).2=0:=place_at (d:={ e with waits:=secsW s all k }) hh (by omega) (by rw [show exOf ({ e with waits:=secsW s all k }:D).ext s=exOf e.ext s from rfl,hs];omega)
  have h2:=write_free (d:={ e with waits:=secsW s all k }) (s:=s) (k:=((k+1:Nat):Int)) (y:=secAt all k) hf h1 (secAt_size (by omega)) (by show (secsW s all k).length<16384;omega)
  rw [h2]
  unfold addW
  simp only
  rw [secsW_succ]
theorem head_size (w c:Nat):(headS w c).size=64:=by
 rw [← St.len_list,headS_list,List.length_append,List.length_replicate,St.len_list,ByteArray.size_append,Crc.tailS_size]
 unfold preS
 rw [size_bs]
 simp only [List.length_append,five_length,List.length_cons,List.length_nil]
def freshD (n:Int):D:=⟨n,[],[],-1,false⟩
theorem right_fresh {n:Int} (h0:0≤n) (h1:n≤16384):Right (freshD n):=⟨h0,h1,by show 0≤16384;decide,by show (-1:Int) ≤ -1;decide,⟨fun x h=>(by cases h),List.Pairwise.nil,by show ((0:Nat):Int)≤n;omega⟩,fun w h=>(by cases h)⟩
theorem make_fresh {n:Int} (h0:0≤n) (h1:n≤16384):makeD n=(freshD n,0):=by
 unfold makeD
 rw [if_neg (by omega)];rfl
/-! ### Records of a list -/
def recS (w:Nat) (out:List (List Nat)) (x:List Nat):List (List Nat):=if x.length=w∧out.length<40∧(x.all fun n=>decide (n<1099511627776))=true then out ++ [x] else out
def recsL (l:List (List Nat)) (w:Nat):List (List Nat):=l.foldl (recS w) []
theorem recs_inv {w:Nat} (h1:1≤w) (h8:w≤8):∀ (l out:List (List Nat)),out.length≤40→out.all (rowOK w)=true→(l.foldl (recS w) out).length≤40∧(l.foldl (recS w) out).all (rowOK w)=true
 | [],out,h,k=>⟨h,k⟩
 | x :: l,out,h,k=>by
  rw [List.foldl_cons]
  refine recs_inv h1 h8 l _ ?_ ?_
  ·unfold recS;split
   ·rw [List.length_append];simp;omega
   ·exact h
  ·unfold recS;split
   ·rename_i q
    rw [List.all_append,k]
    simp only [List.all_cons,List.all_nil,Bool.and_true,Bool.true_and]
    unfold rowOK recOK
    simp only [Bool.and_eq_true,decide_eq_true_eq]
    exact ⟨⟨⟨by omega,by omega⟩,q.2.2⟩,q.1⟩
   ·exact k
theorem recsL_ok {w:Nat} (h1:1≤w) (h8:w≤8) (l:List (List Nat)):(recsL l w).length≤40∧(recsL l w).all (rowOK w)=true:=recs_inv h1 h8 l [] (by decide) rfl
end Top
end
section
open Go.RowKit
open Mv Disk
set_option maxRecDepth 4000
namespace Sto
def ns (d:D) (s:ByteArray):Nat:=if has d.ext s=true then sec (exOf d.ext s) else 0
structure Dw (d:D) (n:Nat):Prop where
  r:Right d
  f:d.fuse = -1
  u:d.down=false
  w:d.waits.length≤n
theorem Dw.mono {d:D} {n m:Nat} (h:Dw d n) (k:n≤m):Dw d m:=⟨h.r,h.f,h.u,Nat.le_trans h.w k⟩
theorem ns_has {d:D} {n:Nat} (h:Dw d n) (s:ByteArray):has d.ext s=true ↔ 0<ns d s:=by
 unfold ns
 by_cases q:has d.ext s=true
 ·rw [if_pos q]
  have:=(eok_sec (h.r.ex.ok _ (exOf_has h.r.ex.asc q).1)).1
  exact ⟨fun _=>by omega,fun _=>q⟩
 ·rw [if_neg q];exact ⟨fun e=>absurd e q,fun e=>by omega⟩
theorem place_ok0 {d:D} {s:ByteArray} {k:Nat} (h:k<ns d s):(placeD d s (k:Int)).2=0:=by
 unfold ns at h
 unfold placeD
 by_cases q:has d.ext s=true
 ·rw [if_pos q] at h
  rw [if_pos q,if_neg (by omega)]
 ·rw [if_neg q] at h;omega
theorem read_ok0 {d:D} {s:ByteArray} {k:Nat} (h:k<ns d s):readD d s (k:Int)=(seen d s (k:Int),0):=by
 rw [readD_see,if_neg (by rw [place_ok0 h];simp)]
theorem seen_size {d:D} {n:Nat} (hd:Dw d n) {s:ByteArray} {k:Nat} (h:k<ns d s):(seen d s (k:Int)).size=64:=by
 have hp:=place_ok0 h
 obtain ⟨hh,_,h1⟩:=place0 hp
 obtain ⟨hm,hn⟩:=exOf_has hd.r.ex.asc hh
 have hs:=(eok_sec (hd.r.ex.ok _ hm)).2
 unfold seen
 have key:∀ m,m≤d.waits.length→(seeW allK d.waits s (k:Int) ((exOf d.ext s).2.extract (64*(k:Int).toNat) (64*(k:Int).toNat+64)) m).size=64:=by
  intro m
  induction m with
  | zero=>intro _;show (ByteArray.extract _ _ _).size=64;rw [ByteArray.size_extract,Int.toNat_natCast];omega
  | succ m ih =>
   intro hm'
   rw [seeW_succ _ _ _ _ _ (by omega)]
   split
   ·rename_i q
    obtain ⟨x,hx,e,_,_,e3⟩:=hd.r.wr _ (List.getElem_mem (show m<d.waits.length by omega))
    exact e3
   ·exact ih (by omega)
 exact key _ (Nat.le_refl _)
theorem write_ok0 {d:D} {n:Nat} (hd:Dw d n) (hn:n<16384) {s data:ByteArray} {k:Nat} (h:k<ns d s) (hs:data.size=64) :
  ∃ d',writeD d s (k:Int) data=(d',0)∧Dw d' (n+1)∧d'.size=d.size∧d'.ext=d.ext∧(∀ o,ns d' o=ns d o) ∧ ∀ o j,seen d' o j=if s=o∧(k:Int)=j then data else seen d o j:=by
 have hw:=hd.w
 have hp:=place_ok0 h
 refine ⟨addW d (s,(k:Int),data),?_,⟨right_add hd.r hp hs (by omega),hd.f,hd.u,by rw [add_len];omega⟩,rfl,rfl,fun o=>rfl,fun o j=>seen_add _ _ _ _ _ _⟩
 unfold writeD fuseD
 have hf:(addW d (s,(k:Int),data)).fuse = -1:=hd.f
 rw [if_neg (by rw [hp];simp),if_neg (by rw [hs];simp),if_neg (by omega),hf,if_neg (by decide),if_neg (by decide)]
theorem settle_ok {d:D} {n:Nat} (hd:Dw d n):Dw (settleD d fun _=>true) 0∧(settleD d fun _=>true).size=d.size∧used (settleD d fun _=>true).ext=used d.ext∧(∀ o,ns (settleD d fun _=>true) o=ns d o) ∧ ∀ o (j:Nat),j<ns d o→seen (settleD d fun _=>true) o (j:Int)=seen d o (j:Int):=by
 have he:(settleD d fun _=>true).ext=d.ext.map (doneX (fun _=>true) d.waits):=rfl
 refine ⟨⟨right_settle hd.r _,hd.f,hd.u,Nat.le_refl _⟩,rfl,?_,fun o=>?_,fun o j h=>?_⟩
 ·rw [he]
  have:∀ l:List Ext,(∀ x ∈ l,x ∈ d.ext)→used (l.map (doneX (fun _=>true) d.waits))=used l:=by
   intro l
   induction l with
   | nil=>intro _;rfl
   | cons x l ih =>
    intro hl
    simp only [List.map_cons,used]
    rw [ih fun y hy=>hl y (List.mem_cons_of_mem _ hy)]
    congr 1
    unfold sec
    rw [done_size hd.r _ (hl x (List.mem_cons_self ..))]
  exact this _ fun _ h=>h
 ·unfold ns
  rw [he,has_map (f:=doneX (fun _=>true) d.waits) (fun _=>rfl)]
  by_cases q:has d.ext o=true
  ·rw [if_pos q,if_pos q,exOf_map (f:=doneX (fun _=>true) d.waits) (fun _=>rfl) hd.r.ex.asc q]
   unfold sec
   rw [done_size hd.r _ (exOf_has hd.r.ex.asc q).1]
  ·rw [if_neg q,if_neg q]
 ·rw [seen_settle hd.r (place_ok0 h) (fun _=>true)];rfl
def zs:ByteArray:=bs (List.replicate 64 0)
theorem seeW_none {kp:Nat→Bool} {l:List Wr} {s:ByteArray} {k:Int} {b:ByteArray} (h:∀ w ∈ l,w.1≠s):∀ m,m≤l.length→seeW kp l s k b m=b
 | 0,_=>rfl
 | m+1,hm=>by
  rw [seeW_succ _ _ _ _ _ (by omega),if_neg (fun q=>h _ (List.getElem_mem _) q.1)]
  exact seeW_none h m (by omega)
theorem new_ok {d:D} {n:Nat} (hd:Dw d n) {s:ByteArray} {m:Nat} (hs:nm s) (h0:ns d s=0) (h1:1≤m) (hr:(used d.ext:Int)+m≤d.size) :
  ∃ d',newD d s (m:Int)=(d',0)∧Dw d' n∧d'.size=d.size∧used d'.ext=used d.ext+m∧(∀ o,ns d' o=if s=o then m else ns d o)∧(∀ j:Nat,j<m→seen d' s (j:Int)=zs) ∧ ∀ o j,s≠o→has d.ext o=true→seen d' o j=seen d o j:=by
 have hnn:has d.ext s=false:=by
  cases e:has d.ext s with
  | false=>rfl
  | true=>have:=(ns_has hd s).1 e;omega
 have hz:=zeros_size m
 have hsec:sec (s,zeros m)=m:=by unfold sec;simp only;rw [hz];omega
 have hE:ERight (insAt d.ext (pos d.ext s) (s,zeros m)) d.size:=eright_ins (size':=d.size) hd.r.ex hnn hs (by rw [hz];omega) (by rw [hz];omega) (by rw [hsec];omega)
 have hRn:Right { d with ext:=insAt d.ext (pos d.ext s) (s,zeros m) }:=⟨hd.r.s0,hd.r.s1,hd.r.wl,hd.r.fu,hE,fun w hw=>by
  obtain ⟨x,hx,h⟩:=hd.r.wr w hw
  exact ⟨x,mem_ins.2 (.inr hx),h⟩⟩
 have hhas:∀ o,has (insAt d.ext (pos d.ext s) (s,zeros m)) o=true ↔ s=o∨has d.ext o=true:=fun o=>by
  rw [has_iff,has_iff]
  constructor
  ·rintro ⟨x,hx,rfl⟩
   rcases mem_ins.1 hx with rfl | hx
   ·exact .inl rfl
   ·exact .inr ⟨x,hx,rfl⟩
  ·rintro (rfl | ⟨x,hx,rfl⟩)
   ·exact ⟨_,mem_ins.2 (.inl rfl),rfl⟩
   ·exact ⟨x,mem_ins.2 (.inr hx),rfl⟩
 have hexs:exOf (insAt d.ext (pos d.ext s) (s,zeros m)) s=(s,zeros m):=exOf_mem hE.asc (x:=(s,zeros m)) (mem_ins.2 (.inl rfl))
 have hexo:∀ o,has d.ext o=true→exOf (insAt d.ext (pos d.ext s) (s,zeros m)) o=exOf d.ext o:=fun o ho=>by
  obtain ⟨hm,hn⟩:=exOf_has hd.r.ex.asc ho
  have:=exOf_mem hE.asc (mem_ins.2 (.inr hm):exOf d.ext o ∈ insAt d.ext (pos d.ext s) (s,zeros m))
  rwa [hn] at this
 refine ⟨{ d with ext:=insAt d.ext (pos d.ext s) (s,zeros m) },?_,⟨hRn,hd.f,hd.u,hd.w⟩,rfl,?_,fun o=>?_,fun j hj=>?_,fun o j hne ho=>?_⟩
 ·unfold newD
  rw [if_neg (fun h=>by rcases h with h | h;exact h hs;omega),if_neg (by rw [hnn];simp),if_neg (by omega),Int.toNat_natCast]
 ·show used (insAt _ _ _)=_
  rw [used_ins,hsec]
 ·unfold ns
  by_cases e:s=o
  ·subst e
   rw [if_pos rfl,if_pos ((hhas s).2 (.inl rfl))]
   show sec (exOf (insAt _ _ _) s)=m
   rw [hexs,hsec]
  ·rw [if_neg e]
   by_cases q:has d.ext o=true
   ·rw [if_pos q,if_pos ((hhas o).2 (.inr q))]
    show sec (exOf (insAt _ _ _) o)=_
    rw [hexo o q]
   ·rw [if_neg q,if_neg (fun h=>by rcases (hhas o).1 h with h | h;exact e h;exact q h)]
 ·unfold seen
  show seeW allK d.waits s (j:Int) ((exOf (insAt _ _ _) s).2.extract _ _) d.waits.length=zs
  rw [seeW_none (fun w hw e=>by
   obtain ⟨x,hx,h,_⟩:=hd.r.wr w hw
   have:has d.ext s=true:=has_iff.2 ⟨x,hx,h.trans e⟩
   rw [hnn] at this;cases this) _ (Nat.le_refl _),hexs,Int.toNat_natCast]
  apply str_ext
  show ((bs (List.replicate (64*m) 0)).extract (64*j) (64*j+64)).data.toList=(bs (List.replicate 64 0)).data.toList
  rw [Lib.extract_data,bs_data,bs_data,List.drop_replicate,List.take_replicate]
  congr 1;omega
 ·unfold seen
  show seeW allK d.waits o j ((exOf (insAt _ _ _) o).2.extract _ _) d.waits.length=_
  rw [hexo o ho]
end Sto
end
section
open Go.RowKit
open Mv Disk
set_option maxRecDepth 20000
structure Fr where
  name:ByteArray
  sector:Int
  data:ByteArray
  pins:Int
  dirty:Bool
  tick:Int
  leased:Bool
def frF (x:Fr):List Value:=[.string x.name,.int .i64 x.sector,.string x.data,.int .i64 x.pins,.bool x.dirty,.int .u64 x.tick,.bool x.leased]
def frV (x:Fr):Value:=.agg #[.string x.name,.int .i64 x.sector,.string x.data,.int .i64 x.pins,.bool x.dirty,.int .u64 x.tick,.bool x.leased]
def F0:Fr:=⟨ByteArray.empty,0,ByteArray.empty,0,false,0,false⟩
def F1:Fr:=⟨ByteArray.empty,0,ByteArray.empty,0,false,0,true⟩
def Fr.holds (x:Fr):Prop:=x.name.size≠0
instance (x:Fr):Decidable x.holds:=by unfold Fr.holds;infer_instance
theorem eq_frame (x y:Fr):x=y ↔ x.name=y.name∧x.sector=y.sector∧x.data=y.data∧x.pins=y.pins∧x.dirty=y.dirty∧x.tick=y.tick∧x.leased=y.leased:=by
 cases x;cases y;simp
instance : DecidableEq Fr := fun x y => decidable_of_iff _ (eq_frame x y).symm
theorem pl_holds (x:Fr) (S:Mem):ACall Tryz.prog 143 #[frV x] S fun r S'=>r = .bool (decide x.holds)∧S'=S:=by
 have e:(!decide (x.name=ByteArray.empty))=decide x.holds:=by
  by_cases h:x.name=ByteArray.empty
  ·rw [decide_eq_true h,decide_eq_false (show ¬ x.holds from fun q=>q ((size0 _).1 h))];rfl
  ·rw [decide_eq_false h,decide_eq_true (show x.holds from fun q=>h ((size0 _).2 q))];rfl
 unfold frV
 refine k_E1 (rs:=[.tmp 2]) 6 Tryz.func143 rfl rfl rfl ?_
 iterate 2 refine s1_ ?_
 refine k_b7 rfl ?_
 intro b1 f1
 have g1:=f1
 repeat ((with_reducible replace g1:=fresh_set g1);obtain ⟨g1,_⟩:=g1)
 refine nl_ ?_
 iterate 7 refine s1_ ?_
 refine rC (Calm.bin rfl rfl (bin_bool (bin_str_neq _ _) e)) ?_
 iterate 4 refine s1_ ?_
 refine ⟨_,S,⟨_,_,rfl,rfl,rfl⟩,less_,?_⟩
 exact ⟨rfl,rfl⟩
theorem eql_frame (x y:Fr) (w:World):(binOp .eql 226 (frV x) (frV y)).run Tryz.prog w = .ok (.bool (decide (x=y))) w:=by
 have e:decide (x=y)=((x.name.toList == y.name.toList) && (x.sector == y.sector) && (x.data.toList == y.data.toList) && (x.pins == y.pins) && (x.dirty == y.dirty) && (x.tick == y.tick) && (x.leased == y.leased)):=by
  rw [Bool.eq_iff_iff,decide_eq_true_eq,eq_frame]
  simp [toList_inj',and_assoc]
 rw [e]
 unfold frV
 go_simp
 cases h1:(x.name.toList == y.name.toList) <;> cases h2:(x.sector == y.sector) <;> cases h3:(x.data.toList == y.data.toList) <;> cases h4:(x.pins == y.pins) <;> cases h5:(x.dirty == y.dirty) <;> cases h6:(x.tick == y.tick) <;> cases h7:(x.leased == y.leased) <;> simp_all
theorem bin_eql_frame {p q:Operand} (x y:Fr):Bin Tryz.prog .eql 226 p q (frV x) (frV y) (.bool (decide (x=y))):=fun w=>by
 unfold frV
 rw [Sem.run_bind,run_eqGuard_agg w .eql 226 p q _ _ (by kernel_rfl)]
 exact eql_frame x y w
theorem pl_free (x:Fr) (S:Mem):ACall Tryz.prog 163 #[frV x] S fun r S'=>r = .bool (decide (x=F0))∧S'=S:=by
 unfold frV
 refine k_E1 (rs:=[.tmp 2]) 6 Tryz.func163 rfl rfl rfl ?_
 iterate 2 refine s1_ ?_
 refine k_b7 rfl ?_
 intro b1 f1
 have g1:=f1
 repeat ((with_reducible replace g1:=fresh_set g1);obtain ⟨g1,_⟩:=g1)
 refine nl_ ?_
 iterate 7 refine s1_ ?_
 refine rC (Calm.bin rfl rfl (bin_eql_frame x F0)) ?_
 iterate 4 refine s1_ ?_
 refine ⟨_,S,⟨_,_,rfl,rfl,rfl⟩,less_,?_⟩
 exact ⟨rfl,rfl⟩
def Fr.idle (x:Fr):Prop:=x=F0∨x.holds∧x.pins=0
instance (x:Fr):Decidable x.idle:=by unfold Fr.idle;infer_instance
theorem pl_idle (x:Fr) (S:Mem):ACall Tryz.prog 162 #[frV x] S fun r S'=>r = .bool (decide x.idle)∧S'=S:=by
 have cf:=fun S=>pl_free x S
 have ch:=fun S=>pl_holds x S
 unfold frV at *
 by_cases q1:x=F0
 ·rw [decide_eq_true q1] at cf
  rw [decide_eq_true (show x.idle from .inl q1)]
  refine k_E1 (rs:=[.tmp 2]) 14 Tryz.func162 rfl rfl rfl ?_
  iterate 2 refine s1_ ?_
  refine k_b7 rfl ?_
  intro b1 f1
  have g1:=f1
  repeat ((with_reducible replace g1:=fresh_set g1);obtain ⟨g1,_⟩:=g1)
  refine nl_ ?_
  iterate 6 refine s1_ ?_
  refine ca_ rfl (cf _) ?_
  rintro _ S1 ⟨rfl,h1⟩
  rw [h1];clear h1 S1
  iterate 13 refine s1_ ?_
  refine ⟨_,S,⟨_,_,rfl,rfl,rfl⟩,less_,?_⟩
  exact ⟨rfl,rfl⟩
 ·rw [decide_eq_false q1] at cf
  by_cases q2:x.holds
  ·rw [decide_eq_true q2] at ch
   have e:decide x.idle=decide (x.pins=0):=by unfold Fr.idle;simp [q1,q2]
   rw [e]
   refine k_E1 (rs:=[.tmp 2]) 14 Tryz.func162 rfl rfl rfl ?_
   iterate 2 refine s1_ ?_
   refine k_b7 rfl ?_
   intro b1 f1
   have g1:=f1
   repeat ((with_reducible replace g1:=fresh_set g1);obtain ⟨g1,_⟩:=g1)
   refine nl_ ?_
   iterate 6 refine s1_ ?_
   refine ca_ rfl (cf _) ?_
   rintro _ S1 ⟨rfl,h1⟩
   rw [h1];clear h1 S1
   iterate 2 refine s1_ ?_
   refine ARun.callG 2 false 5 rfl (lit_lt rfl) rfl (lit_lt rfl) go_143 rfl (ch _) ?_
   rintro _ S1 ⟨rfl,h1⟩
   rw [h1];clear h1 S1
   iterate 10 refine s1_ ?_
   refine ⟨_,S,⟨_,_,rfl,rfl,rfl⟩,less_,?_⟩
   exact ⟨rfl,rfl⟩
  ·rw [decide_eq_false q2] at ch
   rw [decide_eq_false (show ¬ x.idle from fun h=>h.elim q1 (fun h=>q2 h.1))]
   refine k_E1 (rs:=[.tmp 2]) 14 Tryz.func162 rfl rfl rfl ?_
   iterate 2 refine s1_ ?_
   refine k_b7 rfl ?_
   intro b1 f1
   have g1:=f1
   repeat ((with_reducible replace g1:=fresh_set g1);obtain ⟨g1,_⟩:=g1)
   refine nl_ ?_
   iterate 6 refine s1_ ?_
   refine ca_ rfl (cf _) ?_
   rintro _ S1 ⟨rfl,h1⟩
   rw [h1];clear h1 S1
   iterate 2 refine s1_ ?_
   refine ARun.callG 2 false 5 rfl (lit_lt rfl) rfl (lit_lt rfl) go_143 rfl (ch _) ?_
   rintro _ S1 ⟨rfl,h1⟩
   rw [h1];clear h1 S1
   iterate 10 refine s1_ ?_
   refine ⟨_,S,⟨_,_,rfl,rfl,rfl⟩,less_,?_⟩
   exact ⟨rfl,rfl⟩
def like (x y:Fr):Prop:=x.holds∧y.holds∧(x.tick=y.tick∨x.name=y.name∧x.sector=y.sector)
instance (x y:Fr):Decidable (like x y):=by unfold like;infer_instance
end
section
open Go.RowKit
open Mv Disk
set_option maxRecDepth 20000
def Sound (d:D) (x:Fr) (tick:Int):Prop :=
  (¬ x.holds∧(x=F0∨x=F1))∨(x.holds∧(readD d x.name x.sector).2=0∧x.leased=false∧x.data.size=64∧0≤x.pins∧x.pins≤256∧1≤x.tick∧x.tick≤tick∧(x.dirty=true∨x.data=(readD d x.name x.sector).1))
instance (d:D) (x:Fr) (tick:Int):Decidable (Sound d x tick):=by unfold Sound;infer_instance
end
section
open Go.RowKit
open Mv Disk
set_option maxRecDepth 20000
theorem fr_len (x:Fr):(frF x).length=7:=rfl
end
section
open Go.RowKit
open Mv Disk
set_option maxRecDepth 20000
structure Pl where
  d:D
  fr:List Fr
  tick:Int
  reads:Int
  writes:Int
def PlR (S:Mem) (v:Value) (p:Pl):Prop:=∃ pe ce pw cw pf cf,v = .agg #[.int .i64 p.d.size,.slice pe p.d.ext.length ce,.slice pw p.d.waits.length cw,.int .i64 p.d.fuse,.bool p.d.down,.slice pf p.fr.length cf,.int .u64 p.tick,.int .u64 p.reads,.int .u64 p.writes]∧Sl 2 extF S (.slice pe p.d.ext.length ce) p.d.ext∧Sl 3 wrF S (.slice pw p.d.waits.length cw) p.d.waits∧Sl 7 frF S (.slice pf p.fr.length cf) p.fr
theorem PlR.less {S S':Mem} {v:Value} {p:Pl} (h:PlR S v p) (hl:S.Less S'):PlR S' v p:=by
 obtain ⟨pe,ce,pw,cw,pf,cf,e,h1,h2,h3⟩:=h
 exact ⟨pe,ce,pw,cw,pf,cf,e,h1.less hl,h2.less hl,h3.less hl⟩
structure PRight (p:Pl):Prop where
  dr:Right p.d
  l1:1≤p.fr.length
  l2:p.fr.length≤256
  ok:∀ i (h:i<p.fr.length),Sound p.d p.fr[i] p.tick ∧ ∀ y ∈ p.fr.take i,¬ like p.fr[i] y
noncomputable def chkP (p:Pl):Int:=by classical exact if PRight p then 0 else 2
end
section
open Go.RowKit
open Mv Disk
set_option maxRecDepth 20000
theorem count_take {q:Fr→Bool} {l:List Fr} {i:Nat} (h:i<l.length):(l.take (i+1)).countP q=(l.take i).countP q+if q l[i]=true then 1 else 0:=by
 rw [take_get h,List.countP_append,List.countP_singleton]
theorem count_le {q:Fr→Bool} (l:List Fr) (i:Nat):(l.take i).countP q≤l.length:=Nat.le_trans List.countP_le_length (by simp;omega)
end
section
open Go.RowKit
open Mv Disk
set_option maxRecDepth 4000
abbrev frT:TypeId:=226
end
section
open Go.RowKit
open Mv Disk
set_option maxRecDepth 4000
def up1 (x:Int):Int:=IntKind.u64.wrap (x+1)
def setP (p:Pl) (i:Nat) (x:Fr):Pl:={ p with fr:=p.fr.set i x }
def atF (p:Pl) (i:Nat):Fr:=p.fr.getD i F0
def wrP (p:Pl) (i:Nat):Pl × Int :=
  ({ p with d:=(writeD p.d (atF p i).name (atF p i).sector (atF p i).data).1,writes:=up1 p.writes,fr:=if (writeD p.d (atF p i).name (atF p i).sector (atF p i).data).2=0 then p.fr.set i { atF p i with dirty:=false } else p.fr },(writeD p.d (atF p i).name (atF p i).sector (atF p i).data).2)
def bestF (fr:List Fr):Nat→Int
  | 0=>-1
  | i+1=>if (fr.getD i F0).idle∧(bestF fr i<0∨(fr.getD i F0).tick<(fr.getD (bestF fr i).toNat F0).tick) then (i:Nat) else bestF fr i
theorem bestF_le (fr:List Fr):∀ i,-1≤bestF fr i∧bestF fr i<i
 | 0=>⟨by unfold bestF;omega,by unfold bestF;omega⟩
 | i+1=>by
  have:=bestF_le fr i
  unfold bestF
  split <;> omega
def takeP (p:Pl):Pl × Nat × Int :=
  if p.fr.findIdx (fun x=>decide (x=F0))<p.fr.length then (p,p.fr.findIdx (fun x=>decide (x=F0)),0)
  else if bestF p.fr p.fr.length<0 then (p,0,9)
  else if (atF p (bestF p.fr p.fr.length).toNat).dirty=true then
    (if (wrP p (bestF p.fr p.fr.length).toNat).2=0 then (setP (wrP p (bestF p.fr p.fr.length).toNat).1 (bestF p.fr p.fr.length).toNat F0,(bestF p.fr p.fr.length).toNat,0)
     else ((wrP p (bestF p.fr p.fr.length).toNat).1,0,(wrP p (bestF p.fr p.fr.length).toNat).2))
  else (setP p (bestF p.fr p.fr.length).toNat F0,(bestF p.fr p.fr.length).toNat,0)
def isF (s:ByteArray) (k:Int) (x:Fr):Bool:=decide (x.holds∧x.sector=k∧x.name=s)
def pin1 (p:Pl) (i:Nat):Pl:={ p with tick:=up1 p.tick,fr:=p.fr.set i { atF p i with tick:=up1 p.tick,pins:=(atF p i).pins+1 } }
def newF (s:ByteArray) (k:Int) (data:ByteArray):Fr:=⟨s,k,data,0,false,0,false⟩
def pinP (p:Pl) (s:ByteArray) (k:Int):Pl × Nat × Int :=
  if p.fr.findIdx (isF s k)<p.fr.length then
    (if (atF p (p.fr.findIdx (isF s k))).pins=256 then (p,0,11) else (pin1 p (p.fr.findIdx (isF s k)),p.fr.findIdx (isF s k),0))
  else if (readD p.d s k).2≠0 then (p,0,(readD p.d s k).2)
  else if (takeP p).2.2≠0 then ((takeP p).1,0,(takeP p).2.2)
  else (pin1 { setP (takeP p).1 (takeP p).2.1 (newF s k (readD p.d s k).1) with reads:=up1 (takeP p).1.reads } (takeP p).2.1,(takeP p).2.1,0)
def unpin1 (p:Pl) (i:Int):Pl × Int :=
  if i<0∨(p.fr.length:Int)≤i then (p,1) else if (atF p i.toNat).pins=0 then (p,11) else (setP p i.toNat { atF p i.toNat with pins:=(atF p i.toNat).pins-1 },0)
def ret1 (p:Pl) (i:Int):Pl × Int :=
  if i<0∨(p.fr.length:Int)≤i then (p,1) else if (atF p i.toNat).leased=false then (p,11) else (setP p i.toNat F0,0)
def pinnedP (p:Pl) (i a n:Int):Int:=if i<0∨(p.fr.length:Int)≤i∨a<0∨64<a∨64-a<n then 1 else if (atF p i.toNat).pins=0 then 11 else 0
def fillS (t:ByteArray) (a:Int) (s:ByteArray):ByteArray:=t.extract 0 a.toNat ++ s ++ t.extract (a.toNat+s.size) t.size
def fillP (p:Pl) (i a:Int) (s:ByteArray):Pl × Int:=if pinnedP p i a s.size=0 then (setP p i.toNat { atF p i.toNat with data:=fillS (atF p i.toNat).data a s,dirty:=true },0) else (p,pinnedP p i a s.size)
def leaseN:Nat→Pl→List Int→Pl × List Int × Int
  | 0,p,l=>(p,l,0)
  | n+1,p,l=>if (takeP p).2.2=0 then leaseN n (setP (takeP p).1 (takeP p).2.1 F1) (l ++ [((takeP p).2.1:Int)]) else ((takeP p).1,[],(takeP p).2.2)
def idlesP (p:Pl):Nat:=p.fr.countP fun x=>decide x.idle
def leaseP (p:Pl) (n:Int):Pl × List Int × Int:=if n<0 then (p,[],1) else if (idlesP p:Int)<n then (p,[],9) else leaseN n.toNat p []
def ofN (s:ByteArray) (x:Fr):Bool:=decide (x.holds∧x.name=s)
def dropP (p:Pl) (s:ByteArray):Pl × Int:=if p.fr.any (fun x=>ofN s x && decide (0<x.pins))=true then (p,11) else ({ p with fr:=p.fr.map fun x=>if ofN s x=true then F0 else x },0)
def flushN (p:Pl) (i:Nat):Nat→Pl × Int
  | 0=>(p,0)
  | n+1=>if (atF p i).dirty=true then (if (wrP p i).2=0 then flushN (wrP p i).1 (i+1) n else wrP p i) else flushN p (i+1) n
def flushP (p:Pl):Pl × Int:=if (flushN p 0 p.fr.length).2=0 then ({ (flushN p 0 p.fr.length).1 with d:=settleD (flushN p 0 p.fr.length).1.d fun _=>true },0) else flushN p 0 p.fr.length
/-! ### What holds of a pool at work -/
structure PW (p:Pl):Prop where
  dr:Right p.d
  fu:p.d.fuse≤9223372036854775807
  nd:p.d.down=false
  l1:1≤p.fr.length
  l2:p.fr.length≤256
  pn:∀ x ∈ p.fr,0≤x.pins∧x.pins≤256
theorem atF_eq {p:Pl} {i:Nat} (h:i<p.fr.length):atF p i=p.fr[i]:=by unfold atF;simp [List.getD,List.getElem?_eq_getElem h]
theorem atF_mem {p:Pl} {i:Nat} (h:i<p.fr.length):atF p i ∈ p.fr:=by rw [atF_eq h];exact List.getElem_mem h
abbrev arT:TypeId:=122
def frB (fr:List Fr) (c:Nat):Blk:=⟨frT,fr.flatMap frF,c*7⟩
def arB (p b c:Nat) (x:Pl) (k:Int):Blk:=⟨arT,[.pointer (some ⟨p,0,none⟩),.slice (some ⟨b,0,none⟩) x.fr.length c,.int .u64 x.tick,.int .u64 x.reads,.int .u64 x.writes,.int .i64 k],6⟩
def arM (M:Mem) (a p b c:Nat) (x:Pl) (k:Int):Mem:=(M.set b (frB x.fr c)).set a (arB p b c x k)
structure OkA (S:Mem) (a p b c:Nat) (x:Pl) (oE oW:Option (Nat × Nat)):Prop where
  v:OkV S p x.d oE oW
  fb:Fresh (devM S p x.d oE oW) b
  fa:Fresh (devM S p x.d oE oW) a
  ab:a≠b
  l:x.fr.length≤c
def ArS (S:Mem) (a p b c:Nat) (x:Pl) (S':Mem):Prop:=∃ k oE oW,OkA S a p b c x oE oW∧S'=arM (devM S p x.d oE oW) a p b c x k
theorem spl_flat {α : Type} {n:Nat} {f : α→List Value} (hn:∀ x,(f x).length=n) (l:List α) (k:Nat) (y : α) (h:k<l.length):spl (l.flatMap f) (k*n) (f y)=(l.set k y).flatMap f:=by
 have e1:l=l.take k ++ l[k] :: l.drop (k+1):=by rw [← drop_get h,List.take_append_drop]
 have e2:l.set k y=l.take k ++ y :: l.drop (k+1):=by rw [List.set_eq_take_append_cons_drop,if_pos h]
 rw [e2]
 conv=>lhs;rw [e1]
 rw [List.flatMap_append,List.flatMap_append,List.flatMap_cons,List.flatMap_cons]
 have hl:=flat_length hn (l.take k)
 rw [List.length_take,Nat.min_eq_left (Nat.le_of_lt h)] at hl
 have hk:=hn l[k]
 have hy:=hn y
 generalize List.flatMap f (List.take k l)=A at *
 generalize List.flatMap f (List.drop (k+1) l)=B at *
 generalize f l[k]=C at *
 unfold spl
 rw [List.take_left' hl,← List.append_assoc A C B,List.drop_left' (by rw [List.length_append];omega),List.append_assoc]
theorem less_eq {S S':Mem} (h:S=S'):S.Less S':=by rw [h];exact Mem.Less.refl _
theorem ar_own {M:Mem} {a p b c:Nat} {x:Pl} {k:Int}:(arM M a p b c x k).own a=some (arB p b c x k):=Mem.own_set_same _ _ _
theorem ar_fr {M:Mem} {a p b c:Nat} {x:Pl} {k:Int} (h:a≠b):(arM M a p b c x k).own b=some (frB x.fr c):=(Mem.own_set_other _ _ (Ne.symm h)).trans (Mem.own_set_same _ _ _)
theorem ar_setF {M:Mem} {a p b c:Nat} {x:Pl} {k:Int} (h:a≠b) (fr':List Fr) (hl:fr'.length=x.fr.length):(arM M a p b c x k).set b (frB fr' c)=arM M a p b c { x with fr:=fr' } k:=by
 unfold arM
 rw [← Mem.set_comm _ _ _ (Ne.symm h),Mem.set_set]
 unfold arB;rw [hl]
theorem ar_setA {M:Mem} {a p b c:Nat} {x x':Pl} {k k':Int} (h:x'.fr=x.fr):(arM M a p b c x k).set a (arB p b c x' k')=arM M a p b c x' k':=by
 unfold arM
 rw [Mem.set_set,h]
theorem ar_sl {M:Mem} {a p b c:Nat} {x:Pl} {k:Int} (h:a≠b) (hl:x.fr.length≤c) (hm:x.fr.length≤256):Sl 7 frF (arM M a p b c x k) (.slice (some ⟨b,0,none⟩) x.fr.length c) x.fr :=
 Sl.own (ar_fr h) fr_len List.prefix_rfl rfl hl (Nat.le_trans hm (by decide))
theorem ar_less {M:Mem} {a p b c:Nat} {x:Pl} {k:Int} (fb:Fresh M b) (fa:Fresh M a) (h:a≠b):M.Less (arM M a p b c x k) :=
 (Mem.less_set _ _ _ fb.1).trans (Mem.less_set _ _ _ ((Mem.own_set_other _ _ h).trans fa.1))
theorem OkA.less {S:Mem} {a p b c:Nat} {x:Pl} {oE oW:Option (Nat × Nat)} (h:OkA S a p b c x oE oW) (k:Int):S.Less (arM (devM S p x.d oE oW) a p b c x k) :=
 (h.v.dk.less.trans (Mem.less_set _ _ _ h.v.fr.1)).trans (ar_less h.fb h.fa h.ab)
theorem OkA.rd {S:Mem} {a p b c:Nat} {x:Pl} {oE oW:Option (Nat × Nat)} (h:OkA S a p b c x oE oW) (hw:PW x) (k:Int):RdV (arM (devM S p x.d oE oW) a p b c x k) p x.d :=
 (h.v.rd (right_lens hw.dr).1 (right_lens hw.dr).2).less (ar_less h.fb h.fa h.ab)
theorem OkA.like {S:Mem} {a p b c:Nat} {x x':Pl} {oE oW:Option (Nat × Nat)} (h:OkA S a p b c x oE oW) (hd:x'.d=x.d) (hl:x'.fr.length=x.fr.length):OkA S a p b c x' oE oW :=
 ⟨by rw [hd];exact h.v,by rw [hd];exact h.fb,by rw [hd];exact h.fa,h.ab,by rw [hl];exact h.l⟩
theorem ar_call {S:Mem} {a p b c:Nat} {x:Pl} {oE oW:Option (Nat × Nat)} (h:OkA S a p b c x oE oW) (k:Int) {f:FuncId} {args:Array Value} {R:Value→Mem→Prop} (hc:ACall Tryz.prog f args (devM S p x.d oE oW) R) :
  ACall Tryz.prog f args (arM (devM S p x.d oE oW) a p b c x k) fun r S'=>∃ M,R r M∧Fresh M b∧Fresh M a∧S'=arM M a p b c x k:=by
 have fa':Fresh ((devM S p x.d oE oW).set b (frB x.fr c)) a:=fresh_more h.fa h.ab
 refine ((hc.frame (r:=frB x.fr c) h.fb).frame (r:=arB p b c x k) fa').mono fun r S' ⟨Sa,⟨M,hR,f1,e1⟩,f2,e2⟩=>?_
 subst e1
 exact ⟨M,hR,f1,(fresh_set f2).1,e2⟩
section
variable {P:Program} {N:Nat} {ops:Array Oper} {E:Env} {S:Mem} {K:Env→Mem→Prop}
variable {ty:TypeId} {pos:String} {aft:Array Edge} {gd:Option (Nat × Bool)}
theorem Mv.ARun.storeFr {os:List Oper} {T:TypeId} {x y:Operand} {b o c i:Nat} {l:List Fr} {u:Fr} {v:Value} (hx:ev E x=some (.pointer (some ⟨b,o,none⟩))) (hy:ev E y=some v) (hv:v=frV u) (ho:o=i*7) (hi:i<l.length) (hs:sizeT P T=some 7) (hb:S.own b=some (frB l c))
  (h:ARun P N ops os K E (S.set b (frB (l.set i u) c))):ARun P N ops (⟨none,.store T x y,ty,pos,aft,none⟩ :: os) K E S:=by
 subst hv ho
 have hl:=flat_length fr_len l
 have:=Nat.mul_le_mul_right 7 (show i+1≤l.length from hi)
 refine ARun.store hx hy (by unfold frV;exact hs) hb (by unfold frB frV;show i*7+7≤(l.flatMap frF).length;omega) (by unfold frV;simp [Value.cells,Value.oneCell']) ?_
 have e:spl (frB l c).cells (i*7) (frV u).cells.toList=(l.set i u).flatMap frF:=spl_flat fr_len l i u hi
 rw [e];exact h
theorem Mv.ARun.storeFr1 {os:List Oper} {T:TypeId} {x y:Operand} {b o c i q:Nat} {l:List Fr} {u:Fr} {v:Value} (hx:ev E x=some (.pointer (some ⟨b,o,none⟩))) (hy:ev E y=some v) (hv1:v.cells = #[v]) (hv2:v.oneCell'=true) (ho:o=i*7+q) (hq:q<7) (hi:i<l.length) (hu:(frF l[i]).set q v=frF u) (hs:sizeT P T=some 1) (hb:S.own b=some (frB l c))
  (h:ARun P N ops os K E (S.set b (frB (l.set i u) c))):ARun P N ops (⟨none,.store T x y,ty,pos,aft,none⟩ :: os) K E S:=by
 subst ho
 have hl:=flat_length fr_len l
 have:=Nat.mul_le_mul_right 7 (show i+1≤l.length from hi)
 refine ARun.store1 hx hy hs hv1 hb (by unfold frB;show i*7+q<(l.flatMap frF).length;omega) hv2 ?_
 have e:(frB l c).cells.set (i*7+q) v=(l.set i u).flatMap frF:=flat_set fr_len l i u hi q v hq hu
 rw [e];exact h
end
end
section
open Go.RowKit
open Mv Disk
set_option maxRecDepth 4000
namespace Sto
structure Held (d:D) (x:Fr):Prop where
  h:x.holds
  l:x.leased=false
  p0:0≤x.pins
  p1:x.pins≤200
  z:x.data.size=64
  s0:0≤x.sector
  s1:x.sector<(ns d x.name:Int)
  c:x.dirty=false→x.data=seen d x.name x.sector
def FrOk (d:D) (x:Fr):Prop:=x=F0∨x=F1∨Held d x
def same (x y:Fr):Prop:=x.holds∧y.holds∧x.name=y.name∧x.sector=y.sector
structure Ps (p:Pl) (n:Nat):Prop where
  d:Dw p.d n
  ok:∀ i,i<p.fr.length→FrOk p.d (atF p i)
  ap:∀ i j,i<p.fr.length→j<p.fr.length→i≠j → ¬ same (atF p i) (atF p j)
  l1:1≤p.fr.length
  l2:p.fr.length≤256
theorem n0 : ¬ F0.holds:=fun h=>h rfl
theorem n1 : ¬ F1.holds:=fun h=>h rfl
theorem held_of {d:D} {x:Fr} (h:FrOk d x) (hh:x.holds):Held d x:=by
 rcases h with rfl | rfl | h
 ·exact absurd hh n0
 ·exact absurd hh n1
 ·exact h
def vw (p:Pl) (s:ByteArray) (k:Int):ByteArray:=if p.fr.findIdx (isF s k)<p.fr.length then (atF p (p.fr.findIdx (isF s k))).data else seen p.d s k
theorem isF_iff {s:ByteArray} {k:Int} {x:Fr}:isF s k x=true ↔ x.holds∧x.sector=k∧x.name=s:=by unfold isF;simp
theorem find_at {p:Pl} {s:ByteArray} {k:Int} (h:p.fr.findIdx (isF s k)<p.fr.length):isF s k (atF p (p.fr.findIdx (isF s k)))=true:=by
 rw [atF_eq h];exact List.findIdx_getElem (w:=h)
theorem find_is {p:Pl} {n:Nat} (hp:Ps p n) {s:ByteArray} {k:Int} {i:Nat} (hi:i<p.fr.length) (h:isF s k (atF p i)=true):p.fr.findIdx (isF s k)=i:=by
 have hlt:p.fr.findIdx (isF s k)<p.fr.length:=List.findIdx_lt_length_of_exists ⟨p.fr[i],List.getElem_mem hi,by rw [← atF_eq hi];exact h⟩
 have h2:=find_at hlt
 by_cases e:p.fr.findIdx (isF s k)=i
 ·exact e
 ·exfalso
  rw [isF_iff] at h h2
  exact hp.ap _ _ hlt hi e ⟨h2.1,h.1,h2.2.2.trans h.2.2.symm,h2.2.1.trans h.2.1.symm⟩
theorem vw_at {p:Pl} {n:Nat} (hp:Ps p n) {s:ByteArray} {k:Int} {i:Nat} (hi:i<p.fr.length) (h:isF s k (atF p i)=true):vw p s k=(atF p i).data:=by
 unfold vw
 rw [find_is hp hi h,if_pos hi]
theorem vw_no {p:Pl} {s:ByteArray} {k:Int} (h:∀ i,i<p.fr.length→isF s k (atF p i)=false):vw p s k=seen p.d s k:=by
 unfold vw
 rw [if_neg (fun q=>by have:=find_at q;rw [h _ q] at this;cases this)]
theorem vw_or {p:Pl} (s:ByteArray) (k:Int):(∃ i,i<p.fr.length∧isF s k (atF p i)=true) ∨ ∀ i,i<p.fr.length→isF s k (atF p i)=false:=by
 by_cases q:p.fr.findIdx (isF s k)<p.fr.length
 ·exact .inl ⟨_,q,find_at q⟩
 ·refine .inr fun i hi=>?_
  cases e:isF s k (atF p i) with
  | false=>rfl
  | true=>exact absurd (List.findIdx_lt_length_of_exists ⟨p.fr[i],List.getElem_mem hi,by rw [← atF_eq hi];exact e⟩) q
theorem vw_size {p:Pl} {n:Nat} (hp:Ps p n) {s:ByteArray} {k:Nat} (h:k<ns p.d s):(vw p s (k:Int)).size=64:=by
 rcases vw_or (p:=p) s (k:Int) with ⟨i,hi,e⟩ | e
 ·rw [vw_at hp hi e]
  exact (held_of (hp.ok i hi) (isF_iff.1 e).1).z
 ·rw [vw_no e];exact seen_size hp.d h
theorem atF_set {p:Pl} {i j:Nat} (x:Fr) (hi:i<p.fr.length):atF (setP p i x) j=if i=j then x else atF p j:=by
 unfold atF setP
 simp only [List.getD_eq_getElem?_getD,List.getElem?_set]
 by_cases e:i=j
 ·subst e;rw [if_pos rfl,if_pos rfl,if_pos hi];rfl
 ·rw [if_neg e,if_neg e]
theorem set_len {p:Pl} {i:Nat} (x:Fr):(setP p i x).fr.length=p.fr.length:=by unfold setP;simp
theorem Ps.set {p:Pl} {n:Nat} (hp:Ps p n) {i:Nat} (hi:i<p.fr.length) {x:Fr} (hx:FrOk p.d x) (ha:∀ j,j<p.fr.length→j≠i → ¬ same (atF p j) x):Ps (setP p i x) n where
 d:=hp.d
 ok:=fun j hj=>by
  rw [set_len] at hj
  rw [atF_set x hi]
  split
  ·exact hx
  ·exact hp.ok j hj
 ap:=fun a b h1 h2 hne=>by
  rw [set_len] at h1 h2
  rw [atF_set x hi,atF_set x hi]
  by_cases ea:i=a
  ·rw [if_pos ea,if_neg (fun eb=>hne (ea.symm.trans eb))]
   exact fun h=>ha b h2 (fun e=>hne (by rw [← ea,e])) ⟨h.2.1,h.1,h.2.2.1.symm,h.2.2.2.symm⟩
  ·rw [if_neg ea]
   by_cases eb:i=b
   ·rw [if_pos eb];exact ha a h1 (fun e=>ea e.symm)
   ·rw [if_neg eb];exact hp.ap a b h1 h2 hne
 l1:=by rw [set_len];exact hp.l1
 l2:=by rw [set_len];exact hp.l2
theorem vw_eq {p q:Pl} {n m:Nat} (hp:Ps p n) (hq:Ps q m) (hl:q.fr.length=p.fr.length) {s:ByteArray} {k:Int}
  (h1:∀ i,i<p.fr.length→isF s k (atF p i)=true→(isF s k (atF q i)=true∧(atF q i).data=(atF p i).data)∨((∀ j,j<p.fr.length→isF s k (atF q j)=false)∧seen q.d s k=(atF p i).data))
  (h2:(∀ i,i<p.fr.length→isF s k (atF p i)=false)→(∃ i,i<p.fr.length∧isF s k (atF q i)=true∧(atF q i).data=seen p.d s k)∨((∀ j,j<p.fr.length→isF s k (atF q j)=false)∧seen q.d s k=seen p.d s k)):vw q s k=vw p s k:=by
 rcases vw_or (p:=p) s k with ⟨i,hi,e⟩ | e
 ·rw [vw_at hp hi e]
  rcases h1 i hi e with ⟨h3,h4⟩ | ⟨h3,h4⟩
  ·rw [vw_at hq (by omega) h3,h4]
  ·rw [vw_no (fun j hj=>h3 j (by omega)),h4]
 ·rw [vw_no e]
  rcases h2 e with ⟨i,hi,h3,h4⟩ | ⟨h3,h4⟩
  ·rw [vw_at hq (by omega) h3,h4]
  ·rw [vw_no (fun j hj=>h3 j (by omega)),h4]
def nb (fr:List Fr):Nat:=fr.countP fun x=>!decide x.idle
theorem nb_set {fr:List Fr} {i:Nat} (hi:i<fr.length) (x:Fr):nb (fr.set i x)+(if (fr.getD i F0).idle then 0 else 1)=nb fr+(if x.idle then 0 else 1):=by
 unfold nb
 have e:fr.getD i F0=fr[i]:=by simp [List.getD,List.getElem?_eq_getElem hi]
 rw [e]
 have h:=List.countP_set (p:=fun x:Fr=>!decide x.idle) (l:=fr) (a:=x) hi
 rw [h]
 by_cases q1:fr[i].idle
 ·by_cases q2:x.idle
  ·simp [q1,q2]
  ·simp [q1,q2]
 ·have hpos:0<fr.countP fun x=>!decide x.idle:=List.countP_pos_iff.2 ⟨fr[i],List.getElem_mem hi,by simp [q1]⟩
  by_cases q2:x.idle
  ·simp [q1,q2];omega
  ·simp [q1,q2];omega
theorem idle_there {fr:List Fr} (h:nb fr<fr.length):∃ i,i<fr.length∧(fr.getD i F0).idle:=by
 by_cases q:∃ i,i<fr.length∧(fr.getD i F0).idle
 ·exact q
 ·exfalso
  have:nb fr=fr.length:=by
   unfold nb
   rw [List.countP_eq_length]
   intro x hx
   obtain ⟨i,hi,rfl⟩:=List.mem_iff_getElem.1 hx
   have e:fr.getD i F0=fr[i]:=by simp [List.getD,List.getElem?_eq_getElem hi]
   have hn : ¬ fr[i].idle:=fun h=>q ⟨i,hi,by rw [e];exact h⟩
   simp [hn]
  omega
theorem best_pos {fr:List Fr}:∀ i,(∃ j,j<i∧(fr.getD j F0).idle)→0≤bestF fr i
 | 0,⟨j,hj,_⟩=>absurd hj (Nat.not_lt_zero _)
 | i+1,⟨j,hj,h⟩=>by
  unfold bestF
  split
  ·omega
  ·rename_i q
   rcases Nat.lt_or_ge j i with hl | hl
   ·exact best_pos i ⟨j,hl,h⟩
   ·obtain rfl:j=i:=by omega
    have:=bestF_le fr j
    by_cases hb:bestF fr j<0
    ·exact absurd ⟨h,.inl hb⟩ q
    ·omega
theorem best_idle0 (fr:List Fr):∀ i,i≤fr.length→0≤bestF fr i→(fr.getD (bestF fr i).toNat F0).idle∧(bestF fr i).toNat<fr.length
 | 0,_,h=>by unfold bestF at h;omega
 | i+1,hi,h=>by
  have ih:=best_idle0 fr i (by omega)
  unfold bestF at h ⊢
  split
  ·rename_i q;rw [Int.toNat_natCast];exact ⟨q.1,by omega⟩
  ·rename_i q;rw [if_neg q] at h;exact ih h
structure Stays (p q:Pl):Prop where
  l:q.fr.length=p.fr.length
  z:q.d.size=p.d.size
  u:used q.d.ext=used p.d.ext
  n:∀ s,ns q.d s=ns p.d s
  v:∀ s (k:Nat),k<ns p.d s→vw q s (k:Int)=vw p s (k:Int)
theorem Stays.refl (p:Pl):Stays p p:=⟨rfl,rfl,rfl,fun _=>rfl,fun _ _ _=>rfl⟩
theorem Stays.trans {p q r:Pl} (h:Stays p q) (g:Stays q r):Stays p r:=⟨g.l.trans h.l,g.z.trans h.z,g.u.trans h.u,fun s=>(g.n s).trans (h.n s),fun s k hk=>(g.v s k (by rw [h.n];exact hk)).trans (h.v s k hk)⟩
end Sto
end
section
open Go.RowKit
open Mv Disk
set_option maxRecDepth 4000
namespace Sto
theorem isF_not {s:ByteArray} {k:Int} {x:Fr} (h : ¬ isF s k x=true):isF s k x=false:=by simpa using h
theorem isF_f0 (s:ByteArray) (k:Int):isF s k F0=false:=isF_not fun h=>n0 (isF_iff.1 h).1
theorem isF_f1 (s:ByteArray) (k:Int):isF s k F1=false:=isF_not fun h=>n1 (isF_iff.1 h).1
theorem Held.to {d d':D} {x:Fr} (h:Held d x) (hn:∀ s,ns d' s=ns d s) (hc:seen d' x.name x.sector=seen d x.name x.sector):Held d' x :=
 ⟨h.h,h.l,h.p0,h.p1,h.z,h.s0,by rw [hn];exact h.s1,fun e=>by rw [hc];exact h.c e⟩
theorem wr_ps {p:Pl} {n:Nat} (hp:Ps p n) (hn:n<16384) {i:Nat} (hi:i<p.fr.length) (hh:(atF p i).holds) :
  ∃ q,wrP p i=(q,0)∧Ps q (n+1)∧Stays p q∧q.fr=p.fr.set i { atF p i with dirty:=false }∧seen q.d (atF p i).name (atF p i).sector=(atF p i).data∧(∀ s k,¬ isF s k (atF p i)=true→seen q.d s k=seen p.d s k):=by
 have hx:=held_of (hp.ok i hi) hh
 obtain ⟨k,hk⟩:=Int.eq_ofNat_of_zero_le hx.s0
 have hs1:=hx.s1
 rw [hk] at hs1
 obtain ⟨d',h1,h2,h3,h4,h5,h6⟩:=write_ok0 hp.d hn (s:=(atF p i).name) (k:=k) (by omega) hx.z
 have hne:∀ s j,¬ isF s j (atF p i)=true→seen d' s j=seen p.d s j:=fun s j h=>by
  rw [h6,if_neg]
  rintro ⟨a,b⟩
  exact h (isF_iff.2 ⟨hh,by rw [hk];exact b,a⟩)
 have hsee:seen d' (atF p i).name (atF p i).sector=(atF p i).data:=by rw [h6,if_pos ⟨rfl,hk.symm⟩]
 have hwr:wrP p i=({ p with d:=d',writes:=up1 p.writes,fr:=p.fr.set i { atF p i with dirty:=false } },0):=by
  unfold wrP
  rw [hk,h1];simp
 obtain ⟨q,hq⟩ : ∃ q:Pl,q = { p with d:=d',writes:=up1 p.writes,fr:=p.fr.set i { atF p i with dirty:=false } }:=⟨_,rfl⟩
 rw [← hq] at hwr
 have qd:q.d=d':=by rw [hq]
 have qf:q.fr=p.fr.set i { atF p i with dirty:=false }:=by rw [hq]
 have ql:q.fr.length=p.fr.length:=by rw [qf,List.length_set]
 have qa:∀ j,atF q j=if i=j then { atF p i with dirty:=false } else atF p j:=fun j=>by
  have:=atF_set (p:=p) (i:=i) (j:=j) { atF p i with dirty:=false } hi
  unfold atF setP at this
  unfold atF
  rw [qf];exact this
 have hsm:∀ j,j<p.fr.length→i≠j→(atF p j).holds → ¬ isF (atF p j).name (atF p j).sector (atF p i)=true:=fun j hj hij hjh h=>by
  obtain ⟨_,b,c⟩:=isF_iff.1 h
  exact hp.ap i j hi hj hij ⟨hh,hjh,c,b⟩
 have hps:Ps q (n+1):=by
  refine ⟨by rw [qd];exact h2,fun j hj=>?_,fun a b ha hb hab=>?_,by rw [ql];exact hp.l1,by rw [ql];exact hp.l2⟩
  ·rw [qa,qd]
   by_cases e:i=j
   ·rw [if_pos e]
    exact .inr (.inr ⟨hh,hx.l,hx.p0,hx.p1,hx.z,hx.s0,by show _<((ns d' (atF p i).name:Nat):Int);rw [h5];exact hx.s1,fun _=>hsee.symm⟩)
   ·rw [if_neg e]
    rcases hp.ok j (by omega) with h | h | h
    ·exact .inl h
    ·exact .inr (.inl h)
    ·exact .inr (.inr (h.to h5 (hne _ _ (hsm j (by omega) e h.h))))
  ·rw [qa,qa]
   have hap:=hp.ap a b (by omega) (by omega) hab
   by_cases ea:i=a
   ·rw [if_pos ea]
    by_cases eb:i=b
    ·exact absurd (ea.symm.trans eb) hab
    ·rw [if_neg eb];subst ea;exact hap
   ·rw [if_neg ea]
    by_cases eb:i=b
    ·rw [if_pos eb];subst eb;exact hap
    ·rw [if_neg eb];exact hap
 refine ⟨q,hwr,hps,⟨ql,by rw [qd,h3],by rw [qd,h4],fun s=>by rw [qd,h5],fun s j hj=>?_⟩,qf,by rw [qd];exact hsee,fun s j h=>by rw [qd];exact hne s j h⟩
 refine vw_eq hp hps ql (fun j hj h=>.inl ?_) (fun h=>.inr ⟨fun j hj=>?_,?_⟩)
 ·rw [qa]
  by_cases e:i=j
  ·rw [if_pos e];subst e;exact ⟨h,rfl⟩
  ·rw [if_neg e];exact ⟨h,rfl⟩
 ·rw [qa]
  by_cases e:i=j
  ·rw [if_pos e];exact h i hi
  ·rw [if_neg e];exact h j hj
 ·rw [qd];exact hne _ _ (by rw [h i hi];simp)
theorem forget_ps {p:Pl} {n:Nat} (hp:Ps p n) {i:Nat} (hi:i<p.fr.length) (hc:(atF p i).holds→seen p.d (atF p i).name (atF p i).sector=(atF p i).data):Ps (setP p i F0) n∧Stays p (setP p i F0):=by
 have hps:Ps (setP p i F0) n:=hp.set hi (.inl rfl) fun j hj hne h=>n0 h.2.1
 refine ⟨hps,⟨set_len _,rfl,rfl,fun _=>rfl,fun s j hj=>?_⟩⟩
 refine vw_eq hp hps (set_len _) (fun a ha h=>?_) (fun h=>.inr ⟨fun a ha=>?_,rfl⟩)
 ·by_cases e:i=a
  ·subst e
   obtain ⟨b1,b2,b3⟩:=isF_iff.1 h
   refine .inr ⟨fun b hb=>?_,?_⟩
   ·rw [atF_set _ hi]
    by_cases eb:i=b
    ·rw [if_pos eb];exact isF_f0 _ _
    ·rw [if_neg eb]
     refine isF_not fun hb2=>?_
     obtain ⟨c1,c2,c3⟩:=isF_iff.1 hb2
     exact hp.ap i b hi hb eb ⟨b1,c1,b3.trans c3.symm,b2.trans c2.symm⟩
   ·have:=hc b1
    rw [b2,b3] at this
    exact this
  ·exact .inl (by rw [atF_set _ hi,if_neg e];exact ⟨h,rfl⟩)
 ·rw [atF_set _ hi]
  by_cases e:i=a
  ·rw [if_pos e];exact isF_f0 _ _
  ·rw [if_neg e];exact h a ha
theorem take_ps {p:Pl} {n:Nat} (hp:Ps p n) (hn:n<16384) (hb:nb p.fr<p.fr.length) :
  ∃ q i,takeP p=(q,i,0)∧i<p.fr.length∧Ps q (n+1)∧Stays p q∧(atF p i).idle∧q.fr=p.fr.set i F0:=by
 obtain ⟨i0,hi0,hid0⟩:=idle_there hb
 unfold takeP
 by_cases q1:p.fr.findIdx (fun x=>decide (x=F0))<p.fr.length
 ·rw [if_pos q1]
  have he:=List.findIdx_getElem (w:=q1)
  simp only [decide_eq_true_eq] at he
  refine ⟨p,_,rfl,q1,⟨hp.d.mono (by omega),hp.ok,hp.ap,hp.l1,hp.l2⟩,Stays.refl p,.inl (by rw [atF_eq q1];exact he),?_⟩
  have hs:=List.set_getElem_self q1
  rw [he] at hs
  exact hs.symm
 ·rw [if_neg q1]
  have hbp:0≤bestF p.fr p.fr.length:=best_pos _ ⟨i0,hi0,hid0⟩
  obtain ⟨hid,hlt⟩:=best_idle0 p.fr p.fr.length (Nat.le_refl _) hbp
  rw [if_neg (by omega)]
  generalize (bestF p.fr p.fr.length).toNat=m at *
  have hid':(atF p m).idle:=hid
  have hh:(atF p m).holds:=by
   rcases hid' with h | h
   ·exfalso
    exact q1 (List.findIdx_lt_length_of_exists ⟨p.fr[m],List.getElem_mem hlt,by rw [← atF_eq hlt,h];simp⟩)
   ·exact h.1
  by_cases q3:(atF p m).dirty=true
  ·rw [if_pos q3]
   obtain ⟨q,h1,h2,h3,h4,h5,_⟩:=wr_ps hp hn hlt hh
   rw [h1,if_pos rfl]
   have hml:m<q.fr.length:=by rw [h3.l];exact hlt
   have hqa:atF q m = { atF p m with dirty:=false }:=by
    show q.fr.getD m F0=_
    rw [h4,List.getD_eq_getElem?_getD,List.getElem?_set,if_pos rfl,if_pos hlt];rfl
   obtain ⟨g1,g2⟩:=forget_ps h2 hml (fun _=>by rw [hqa];exact h5)
   exact ⟨_,m,rfl,hlt,g1,h3.trans g2,hid',by unfold setP;simp only [h4,List.set_set]⟩
  ·rw [if_neg q3]
   obtain ⟨g1,g2⟩:=forget_ps hp hlt (fun _=>((held_of (hp.ok m hlt) hh).c (by simpa using q3)).symm)
   exact ⟨_,m,rfl,hlt,⟨g1.d.mono (by omega),g1.ok,g1.ap,g1.l1,g1.l2⟩,g2,hid',rfl⟩
def sm (x y:Fr):Prop:=x.name=y.name∧x.sector=y.sector∧x.pins=y.pins∧x.leased=y.leased
theorem sm.refl (x:Fr):sm x x:=⟨rfl,rfl,rfl,rfl⟩
def Keep (p q:Pl) (o:Nat→Prop):Prop:=∀ j,j<p.fr.length → ¬ o j → ¬ (atF p j).idle→sm (atF q j) (atF p j)
theorem Keep.refl (p:Pl) (o:Nat→Prop):Keep p p o:=fun _ _ _ _=>sm.refl _
theorem isF_new {s:ByteArray} {k:Int} {data:ByteArray} (h:s.size≠0):isF s k (newF s k data)=true:=isF_iff.2 ⟨h,rfl,rfl⟩
theorem idle_pins {x:Fr} (h:x.idle):x.pins=0:=by
 rcases h with rfl | h
 ·rfl
 ·exact h.2
theorem busy_of {x:Fr} (h:0<x.pins) : ¬ x.idle:=fun e=>by have:=idle_pins e;omega
theorem ns_name {p:Pl} {n:Nat} (hp:Ps p n) {s:ByteArray} (h:0<ns p.d s):s.size≠0:=by
 have hh:=(ns_has hp.d s).2 h
 obtain ⟨hm,hn⟩:=exOf_has hp.d.r.ex.asc hh
 have:=(hp.d.r.ex.ok _ hm).1.1
 rwa [hn] at this
theorem pin1_ps {p:Pl} {n:Nat} (hp:Ps p n) {i:Nat} (hi:i<p.fr.length) (hh:(atF p i).holds) (hb:(atF p i).pins<200) :
  Ps (pin1 p i) n∧Stays p (pin1 p i)∧(∀ j,atF (pin1 p i) j=if i=j then { atF p i with tick:=up1 p.tick,pins:=(atF p i).pins+1 } else atF p j):=by
 have hx:=held_of (hp.ok i hi) hh
 obtain ⟨x,hxe⟩ : ∃ x:Fr,x = { atF p i with tick:=up1 p.tick,pins:=(atF p i).pins+1 }:=⟨_,rfl⟩
 have hxh:Held p.d x:=by
  rw [hxe]
  exact ⟨hx.h,hx.l,by have:=hx.p0;show 0≤_+1;omega,by show _+1≤(200:Int);omega,hx.z,hx.s0,hx.s1,hx.c⟩
 have hsm:∀ j,j<p.fr.length→j≠i → ¬ same (atF p j) x:=fun j hj hne h=>by
  rw [hxe] at h
  exact hp.ap j i hj hi hne ⟨h.1,hh,h.2.2.1,h.2.2.2⟩
 have hps:=hp.set hi (.inr (.inr hxh)) hsm
 have he:pin1 p i = { setP p i x with tick:=up1 p.tick }:=by unfold pin1 setP;rw [hxe]
 have ha:∀ j,atF (pin1 p i) j=if i=j then x else atF p j:=fun j=>by rw [he];exact atF_set x hi
 have hps':Ps (pin1 p i) n:=by rw [he];exact ⟨hps.d,hps.ok,hps.ap,hps.l1,hps.l2⟩
 have hl:(pin1 p i).fr.length=p.fr.length:=by rw [he];exact set_len x
 refine ⟨hps',⟨hl,by rw [he];rfl,by rw [he];rfl,fun s=>by rw [he];rfl,fun s k hk=>?_⟩,fun j=>by rw [ha,hxe]⟩
 refine vw_eq hp hps' hl (fun j hj h=>.inl ?_) (fun h=>.inr ⟨fun j hj=>?_,by rw [he];rfl⟩)
 ·rw [ha]
  by_cases e:i=j
  ·rw [if_pos e];subst e;rw [hxe];exact ⟨h,rfl⟩
  ·rw [if_neg e];exact ⟨h,rfl⟩
 ·rw [ha]
  by_cases e:i=j
  ·rw [if_pos e,hxe];subst e;exact h i hi
  ·rw [if_neg e];exact h j hj
theorem pin_ps {p:Pl} {n:Nat} (hp:Ps p n) (hn:n<16384) (hb:nb p.fr<p.fr.length) {s:ByteArray} {k:Nat} (hk:k<ns p.d s) (hpn:∀ i,i<p.fr.length→isF s (k:Int) (atF p i)=true→(atF p i).pins<200) :
  ∃ q i,pinP p s (k:Int)=(q,i,0)∧i<p.fr.length∧Ps q (n+1)∧Stays p q∧isF s (k:Int) (atF q i)=true∧(atF q i).data=vw p s (k:Int)∧(atF q i).pins=(if isF s (k:Int) (atF p i)=true then (atF p i).pins else 0)+1∧(∀ j,j≠i→atF q j=atF p j)∧nb q.fr≤nb p.fr+1∧(isF s (k:Int) (atF p i)=true∨(atF p i).idle):=by
 have hs0:=ns_name hp (show 0<ns p.d s by omega)
 have hone:∀ {fr:List Fr} {j:Nat} (hj:j<fr.length) (x:Fr),nb (fr.set j x)≤nb fr+1:=fun hj x=>by
  have:=nb_set hj x
  split at this <;> split at this <;> omega
 unfold pinP
 by_cases q1:p.fr.findIdx (isF s (k:Int))<p.fr.length
 ·rw [if_pos q1]
  have hf:=find_at q1
  generalize p.fr.findIdx (isF s (k:Int))=i at *
  have hlt:=hpn i q1 hf
  rw [if_neg (by omega)]
  obtain ⟨g1,g2,g3⟩:=pin1_ps hp q1 (isF_iff.1 hf).1 hlt
  refine ⟨_,i,rfl,q1,⟨g1.d.mono (by omega),g1.ok,g1.ap,g1.l1,g1.l2⟩,g2,by rw [g3,if_pos rfl];exact hf,by rw [g3,if_pos rfl,vw_at hp q1 hf],by rw [g3,if_pos rfl,if_pos hf],fun j hne=>by rw [g3,if_neg (fun e=>hne e.symm)],?_,.inl hf⟩
  exact hone q1 _
 ·rw [if_neg q1,read_ok0 hk,if_neg (by simp)]
  obtain ⟨q,i,h1,h2,h3,h4,h5,h6⟩:=take_ps hp hn hb
  have hno:∀ j,j<p.fr.length→isF s (k:Int) (atF p j)=false:=fun j hj=>by
   cases e:isF s (k:Int) (atF p j) with
   | false=>rfl
   | true=>exact absurd (List.findIdx_lt_length_of_exists ⟨p.fr[j],List.getElem_mem hj,by rw [← atF_eq hj];exact e⟩) q1
  have hqa:∀ j,atF q j=if i=j then F0 else atF p j:=fun j=>by
   have:=atF_set (p:=p) (i:=i) (j:=j) F0 h2
   unfold atF setP at this
   unfold atF
   rw [h6];exact this
  have hqno:∀ j,j<q.fr.length→isF s (k:Int) (atF q j)=false:=fun j hj=>by
   rw [hqa]
   by_cases e:i=j
   ·rw [if_pos e];exact isF_f0 _ _
   ·rw [if_neg e];exact hno j (by rw [h4.l] at hj;exact hj)
  have hsee:seen q.d s (k:Int)=seen p.d s (k:Int):=by
   have:=h4.v s k hk
   rwa [vw_no hqno,vw_no hno] at this
  rw [h1]
  simp only
  rw [if_neg (by simp)]
  have hil:i<q.fr.length:=by rw [h4.l];exact h2
  have hnf:Held q.d (newF s (k:Int) (seen p.d s (k:Int))):=⟨hs0,rfl,Int.le_refl _,(show (0:Int)≤200 by decide),seen_size hp.d hk,by show (0:Int)≤(k:Int);omega,by show (k:Int)<((ns q.d s:Nat):Int);rw [h4.n];omega,fun _=>hsee.symm⟩
  have hsm:∀ j,j<q.fr.length→j≠i → ¬ same (atF q j) (newF s (k:Int) (seen p.d s (k:Int))):=fun j hj hne h=>by
   have:=hqno j hj
   have h':isF s (k:Int) (atF q j)=true:=isF_iff.2 ⟨h.1,h.2.2.2,h.2.2.1⟩
   rw [h'] at this;cases this
  have hps:=h3.set hil (.inr (.inr hnf)) hsm
  have hsa:∀ j,atF (setP q i (newF s (k:Int) (seen p.d s (k:Int)))) j=if i=j then newF s (k:Int) (seen p.d s (k:Int)) else atF q j:=fun j=>atF_set _ hil
  have hst:Stays q (setP q i (newF s (k:Int) (seen p.d s (k:Int)))):=by
   refine ⟨set_len _,rfl,rfl,fun _=>rfl,fun o j hj=>?_⟩
   refine vw_eq h3 hps (set_len _) (fun a ha h=>.inl ?_) (fun h=>?_)
   ·rw [hsa]
    by_cases e:i=a
    ·exfalso
     subst e
     rw [hqa,if_pos rfl,isF_f0] at h;cases h
    ·rw [if_neg e];exact ⟨h,rfl⟩
   ·by_cases e:s=o∧(k:Int)=(j:Int)
    ·obtain ⟨rfl,e2⟩:=e
     refine .inl ⟨i,hil,?_,?_⟩
     ·rw [hsa,if_pos rfl,← e2];exact isF_new hs0
     ·rw [hsa,if_pos rfl,← e2,hsee];rfl
    ·refine .inr ⟨fun a ha=>?_,rfl⟩
     rw [hsa]
     by_cases e2:i=a
     ·rw [if_pos e2]
      exact isF_not fun h=>e ⟨(isF_iff.1 h).2.2,(isF_iff.1 h).2.1⟩
     ·rw [if_neg e2];exact h a ha
  obtain ⟨r,hr⟩ : ∃ r:Pl,r = { setP q i (newF s (k:Int) (seen p.d s (k:Int))) with reads:=up1 q.reads }:=⟨_,rfl⟩
  rw [← hr]
  have hra:∀ j,atF r j=if i=j then newF s (k:Int) (seen p.d s (k:Int)) else atF q j:=fun j=>by rw [hr];exact hsa j
  have hrp:Ps r (n+1):=by rw [hr];exact ⟨hps.d,hps.ok,hps.ap,hps.l1,hps.l2⟩
  have hrs:Stays q r:=by rw [hr];exact ⟨hst.l,hst.z,hst.u,hst.n,hst.v⟩
  have hrl:i<r.fr.length:=by rw [hrs.l];exact hil
  obtain ⟨g1,g2,g3⟩:=pin1_ps hrp hrl (by rw [hra,if_pos rfl];exact hs0) (by rw [hra,if_pos rfl];exact (show (0:Int)<200 by decide))
  have hrf:r.fr=p.fr.set i (newF s (k:Int) (seen p.d s (k:Int))):=by rw [hr];show q.fr.set i _=_;rw [h6,List.set_set]
  refine ⟨_,i,rfl,h2,g1,(h4.trans hrs).trans g2,?_,?_,?_,fun j hne=>?_,?_,.inr h5⟩
  ·rw [g3,if_pos rfl,hra,if_pos rfl];exact isF_iff.2 ⟨hs0,rfl,rfl⟩
  ·rw [g3,if_pos rfl,hra,if_pos rfl,vw_no hno];rfl
  ·rw [g3,if_pos rfl,hra,if_pos rfl,hno i h2];rfl
  ·rw [g3,if_neg (fun e=>hne e.symm),hra,if_neg (fun e=>hne e.symm),hqa,if_neg (fun e=>hne e.symm)]
  ·have:(pin1 r i).fr=p.fr.set i { atF r i with tick:=up1 r.tick,pins:=(atF r i).pins+1 }:=by unfold pin1;simp only [hrf,List.set_set]
   rw [this];exact hone h2 _
theorem put_ps {p:Pl} {n:Nat} (hp:Ps p n) {i:Nat} (hi:i<p.fr.length) {x:Fr} (hx:Held p.d x) (hh:(atF p i).holds) (hn:x.name=(atF p i).name) (hs:x.sector=(atF p i).sector) :
  Ps (setP p i x) n ∧ ∀ s (k:Nat),k<ns p.d s→vw (setP p i x) s (k:Int)=if isF s (k:Int) x=true then x.data else vw p s (k:Int):=by
 have hsm:∀ j,j<p.fr.length→j≠i → ¬ same (atF p j) x:=fun j hj hne h=>hp.ap j i hj hi hne ⟨h.1,hh,h.2.2.1.trans hn,h.2.2.2.trans hs⟩
 have hps:=hp.set hi (.inr (.inr hx)) hsm
 refine ⟨hps,fun s k hk=>?_⟩
 by_cases e:isF s (k:Int) x=true
 ·rw [if_pos e,vw_at hps (i:=i) (by rw [set_len];exact hi) (by rw [atF_set x hi,if_pos rfl];exact e),atF_set x hi,if_pos rfl]
 ·rw [if_neg e]
  have hne : ¬ isF s (k:Int) (atF p i)=true:=fun h=>e (by
   obtain ⟨_,b,c⟩:=isF_iff.1 h
   exact isF_iff.2 ⟨hx.h,by rw [hs];exact b,by rw [hn];exact c⟩)
  refine vw_eq hp hps (set_len _) (fun j hj h=>.inl ?_) (fun h=>.inr ⟨fun j hj=>?_,rfl⟩)
  ·rw [atF_set x hi]
   by_cases e2:i=j
   ·subst e2;exact absurd h hne
   ·rw [if_neg e2];exact ⟨h,rfl⟩
  ·rw [atF_set x hi]
   by_cases e2:i=j
   ·rw [if_pos e2];exact isF_not e
   ·rw [if_neg e2];exact h j hj
end Sto
end
section
open Go.RowKit
open Mv Disk
set_option maxRecDepth 4000
namespace Sto
theorem idle_iff {x:Fr} (h:x.holds):x.idle ↔ x.pins=0:=⟨idle_pins,fun e=>.inr ⟨h,e⟩⟩
theorem atF_getD (p:Pl) (i:Nat):p.fr.getD i F0=atF p i:=rfl
theorem unpin_ps {p:Pl} {n:Nat} (hp:Ps p n) {i:Nat} (hi:i<p.fr.length) {s:ByteArray} {k:Int} (hf:isF s k (atF p i)=true) (h1:1≤(atF p i).pins) :
  ∃ q,unpin1 p (i:Int)=(q,0)∧Ps q n∧Stays p q∧isF s k (atF q i)=true∧(atF q i).pins=(atF p i).pins-1∧(∀ j,j≠i→atF q j=atF p j)∧nb q.fr≤nb p.fr∧((atF p i).pins=1→nb q.fr+1=nb p.fr):=by
 obtain ⟨hh,hk,hn⟩:=isF_iff.1 hf
 have hx:=held_of (hp.ok i hi) hh
 obtain ⟨x,hxe⟩ : ∃ x:Fr,x = { atF p i with pins:=(atF p i).pins-1 }:=⟨_,rfl⟩
 have hxh:Held p.d x:=by rw [hxe];exact ⟨hx.h,hx.l,by show 0≤_-1;omega,by have:=hx.p1;show _-1≤(200:Int);omega,hx.z,hx.s0,hx.s1,hx.c⟩
 have hxf:isF s k x=true:=by rw [hxe];exact hf
 obtain ⟨g1,g2⟩:=put_ps hp hi hxh hh (by rw [hxe]) (by rw [hxe])
 have hu:unpin1 p (i:Int)=(setP p i x,0):=by
  unfold unpin1
  rw [if_neg (by omega),Int.toNat_natCast,if_neg (by omega),hxe]
 have hst:Stays p (setP p i x):=⟨set_len _,rfl,rfl,fun _=>rfl,fun o j hj=>by
  rw [g2 o j hj]
  by_cases e:isF o (j:Int) x=true
  ·rw [if_pos e,vw_at hp hi (s:=o) (k:=(j:Int)) (by rw [hxe] at e;exact e),hxe]
  ·rw [if_neg e]⟩
 have hnb:=nb_set hi x
 rw [atF_getD] at hnb
 have e1:=idle_iff hh
 have e2:=idle_iff hxh.h
 have hxp:x.pins=(atF p i).pins-1:=by rw [hxe]
 refine ⟨setP p i x,hu,g1,hst,by rw [atF_set x hi,if_pos rfl];exact hxf,by rw [atF_set x hi,if_pos rfl,hxp],fun j hj=>by rw [atF_set x hi,if_neg (fun e=>hj e.symm)],?_,fun hp1=>?_⟩
 ·show nb (p.fr.set i x)≤_
  rw [if_neg (fun e=>by have:=e1.1 e;omega)] at hnb
  split at hnb <;> omega
 ·show nb (p.fr.set i x)+1=_
  rw [if_neg (fun e=>by have:=e1.1 e;omega),if_pos (e2.2 (by omega))] at hnb
  omega
theorem fillS_size {t u:ByteArray} {a:Nat} (ht:t.size=64) (ha:a+u.size≤64):(fillS t (a:Int) u).size=64:=by
 unfold fillS
 rw [ByteArray.size_append,ByteArray.size_append,ByteArray.size_extract,ByteArray.size_extract,Int.toNat_natCast]
 omega
theorem fill_ps {p:Pl} {n:Nat} (hp:Ps p n) {i:Nat} (hi:i<p.fr.length) {s:ByteArray} {k:Nat} (hf:isF s (k:Int) (atF p i)=true) (h1:1≤(atF p i).pins) {u:ByteArray} {a:Nat} (ha:a+u.size≤64) :
  ∃ q,fillP p (i:Int) (a:Int) u=(q,0)∧Ps q n∧q.fr.length=p.fr.length∧q.d=p.d∧isF s (k:Int) (atF q i)=true∧(atF q i).pins=(atF p i).pins∧(∀ j,j≠i→atF q j=atF p j)∧nb q.fr=nb p.fr∧(∀ o (j:Nat),j<ns p.d o→vw q o (j:Int)=if s=o∧k=j then fillS (vw p s (k:Int)) (a:Int) u else vw p o (j:Int)):=by
 obtain ⟨hh,hk,hn⟩:=isF_iff.1 hf
 have hx:=held_of (hp.ok i hi) hh
 obtain ⟨x,hxe⟩ : ∃ x:Fr,x = { atF p i with data:=fillS (atF p i).data (a:Int) u,dirty:=true }:=⟨_,rfl⟩
 have hxh:Held p.d x:=by rw [hxe];exact ⟨hx.h,hx.l,hx.p0,hx.p1,fillS_size hx.z ha,hx.s0,hx.s1,fun e=>by cases e⟩
 have hxf:isF s (k:Int) x=true:=by rw [hxe];exact hf
 obtain ⟨g1,g2⟩:=put_ps hp hi hxh hh (by rw [hxe]) (by rw [hxe])
 have hu:fillP p (i:Int) (a:Int) u=(setP p i x,0):=by
  have h0:pinnedP p (i:Int) (a:Int) (u.size:Int)=0:=by
   unfold pinnedP
   rw [if_neg (by omega),Int.toNat_natCast,if_neg (by omega)]
  unfold fillP
  rw [if_pos h0,Int.toNat_natCast,hxe]
 have hnb:=nb_set hi x
 rw [atF_getD] at hnb
 have e1:=idle_iff hh
 have e2:=idle_iff hxh.h
 have hxp:x.pins=(atF p i).pins:=by rw [hxe]
 refine ⟨setP p i x,hu,g1,set_len _,rfl,by rw [atF_set x hi,if_pos rfl];exact hxf,by rw [atF_set x hi,if_pos rfl,hxp],fun j hj=>by rw [atF_set x hi,if_neg (fun e=>hj e.symm)],?_,fun o j hj=>?_⟩
 ·show nb (p.fr.set i x)=_
  rw [if_neg (fun e=>by have:=e1.1 e;omega),if_neg (fun e=>by have:=e2.1 e;omega)] at hnb
  omega
 ·rw [g2 o j hj]
  by_cases e:s=o∧k=j
  ·obtain ⟨rfl,rfl⟩:=e
   rw [if_pos hxf,if_pos ⟨rfl,rfl⟩,vw_at hp hi hf,hxe]
  ·rw [if_neg e,if_neg (fun h=>e ?_)]
   obtain ⟨_,b,c⟩:=isF_iff.1 h
   obtain ⟨_,b',c'⟩:=isF_iff.1 hxf
   exact ⟨c'.symm.trans c,by have:=b'.symm.trans b;omega⟩
theorem busy1 : ¬ F1.idle:=fun h=>by
 rcases h with h | h
 ·cases h
 ·exact h.1 rfl
theorem ret_ps {p:Pl} {n:Nat} (hp:Ps p n) (i:Int):∃ q e,ret1 p i=(q,e)∧Ps q n∧Stays p q:=by
 unfold ret1
 by_cases q1:i<0∨(p.fr.length:Int)≤i
 ·rw [if_pos q1];exact ⟨p,1,rfl,hp,Stays.refl p⟩
 ·rw [if_neg q1]
  obtain ⟨j,rfl⟩:=Int.eq_ofNat_of_zero_le (show 0≤i by omega)
  rw [Int.toNat_natCast]
  by_cases q2:(atF p j).leased=false
  ·rw [if_pos q2];exact ⟨p,11,rfl,hp,Stays.refl p⟩
  ·rw [if_neg q2]
   have hi:j<p.fr.length:=by omega
   obtain ⟨g1,g2⟩:=forget_ps hp hi (fun hh=>absurd (held_of (hp.ok j hi) hh).l q2)
   exact ⟨_,0,rfl,g1,g2⟩
end Sto
end
section
open Go.RowKit
open Mv Disk
set_option maxRecDepth 4000
namespace Sto
def Alike (p q:Pl):Prop:=∀ j,j<p.fr.length→(atF q j).name=(atF p j).name∧(atF q j).sector=(atF p j).sector∧(atF q j).pins=(atF p j).pins∧(atF q j).leased=(atF p j).leased∧(atF q j).data=(atF p j).data
theorem Alike.refl (p:Pl):Alike p p:=fun _ _=>⟨rfl,rfl,rfl,rfl,rfl⟩
theorem Alike.trans {p q r:Pl} (h:Alike p q) (g:Alike q r) (hl:q.fr.length=p.fr.length):Alike p r:=fun j hj=>by
 obtain ⟨a1,a2,a3,a4,a5⟩:=h j hj
 obtain ⟨b1,b2,b3,b4,b5⟩:=g j (by omega)
 exact ⟨b1.trans a1,b2.trans a2,b3.trans a3,b4.trans a4,b5.trans a5⟩
theorem flushN_ps:∀ (m i:Nat) {p:Pl} {n:Nat},Ps p n→n+m≤16384→i+m=p.fr.length →
  ∃ q,flushN p i m=(q,0)∧Ps q (n+m)∧Stays p q∧Alike p q∧(∀ j,i≤j→j<p.fr.length→(atF q j).dirty=false) ∧ ∀ j,j<i→(atF q j).dirty=(atF p j).dirty
 | 0,i,p,n,hp,_,hi=>⟨p,rfl,hp,Stays.refl p,Alike.refl p,fun j h1 h2=>by omega,fun _ _=>rfl⟩
 | m+1,i,p,n,hp,hn,hi=>by
  unfold flushN
  by_cases q1:(atF p i).dirty=true
  ·rw [if_pos q1]
   have hlt:i<p.fr.length:=by omega
   have hh:(atF p i).holds:=by
    rcases hp.ok i hlt with h | h | h
    ·rw [h] at q1;cases q1
    ·rw [h] at q1;cases q1
    ·exact h.h
   obtain ⟨q,h1,h2,h3,h4,_,_⟩:=wr_ps hp (by omega) hlt hh
   rw [h1,if_pos rfl]
   have hqa:∀ j,atF q j=if i=j then { atF p i with dirty:=false } else atF p j:=fun j=>by
    have:=atF_set (p:=p) (i:=i) (j:=j) { atF p i with dirty:=false } hlt
    unfold atF setP at this
    unfold atF
    rw [h4];exact this
   obtain ⟨r,g1,g2,g3,g4,g5,g6⟩:=flushN_ps m (i+1) h2 (by omega) (by rw [h3.l];omega)
   refine ⟨r,g1,by rw [show n+(m+1)=n+1+m by omega];exact g2,h3.trans g3,Alike.trans (fun j hj=>?_) g4 h3.l,fun j hj hj2=>?_,fun j hj=>?_⟩
   ·rw [hqa]
    by_cases e:i=j
    ·rw [if_pos e];subst e;exact ⟨rfl,rfl,rfl,rfl,rfl⟩
    ·rw [if_neg e];exact ⟨rfl,rfl,rfl,rfl,rfl⟩
   ·by_cases e:i=j
    ·rw [g6 j (by omega),hqa,if_pos e]
    ·exact g5 j (by omega) (by rw [h3.l];exact hj2)
   ·rw [g6 j (by omega),hqa,if_neg (by omega)]
  ·rw [if_neg q1]
   obtain ⟨r,g1,g2,g3,g4,g5,g6⟩:=flushN_ps m (i+1) (p:=p) (n:=n) hp (by omega) (by omega)
   refine ⟨r,g1,⟨g2.d.mono (by omega),g2.ok,g2.ap,g2.l1,g2.l2⟩,g3,g4,fun j hj hj2=>?_,fun j hj=>g6 j (by omega)⟩
   by_cases e:i=j
   ·rw [g6 j (by omega),← e];simpa using q1
   ·exact g5 j (by omega) hj2
theorem sync_ps {p:Pl} {n:Nat} (hp:Ps p n):Ps { p with d:=settleD p.d fun _=>true } 0∧Stays p { p with d:=settleD p.d fun _=>true }:=by
 obtain ⟨h1,h2,h3,h4,h5⟩:=settle_ok hp.d
 have hat:∀ j,atF { p with d:=settleD p.d fun _=>true } j=atF p j:=fun _=>rfl
 have hps:Ps { p with d:=settleD p.d fun _=>true } 0:=⟨h1,fun i hi=>by
  rcases hp.ok i hi with h | h | h
  ·exact .inl h
  ·exact .inr (.inl h)
  ·refine .inr (.inr (h.to h4 ?_))
   obtain ⟨k,hk⟩:=Int.eq_ofNat_of_zero_le h.s0
   have:=h.s1
   rw [hk] at this ⊢
   exact h5 _ k (by omega),hp.ap,hp.l1,hp.l2⟩
 exact ⟨hps,⟨rfl,h2,h3,h4,fun s k hk=>vw_eq hp hps rfl (fun i hi h=>.inl ⟨h,rfl⟩) (fun h=>.inr ⟨h,h5 s k hk⟩)⟩⟩
theorem flush_ps {p:Pl} {n:Nat} (hp:Ps p n) (hn:n+p.fr.length≤16384) :
  ∃ q,flushP p=(q,0)∧Ps q 0∧Stays p q∧Alike p q ∧ ∀ j,j<p.fr.length→(atF q j).dirty=false:=by
 obtain ⟨q,h1,h2,h3,h4,h5,_⟩:=flushN_ps p.fr.length 0 hp hn (Nat.zero_add _)
 obtain ⟨g1,g2⟩:=sync_ps h2
 refine ⟨{ q with d:=settleD q.d fun _=>true },?_,g1,h3.trans g2,h4,fun j hj=>h5 j (Nat.zero_le _) hj⟩
 unfold flushP
 rw [h1,if_pos rfl]
theorem alike_nb {p q:Pl} (h:Alike p q) (hl:q.fr.length=p.fr.length) {n m:Nat} (hp:Ps p n) (hq:Ps q m):nb q.fr=nb p.fr:=by
 have key:∀ j,j<p.fr.length→((atF q j).idle ↔ (atF p j).idle):=fun j hj=>by
  obtain ⟨a1,a2,a3,a4,_⟩:=h j hj
  have h1:=hp.ok j hj
  have h2:=hq.ok j (by omega)
  by_cases hh:(atF p j).holds
  ·have hh2:(atF q j).holds:=by unfold Fr.holds at hh ⊢;rw [a1];exact hh
   rw [idle_iff hh,idle_iff hh2,a3]
  ·have hh2 : ¬ (atF q j).holds:=by unfold Fr.holds at hh ⊢;rw [a1];exact hh
   rcases h1 with h1 | h1 | h1
   ·rcases h2 with h2 | h2 | h2
    ·rw [h1,h2]
    ·rw [h1,h2] at a4;cases a4
    ·exact absurd h2.h hh2
   ·rcases h2 with h2 | h2 | h2
    ·rw [h1,h2] at a4;cases a4
    ·rw [h1,h2]
    ·exact absurd h2.h hh2
   ·exact absurd h1.h hh
 unfold nb
 have e1:q.fr.countP (fun x=>!decide x.idle)=(List.range q.fr.length).countP (fun j=>!decide (atF q j).idle):=by
  conv=>lhs;rw [show q.fr=(List.range q.fr.length).map (fun j=>atF q j) from List.ext_getElem (by simp) fun i h1 h2=>by simp [atF_eq h1]]
  rw [List.countP_map];rfl
 have e2:p.fr.countP (fun x=>!decide x.idle)=(List.range p.fr.length).countP (fun j=>!decide (atF p j).idle):=by
  conv=>lhs;rw [show p.fr=(List.range p.fr.length).map (fun j=>atF p j) from List.ext_getElem (by simp) fun i h1 h2=>by simp [atF_eq h1]]
  rw [List.countP_map];rfl
 rw [e1,e2,hl]
 refine List.countP_congr fun j hj=>?_
 have:=key j (List.mem_range.1 hj)
 simp [this]
theorem write_ps {p:Pl} {n:Nat} (hp:Ps p n) (hn:n<16384) {s u:ByteArray} {k:Nat} (hk:k<ns p.d s) (hu:u.size=64) (hf:∀ i,i<p.fr.length→isF s (k:Int) (atF p i)=false) :
  ∃ d',writeD p.d s (k:Int) u=(d',0)∧Ps { p with d:=d' } (n+1)∧d'.size=p.d.size∧used d'.ext=used p.d.ext∧(∀ o,ns d' o=ns p.d o) ∧ ∀ o (j:Nat),j<ns p.d o→vw { p with d:=d' } o (j:Int)=if s=o∧k=j then u else vw p o (j:Int):=by
 obtain ⟨d',h1,h2,h3,h4,h5,h6⟩:=write_ok0 hp.d hn hk hu
 have hps:Ps { p with d:=d' } (n+1):=⟨h2,fun i hi=>by
  rcases hp.ok i hi with h | h | h
  ·exact .inl h
  ·exact .inr (.inl h)
  ·refine .inr (.inr (h.to h5 ?_))
   rw [h6,if_neg]
   rintro ⟨a,b⟩
   have g:isF s (k:Int) (atF p i)=true:=isF_iff.2 ⟨h.h,b.symm,a.symm⟩
   have:=hf i hi
   rw [g] at this
   exact absurd this (by simp),hp.ap,hp.l1,hp.l2⟩
 refine ⟨d',h1,hps,h3,by rw [h4],h5,fun o j hj=>?_⟩
 by_cases e:s=o∧k=j
 ·obtain ⟨rfl,rfl⟩:=e
  rw [if_pos ⟨rfl,rfl⟩,vw_no (p:={ p with d:=d' }) hf]
  show seen d' s (k:Int)=u
  rw [h6,if_pos ⟨rfl,rfl⟩]
 ·rw [if_neg e]
  refine vw_eq hp hps rfl (fun i hi h=>.inl ⟨h,rfl⟩) (fun h=>.inr ⟨h,?_⟩)
  show seen d' o (j:Int)=_
  rw [h6,if_neg (fun h=>e ⟨h.1,by omega⟩)]
theorem drop_ps {p:Pl} {n:Nat} (hp:Ps p n) {s:ByteArray} (h:∀ i,i<p.fr.length→ofN s (atF p i)=true→(atF p i).pins=0∧(atF p i).dirty=false) :
  ∃ q,dropP p s=(q,0)∧Ps q n∧Stays p q∧q.d=p.d∧(∀ j,j<p.fr.length→atF q j=if ofN s (atF p j)=true then F0 else atF p j):=by
 have h0 : ¬ p.fr.any (fun x=>ofN s x && decide (0<x.pins))=true:=fun e=>by
  obtain ⟨x,hx,e2⟩:=List.any_eq_true.1 e
  obtain ⟨i,hi,rfl⟩:=List.mem_iff_getElem.1 hx
  simp only [Bool.and_eq_true,decide_eq_true_eq] at e2
  have:=(h i hi (by rw [atF_eq hi];exact e2.1)).1
  rw [atF_eq hi] at this
  omega
 obtain ⟨q,hq⟩ : ∃ q:Pl,q = { p with fr:=p.fr.map fun x=>if ofN s x=true then F0 else x }:=⟨_,rfl⟩
 have hl:q.fr.length=p.fr.length:=by rw [hq];simp
 have ha:∀ j,j<p.fr.length→atF q j=if ofN s (atF p j)=true then F0 else atF p j:=fun j hj=>by
  rw [atF_eq (p:=q) (by omega),atF_eq hj]
  simp only [hq,List.getElem_map]
 have hps:Ps q n:=by
  refine ⟨by rw [hq];exact hp.d,fun i hi=>?_,fun i j hi hj hne=>?_,by rw [hl];exact hp.l1,by rw [hl];exact hp.l2⟩
  ·rw [hl] at hi
   rw [ha i hi]
   by_cases e:ofN s (atF p i)=true
   ·rw [if_pos e];exact .inl rfl
   ·rw [if_neg e,show q.d=p.d by rw [hq]];exact hp.ok i hi
  ·rw [hl] at hi hj
   rw [ha i hi,ha j hj]
   split
   ·exact fun g=>n0 g.1
   ·split
    ·exact fun g=>n0 g.2.1
    ·exact hp.ap i j hi hj hne
 refine ⟨q,by unfold dropP;rw [if_neg h0,hq],hps,⟨hl,by rw [hq],by rw [hq],fun o=>by rw [hq],fun o k hk=>?_⟩,by rw [hq],ha⟩
 refine vw_eq hp hps hl (fun i hi g=>?_) (fun g=>.inr ⟨fun j hj=>?_,by rw [hq]⟩)
 ·by_cases e:ofN s (atF p i)=true
  ·obtain ⟨b1,b2,b3⟩:=isF_iff.1 g
   refine .inr ⟨fun j hj=>?_,?_⟩
   ·rw [ha j hj]
    by_cases ej:ofN s (atF p j)=true
    ·rw [if_pos ej];exact isF_f0 _ _
    ·rw [if_neg ej]
     refine isF_not fun g2=>?_
     obtain ⟨c1,c2,c3⟩:=isF_iff.1 g2
     by_cases eij:i=j
     ·subst eij;exact ej e
     ·exact hp.ap i j hi hj eij ⟨b1,c1,b3.trans c3.symm,b2.trans c2.symm⟩
   ·have:=(held_of (hp.ok i hi) b1).c (h i hi e).2
    rw [show q.d=p.d by rw [hq],this,b2,b3]
  ·exact .inl (by rw [ha i hi,if_neg e];exact ⟨g,rfl⟩)
 ·rw [ha j hj]
  split
  ·exact isF_f0 _ _
  ·exact g j hj
theorem new_ps {p:Pl} {n:Nat} (hp:Ps p n) {s:ByteArray} {m:Nat} (hs:nm s) (h0:ns p.d s=0) (h1:1≤m) (hr:(used p.d.ext:Int)+m≤p.d.size) :
  ∃ d',newD p.d s (m:Int)=(d',0)∧Ps { p with d:=d' } n∧d'.size=p.d.size∧used d'.ext=used p.d.ext+m∧(∀ o,ns d' o=if s=o then m else ns p.d o)∧(∀ j:Nat,j<m→vw { p with d:=d' } s (j:Int)=zs) ∧ ∀ o (j:Nat),j<ns p.d o→vw { p with d:=d' } o (j:Int)=vw p o (j:Int):=by
 obtain ⟨d',g1,g2,g3,g4,g5,g6,g7⟩:=new_ok hp.d hs h0 h1 hr
 have hne:∀ i,i<p.fr.length→(atF p i).holds→s≠(atF p i).name:=fun i hi hh e=>by
  have hx:=held_of (hp.ok i hi) hh
  have a:=hx.s0
  have b:=hx.s1
  rw [← e,h0] at b
  omega
 have hps:Ps { p with d:=d' } n:=⟨g2,fun i hi=>by
  rcases hp.ok i hi with h | h | h
  ·exact .inl h
  ·exact .inr (.inl h)
  ·have hn:=hne i hi h.h
   have hh:has p.d.ext (atF p i).name=true:=(ns_has hp.d _).2 (by have a:=h.s0;have b:=h.s1;omega)
   exact .inr (.inr ⟨h.h,h.l,h.p0,h.p1,h.z,h.s0,by show (atF p i).sector<((ns d' (atF p i).name:Nat):Int);rw [g5,if_neg hn];exact h.s1,fun e=>by show (atF p i).data=seen d' (atF p i).name (atF p i).sector;rw [g7 _ _ hn hh];exact h.c e⟩),hp.ap,hp.l1,hp.l2⟩
 refine ⟨d',g1,hps,g3,g4,g5,fun j hj=>?_,fun o j hj=>?_⟩
 ·rw [vw_no (p:={ p with d:=d' }) (fun i hi=>isF_not fun h=>by
   obtain ⟨a,_,b⟩:=isF_iff.1 h
   exact hne i hi a b.symm)]
  exact g6 j hj
 ·refine vw_eq hp hps rfl (fun i hi h=>.inl ⟨h,rfl⟩) (fun h=>.inr ⟨h,?_⟩)
  have hh:has p.d.ext o=true:=(ns_has hp.d _).2 (by omega)
  exact g7 o _ (fun e=>by rw [← e,h0] at hj;omega) hh
end Sto
end
section
open Go.RowKit
open Mv Disk
set_option maxRecDepth 4000
theorem Mv.Calm.maxE {P:Program} {N:Nat} {E:Env} {S:Mem} {dst:Option Nat} {ty:TypeId} {pos:String} {aft:Array Edge} {gd:Option (Nat × Bool)} {x y:Operand} {k k':IntKind} {a b c:Int} {ats:Array TypeId} (h:c=max a b) (hx:ev E x=some (.int k a)) (hy:ev E y=some (.int k' b)):ACalm P N ⟨dst,.call ⟨.builtin .max,#[x,y],ats⟩,ty,pos,aft,gd⟩ E S (.int k c):=by
 by_cases hab:a≤b
 ·rw [show c=b from by omega];exact Calm.maxR hx hy hab
 ·rw [show c=a from by omega];exact Calm.maxL hx hy (by omega)
theorem sl_at {α : Type} {n:Nat} {f : α→List Value} {S:Mem} {b:Nat} {len cap:Nat} {l:List α} (h:Sl n f S (.slice (some ⟨b,0,none⟩) len cap) l) (i:Nat) (hi:i<l.length):S.Knows ⟨b,0+i*n,none⟩ (f l[i]):=h.at1 i hi
theorem ar_kn {M:Mem} {a p b c:Nat} {x:Pl} {k:Int} (h:a≠b) (hl:x.fr.length≤c) (hm:x.fr.length≤256) {i:Nat} (hi:i<x.fr.length):(arM M a p b c x k).Knows ⟨b,0+i*7,none⟩ (frF (atF x i)):=by
 rw [atF_eq hi];exact sl_at (ar_sl h hl hm) i hi
set_option maxHeartbeats 2000000 in
theorem pl_busy (a p b c:Nat) (x:Pl) (k:Int) (S:Mem) (hA:S.own a=some (arB p b c x k)) (hF:Sl 7 frF S (.slice (some ⟨b,0,none⟩) x.fr.length c) x.fr) (h256:x.fr.length≤256) :
  ACall Tryz.prog 164 #[.pointer (some ⟨a,0,none⟩)] S fun r S'=>(∃ n:Nat,n≤256∧r = .int .i64 n)∧S'=S:=by
 unfold arB at hA
 refine k_E1 (rs:=[.tmp 2]) 22 Tryz.func164 rfl rfl rfl ?_
 iterate 22 refine s1_ ?_
 refine AWP.loop (X:=Nat) (fun y=>[(0,.pointer (some ⟨a,0,none⟩)),(3,.int .i64 ((x.fr.take y).countP (fun z=>!decide (z=F0)):Nat)),(9,.slice (some ⟨b,0,none⟩) x.fr.length c),(10,.int .i64 x.fr.length),(11,.int .i64 y)]) (fun _=>S) (fun y=>y≤x.fr.length) (fun y=>x.fr.length-y) (0) ⟨rfl,some_int (by simp),rfl,rfl,rfl,trivial⟩ less_ (Nat.zero_le _) ?_
 rintro i hi
 (try dsimp only at *)
 iterate 6 refine s1_ ?_
 refine AWP.condB rfl (fun hc=>?_) (fun hc=>?_)
 ·have hc:i<x.fr.length:=by have:=of_decide_eq_true hc;omega
  have hki:=sl_at hF i hc
  have t1:=count_take (q:=fun z=>!decide (z=F0)) hc
  have u1:=count_le (q:=fun z=>!decide (z=F0)) x.fr (i+1)
  generalize x.fr[i]=y at *
  have cf:=fun S=>pl_free y S
  unfold frV at cf
  unfold frF at hki
  by_cases q:y=F0
  ·simp only [q,decide_true,Bool.not_true,Bool.false_eq_true,if_false,Nat.add_zero] at t1
   rw [decide_eq_true q] at cf
   iterate 8 refine s1_ ?_
   refine ARun.alloc (lit_lt rfl) ty_zero_226 ?_
   intro b5 f5
   have g5:=f5
   repeat ((with_reducible replace g5:=fresh_set g5);obtain ⟨g5,_⟩:=g5)
   have:=g5.ne hA;have:=g5.ne' hA
   refine nl_ ?_
   iterate 6 refine s1_ ?_
   refine ca_ rfl (cf _) ?_
   rintro _ S1 ⟨rfl,h1⟩
   rw [h1];clear h1 S1
   iterate 3 refine s1_ ?_
   refine cF_ ?_
   iterate 8 refine s1_ ?_
   refine ⟨i+1,?_,?_,?_,?_⟩
   all_goals (try dsimp only)
   ·exact ⟨rfl,some_int (by omega),rfl,rfl,rfl,trivial⟩
   ·exact less_
   ·exact hc
   ·omega
  ·simp only [q,decide_false,Bool.not_false,if_true] at t1
   rw [decide_eq_false q] at cf
   iterate 8 refine s1_ ?_
   refine ARun.alloc (lit_lt rfl) ty_zero_226 ?_
   intro b5 f5
   have g5:=f5
   repeat ((with_reducible replace g5:=fresh_set g5);obtain ⟨g5,_⟩:=g5)
   have:=g5.ne hA;have:=g5.ne' hA
   refine nl_ ?_
   iterate 6 refine s1_ ?_
   refine ca_ rfl (cf _) ?_
   rintro _ S1 ⟨rfl,h1⟩
   rw [h1];clear h1 S1
   iterate 3 refine s1_ ?_
   refine k_v8 0 3 9 10 11 12 5 17 ?_
   refine cT_ ?_
   iterate 12 refine s1_ ?_
   refine ⟨i+1,?_,?_,?_,?_⟩
   all_goals (try dsimp only)
   ·exact ⟨rfl,some_int (by omega),rfl,rfl,rfl,trivial⟩
   ·exact less_
   ·exact hc
   ·omega
 ·have hcn:x.fr.countP (fun z=>!decide (z=F0))≤x.fr.length:=List.countP_le_length
  have hc:i=x.fr.length:=by have:=of_decide_eq_false hc;omega
  subst hc
  rw [List.take_length]
  iterate 12 refine s1_ ?_
  refine ⟨_,S,⟨_,_,rfl,rfl,rfl⟩,less_,?_⟩
  exact ⟨⟨_,by omega,rfl⟩,rfl⟩
set_option maxHeartbeats 2000000 in
theorem pl_idles (a p b c:Nat) (x:Pl) (k:Int) (S:Mem) (hA:S.own a=some (arB p b c x k)) (hF:Sl 7 frF S (.slice (some ⟨b,0,none⟩) x.fr.length c) x.fr) (h256:x.fr.length≤256) :
  ACall Tryz.prog 127 #[.pointer (some ⟨a,0,none⟩)] S fun r S'=>r = .int .i64 (idlesP x:Nat)∧S'=S:=by
 unfold arB at hA
 unfold idlesP
 refine k_E1 (rs:=[.tmp 2]) 21 Tryz.func127 rfl rfl rfl ?_
 iterate 22 refine s1_ ?_
 refine AWP.loop (X:=Nat) (fun y=>[(0,.pointer (some ⟨a,0,none⟩)),(3,.int .i64 ((x.fr.take y).countP (fun z=>decide z.idle):Nat)),(9,.slice (some ⟨b,0,none⟩) x.fr.length c),(10,.int .i64 x.fr.length),(11,.int .i64 y)]) (fun _=>S) (fun y=>y≤x.fr.length) (fun y=>x.fr.length-y) (0) ⟨rfl,some_int (by simp),rfl,rfl,rfl,trivial⟩ less_ (Nat.zero_le _) ?_
 rintro i hi
 (try dsimp only at *)
 iterate 6 refine s1_ ?_
 refine AWP.condB rfl (fun hc=>?_) (fun hc=>?_)
 ·have hc:i<x.fr.length:=by have:=of_decide_eq_true hc;omega
  have hki:=sl_at hF i hc
  have t1:=count_take (q:=fun z=>decide z.idle) hc
  have u1:=count_le (q:=fun z=>decide z.idle) x.fr (i+1)
  generalize x.fr[i]=y at *
  have cf:=fun S=>pl_idle y S
  unfold frV at cf
  unfold frF at hki
  by_cases q:y.idle
  ·simp only [q,decide_true,if_true] at t1
   rw [decide_eq_true q] at cf
   iterate 8 refine s1_ ?_
   refine ARun.alloc (lit_lt rfl) ty_zero_226 ?_
   intro b5 f5
   have g5:=f5
   repeat ((with_reducible replace g5:=fresh_set g5);obtain ⟨g5,_⟩:=g5)
   have:=g5.ne hA;have:=g5.ne' hA
   refine nl_ ?_
   iterate 6 refine s1_ ?_
   refine ca_ rfl (cf _) ?_
   rintro _ S1 ⟨rfl,h1⟩
   rw [h1];clear h1 S1
   iterate 2 refine s1_ ?_
   refine cT_ ?_
   iterate 12 refine s1_ ?_
   refine ⟨i+1,?_,?_,?_,?_⟩
   all_goals (try dsimp only)
   ·exact ⟨rfl,some_int (by omega),rfl,rfl,rfl,trivial⟩
   ·exact less_
   ·exact hc
   ·omega
  ·simp only [q,decide_false,Bool.false_eq_true,if_false,Nat.add_zero] at t1
   rw [decide_eq_false q] at cf
   iterate 8 refine s1_ ?_
   refine ARun.alloc (lit_lt rfl) ty_zero_226 ?_
   intro b5 f5
   have g5:=f5
   repeat ((with_reducible replace g5:=fresh_set g5);obtain ⟨g5,_⟩:=g5)
   have:=g5.ne hA;have:=g5.ne' hA
   refine nl_ ?_
   iterate 3 refine s1_ ?_
   refine k_v7 0 3 9 10 11 12 5 ?_
   iterate 3 refine s1_ ?_
   refine ca_ rfl (cf _) ?_
   rintro _ S1 ⟨rfl,h1⟩
   rw [h1];clear h1 S1
   iterate 2 refine s1_ ?_
   refine cF_ ?_
   iterate 8 refine s1_ ?_
   refine ⟨i+1,?_,?_,?_,?_⟩
   all_goals (try dsimp only)
   ·exact ⟨rfl,some_int (by omega),rfl,rfl,rfl,trivial⟩
   ·exact less_
   ·exact hc
   ·omega
 ·have hc:i=x.fr.length:=by have:=of_decide_eq_false hc;omega
  subst hc
  rw [List.take_length]
  iterate 12 refine s1_ ?_
  refine ⟨_,S,⟨_,_,rfl,rfl,rfl⟩,less_,?_⟩
  exact ⟨rfl,rfl⟩
theorem ar_eq {M:Mem} {a p b c:Nat} {x x':Pl} {k:Int} (h1:x.fr=x'.fr) (h2:x.tick=x'.tick) (h3:x.reads=x'.reads) (h4:x.writes=x'.writes):arM M a p b c x k=arM M a p b c x' k:=by
 unfold arM arB;rw [h1,h2,h3,h4]
theorem kn_fr {S:Mem} {b o:Nat} {y:Fr} (h:S.Knows ⟨b,o,none⟩ (frF y)):S.Knows ⟨b,o+0,none⟩ [.string y.name]∧S.Knows ⟨b,o+1,none⟩ [.int .i64 y.sector]∧S.Knows ⟨b,o+2,none⟩ [.string y.data]∧S.Knows ⟨b,o+3,none⟩ [.int .i64 y.pins]∧S.Knows ⟨b,o+4,none⟩ [.bool y.dirty]∧S.Knows ⟨b,o+5,none⟩ [.int .u64 y.tick]∧S.Knows ⟨b,o+6,none⟩ [.bool y.leased] :=
 ⟨kn_at h 0 rfl,kn_at h 1 rfl,kn_at h 2 rfl,kn_at h 3 rfl,kn_at h 4 rfl,kn_at h 5 rfl,kn_at h 6 rfl⟩
theorem kn_zero {S:Mem} {b o:Nat} {cs:List Value} (h:S.Knows ⟨b,0+o,none⟩ cs):S.Knows ⟨b,o,none⟩ cs:=by rw [Nat.zero_add] at h;exact h
def ArR (S:Mem) (a p b c:Nat) (q:Pl × Int) (r:Value) (S':Mem):Prop:=r = .int .i64 q.2∧ArS S a p b c q.1 S'
set_option maxHeartbeats 2000000 in
theorem pl_write (a p b c:Nat) (x:Pl) (i:Nat) (k:Int) (S:Mem) (oE oW:Option (Nat × Nat)) (hok:OkA S a p b c x oE oW) (hw:PW x) (hi:i<x.fr.length) :
  ACall Tryz.prog 142 #[.pointer (some ⟨a,0,none⟩),.int .i64 (i:Nat)] (arM (devM S p x.d oE oW) a p b c x k) (ArR S a p b c (wrP x i)):=by
 have hi2:=Nat.le_trans (Nat.le_of_lt hi) hw.l2
 have hA:=ar_own (M:=devM S p x.d oE oW) (a:=a) (p:=p) (b:=b) (c:=c) (x:=x) (k:=k)
 have hok1:OkA S a p b c { x with writes:=up1 x.writes } oE oW:=hok.like rfl rfl
 have hcall:=ar_call hok1 k (dev_Write p x.d (atF x i).name (atF x i).sector (atF x i).data S oE oW hok1.v hw.dr hw.fu)
 have hsA:=ar_setA (M:=devM S p x.d oE oW) (a:=a) (p:=p) (b:=b) (c:=c) (x:=x) (x':={ x with writes:=up1 x.writes }) (k:=k) (k':=k) rfl
 have hA1:=ar_own (M:=devM S p x.d oE oW) (a:=a) (p:=p) (b:=b) (c:=c) (x:={ x with writes:=up1 x.writes }) (k:=k)
 have hK:=ar_kn (M:=devM S p x.d oE oW) (p:=p) (x:={ x with writes:=up1 x.writes }) (k:=k) hok1.ab hok1.l hw.l2 hi
 obtain ⟨k0,k1,k2,k3,k4,k5,k6⟩:=kn_fr (kn_zero hK)
 have hat:atF { x with writes:=up1 x.writes } i=atF x i:=rfl
 rw [hat] at k0 k1 k2 k3 k4 k5 k6
 unfold wrP
 generalize hy:atF x i=y at *
 generalize hq:writeD x.d y.name y.sector y.data=q at *
 generalize hT:arM (devM S p x.d oE oW) a p b c x k=T at *
 generalize hT1:arM (devM S p x.d oE oW) a p b c { x with writes:=up1 x.writes } k=T1 at *
 unfold arB at hA hA1
 refine k_E2 (rs:=[.tmp 4]) 43 Tryz.func142 rfl rfl rfl ?_
 iterate 25 refine s1_ ?_
 refine ARun.store1 rfl rfl ty_size_33 rfl hA (show 4<6 from by decide) rfl ?_
 try simp only [k_ms,k_sz,k_ss,k_za,Nat.reduceAdd]
 iterate 2 refine s1_ ?_
 refine AWP.less T1 (by rw [← hsA];exact Mem.Less.refl _) ?_
 refine s1_ ?_
 refine AWP.draw [(0,true),(1,true),(2,true),(3,true),(4,true),(5,true),(6,true),(7,true),(8,true),(9,true),(10,true),(11,true),(12,true),(13,true),(14,true),(15,true),(16,false),(17,true)] [16] mixed (by kernel_rfl) ?_
 iterate 16 refine s1_ ?_
 refine draw_only rfl ?_
 refine ca_ rfl (hcall) ?_
 rintro _ S1 ⟨M,⟨oE',oW',hok',rfl,hM⟩,fb,fa,h1⟩
 rw [h1];clear h1 S1;rw [hM] at fb fa ⊢
 refine arun_nil ⟨fun h=>absurd h (by decide),?_⟩
 iterate 3 refine s1_ ?_
 by_cases e0:q.2=0
 ·iterate 7 refine s1_ ?_
  refine cT_ ?_
  iterate 4 refine s1_ ?_
  refine ARun.storeFr1 (c:=c) (i:=i) (l:=x.fr) (q:=4) (u:={ y with dirty:=false }) rfl rfl rfl rfl (by omega) (by decide) hi (by rw [← hy,atF_eq hi];rfl) ty_size_4 (ar_fr hok.ab) ?_
  try simp only [k_ms,k_sz,k_ss,k_za,Nat.reduceAdd]
  iterate 2 refine s1_ ?_
  refine k_v6 0 1 4 5 6 38 ?_
  rw [show ∀ u,(arM (devM S p q.1 oE' oW') a p b c { x with writes:=up1 x.writes } k).set b (frB (x.fr.set i u) c)=arM (devM S p q.1 oE' oW') a p b c { x with writes:=up1 x.writes,fr:=x.fr.set i u } k from fun u=>ar_setF hok.ab _ (by simp)]
  iterate 7 refine s1_ ?_
  refine ⟨_,arM (devM S p q.1 oE' oW') a p b c { x with writes:=up1 x.writes,fr:=x.fr.set i { y with dirty:=false } } k,⟨_,_,rfl,rfl,rfl⟩,Mem.Less.refl _,?_⟩
  exact ⟨rfl,k,oE',oW',⟨hok',fb,fa,hok.ab,by simp only [if_pos e0,List.length_set];exact hok.l⟩,by simp only [if_pos e0];exact ar_eq rfl rfl rfl rfl⟩
 ·iterate 7 refine s1_ ?_
  refine cF_ ?_
  iterate 9 refine s1_ ?_
  refine ⟨_,arM (devM S p q.1 oE' oW') a p b c { x with writes:=up1 x.writes } k,⟨_,_,rfl,rfl,rfl⟩,Mem.Less.refl _,?_⟩
  exact ⟨rfl,k,oE',oW',⟨hok',fb,fa,hok.ab,by simp only [if_neg e0];exact hok.l⟩,by simp only [if_neg e0];exact ar_eq rfl rfl rfl rfl⟩
end
section
open Go.RowKit
open Mv Disk
set_option maxRecDepth 4000
theorem wrP_len (x:Pl) (i:Nat):(wrP x i).1.fr.length=x.fr.length:=by
 unfold wrP;simp only;split <;> simp
theorem getD_at {l:List Fr} {i:Nat} (h:i<l.length):l.getD i F0=l[i]:=by simp [List.getD,List.getElem?_eq_getElem h]
theorem findF0_at {l:List Fr} {i:Nat} (h:i<l.length) (he:l[i]=F0) (hn:∀ j (hj:j<l.length),j<i→l[j]≠F0):l.findIdx (fun x=>decide (x=F0))=i :=
 (List.findIdx_eq h).2 ⟨by simp [he],fun j hj=>by simp [hn j (by omega) hj]⟩
theorem findF0_no {l:List Fr} (hn:∀ j (hj:j<l.length),l[j]≠F0) : ¬ l.findIdx (fun x=>decide (x=F0))<l.length:=fun h=>by
 have:=List.findIdx_getElem (w:=h)
 simp only [decide_eq_true_eq] at this
 exact hn _ h this
set_option maxHeartbeats 4000000 in
theorem pl_take (a p b c:Nat) (x:Pl) (k:Int) (S:Mem) (oE oW:Option (Nat × Nat)) (hok:OkA S a p b c x oE oW) (hw:PW x) :
  ACall Tryz.prog 128 #[.pointer (some ⟨a,0,none⟩)] (arM (devM S p x.d oE oW) a p b c x k) fun r S'=>r = .tuple #[.int .i64 ((takeP x).2.1:Nat),.int .i64 (takeP x).2.2]∧ArS S a p b c (takeP x).1 S':=by
 have h256:=hw.l2
 have hA:=ar_own (M:=devM S p x.d oE oW) (a:=a) (p:=p) (b:=b) (c:=c) (x:=x) (k:=k)
 have hB:=ar_fr (M:=devM S p x.d oE oW) (p:=p) (c:=c) (x:=x) (k:=k) hok.ab
 have hF:=ar_sl (M:=devM S p x.d oE oW) (p:=p) (x:=x) (k:=k) hok.ab hok.l hw.l2
 have hsA:=fun k'=>ar_setA (M:=devM S p x.d oE oW) (a:=a) (p:=p) (b:=b) (c:=c) (x:=x) (x':=x) (k:=k) (k':=k') rfl
 have hsF:=fun fr' h=>ar_setF (M:=devM S p x.d oE oW) (p:=p) (c:=c) (x:=x) (k:=k) hok.ab fr' h
 have hwr:=fun m hm=>pl_write a p b c x m k S oE oW hok hw hm
 generalize hT:arM (devM S p x.d oE oW) a p b c x k=T at *
 have hbusy:=fun S=>pl_busy a p b c x k S
 unfold arB at hA hbusy
 refine k_E1 (rs:=[.tmp 2,.tmp 3]) 79 Tryz.func128 rfl rfl rfl ?_
 iterate 23 refine s1_ ?_
 refine AWP.loop (X:=Nat) (fun y=>[(0,.pointer (some ⟨a,0,none⟩)),(4,.int .i64 (bestF x.fr y)),(11,.slice (some ⟨b,0,none⟩) x.fr.length c),(12,.int .i64 x.fr.length),(13,.int .i64 y)]) (fun _=>T) (fun y=>y≤x.fr.length ∧ ∀ j (hj:j<x.fr.length),j<y→x.fr[j]≠F0) (fun y=>x.fr.length-y) (0) ⟨rfl,rfl,rfl,rfl,rfl,trivial⟩ less_ (⟨Nat.zero_le _,fun j _ h=>absurd h (Nat.not_lt_zero _)⟩) ?_
 rintro i ⟨hi,hno⟩
 (try dsimp only at *)
 obtain ⟨hb0,hb1⟩:=bestF_le x.fr i
 iterate 6 refine s1_ ?_
 refine AWP.condB rfl (fun hc=>?_) (fun hc=>?_)
 ·have hc:i<x.fr.length:=by have:=of_decide_eq_true hc;omega
  have hki:=sl_at hF i hc
  have hge:=getD_at hc
  by_cases q:x.fr[i]=F0
  ·have htk:takeP x=(x,i,0):=by unfold takeP;rw [findF0_at hc q hno,if_pos hc]
   rw [htk]
   have cf:=fun S=>pl_free x.fr[i] S
   rw [decide_eq_true q] at cf
   generalize x.fr[i]=y at *
   unfold frV at cf
   unfold frF at hki
   iterate 9 refine s1_ ?_
   refine ARun.alloc (lit_lt rfl) ty_zero_226 ?_
   intro b6 f6
   have g6:=f6
   repeat ((with_reducible replace g6:=fresh_set g6);obtain ⟨g6,_⟩:=g6)
   have:=g6.ne hA;have:=g6.ne' hA
   refine nl_ ?_
   iterate 8 refine s1_ ?_
   refine ca_ rfl (cf _) ?_
   rintro _ S1 ⟨rfl,h1⟩
   rw [h1];clear h1 S1
   iterate 3 refine s1_ ?_
   refine cT_ ?_
   refine s1_ ?_
   refine AWP.draw [(0,true),(1,true),(2,true),(3,true),(4,true),(5,true),(6,false),(7,true),(8,true),(9,true),(10,true),(11,false)] [11] mixed (by kernel_rfl) ?_
   iterate 6 refine s1_ ?_
   refine draw_only rfl ?_
   refine ca_ rfl (hbusy _ own_ (hF.less less_) h256) ?_
   rintro _ S1 ⟨⟨n,hn,rfl⟩,h1⟩
   rw [h1];clear h1 S1
   refine arun_nil ⟨fun _=>less_,?_⟩
   refine s1_ ?_
   refine dC (hc:=Calm.maxE rfl rfl rfl) (h:=?_)
   iterate 2 refine s1_ ?_
   refine draw_only rfl ?_
   refine ARun.store1 (r:=⟨_,[_,_,_,_,_,_],6⟩) rfl rfl ty_size_3 rfl own_ (show 0+5<6 from by decide) rfl ?_
   try simp only [k_ms,k_sz,k_ss,k_za,Nat.reduceAdd]
   refine arun_nil ⟨fun h=>absurd h (by decide),?_⟩
   iterate 9 refine s1_ ?_
   refine k_v11 0 4 11 12 13 14 6 5 18 2 3 ?_
   iterate 7 refine s1_ ?_
   refine ⟨_,arM (devM S p x.d oE oW) a p b c x (max k ((n:Int)+1)),⟨_,_,rfl,⟨_,_,rfl,rfl,rfl⟩,rfl⟩,(by rw [← hsA];exact Less.set (Mem.less_set _ _ _ g6.1) _ _),?_⟩
   exact ⟨rfl,max k ((n:Int)+1),oE,oW,hok,rfl⟩
  ·have hno':∀ j (hj:j<x.fr.length),j<i+1→x.fr[j]≠F0:=fun j hj h=>by rcases Nat.lt_or_ge j i with h' | h';exact hno j hj h';obtain rfl:j=i:=(by omega);exact q
   by_cases q2:x.fr[i].idle
   ·by_cases q3:bestF x.fr i<0
    ·have hbs:bestF x.fr (i+1)=(i:Nat):=by rw [bestF,if_pos ⟨by rw [hge];exact q2,.inl q3⟩]
     have cf:=fun S=>pl_free x.fr[i] S
     rw [decide_eq_false q] at cf
     have ci:=fun S=>pl_idle x.fr[i] S
     rw [decide_eq_true q2] at ci
     generalize x.fr[i]=y at *
     unfold frV at cf ci
     unfold frF at hki
     iterate 9 refine s1_ ?_
     refine ARun.alloc (lit_lt rfl) ty_zero_226 ?_
     intro b6 f6
     have g6:=f6
     repeat ((with_reducible replace g6:=fresh_set g6);obtain ⟨g6,_⟩:=g6)
     have:=g6.ne hA;have:=g6.ne' hA
     refine nl_ ?_
     iterate 8 refine s1_ ?_
     refine ca_ rfl (cf _) ?_
     rintro _ S1 ⟨rfl,h1⟩
     rw [h1];clear h1 S1
     iterate 3 refine s1_ ?_
     refine cF_ ?_
     iterate 3 refine s1_ ?_
     refine ca_ rfl (ci _) ?_
     rintro _ S1 ⟨rfl,h1⟩
     rw [h1];clear h1 S1
     iterate 4 refine s1_ ?_
     refine cF_ ?_
     refine s1_ ?_
     refine AWP.draw [(0,true),(1,true),(2,true),(3,true),(4,true),(5,true),(6,true),(7,true),(8,true),(9,true),(10,true),(11,true),(12,true),(13,true),(14,true),(15,true)] [] mixed (by kernel_rfl) ?_
     refine s1_ ?_
     refine dP (hc:=fun _=>Calm.bin rfl rfl (bin_bool (bin_lss _ _) (decide_eq_true q3))) (h:=?_)
     iterate 16 refine s1_ ?_
     refine cT_ ?_
     iterate 7 refine s1_ ?_
     refine k_v11 0 4 11 12 13 14 6 5 18 33 37 ?_
     iterate 5 refine s1_ ?_
     refine ⟨i+1,?_,?_,?_,?_⟩
     all_goals (try dsimp only)
     ·exact ⟨rfl,some_int hbs.symm,rfl,rfl,rfl,trivial⟩
     ·exact less_
     ·exact ⟨hc,hno'⟩
     ·omega
    ·obtain ⟨m,hm⟩ : ∃ m:Nat,bestF x.fr i=(m:Int):=⟨_,(Int.toNat_of_nonneg (by omega)).symm⟩
     have hml:m<x.fr.length:=by omega
     obtain ⟨_,_,_,_,_,kb,_⟩:=kn_fr (sl_at hF m hml)
     have hbs:bestF x.fr (i+1)=if x.fr[i].tick<x.fr[m].tick then (i:Int) else (m:Int):=by rw [bestF,hm,hge,Int.toNat_natCast,getD_at hml];by_cases z:x.fr[i].tick<x.fr[m].tick;rw [if_pos z,if_pos ⟨q2,.inr z⟩];rw [if_neg z,if_neg (fun h=>h.2.elim (by omega) z)]
     rw [hm]
     have cf:=fun S=>pl_free x.fr[i] S
     rw [decide_eq_false q] at cf
     have ci:=fun S=>pl_idle x.fr[i] S
     rw [decide_eq_true q2] at ci
     generalize x.fr[m]=z at *
     generalize x.fr[i]=y at *
     unfold frV at cf ci
     unfold frF at hki
     iterate 9 refine s1_ ?_
     refine ARun.alloc (lit_lt rfl) ty_zero_226 ?_
     intro b6 f6
     have g6:=f6
     repeat ((with_reducible replace g6:=fresh_set g6);obtain ⟨g6,_⟩:=g6)
     have:=g6.ne hA;have:=g6.ne' hA
     refine nl_ ?_
     iterate 8 refine s1_ ?_
     refine ca_ rfl (cf _) ?_
     rintro _ S1 ⟨rfl,h1⟩
     rw [h1];clear h1 S1
     iterate 3 refine s1_ ?_
     refine cF_ ?_
     iterate 3 refine s1_ ?_
     refine ca_ rfl (ci _) ?_
     rintro _ S1 ⟨rfl,h1⟩
     rw [h1];clear h1 S1
     iterate 4 refine s1_ ?_
     refine cF_ ?_
     refine s1_ ?_
     refine AWP.draw [(0,true),(1,true),(2,true),(3,true),(4,true),(5,true),(6,true),(7,true),(8,true),(9,true),(10,true),(11,true),(12,true),(13,true),(14,true),(15,true)] [] mixed (by kernel_rfl) ?_
     refine s1_ ?_
     refine dP (hc:=fun _=>Calm.bin rfl rfl (bin_bool (bin_lss _ _) (decide_eq_false (by omega)))) (h:=?_)
     iterate 16 refine s1_ ?_
     refine AWP.condB rfl (fun hx=>?_) (fun hx=>?_)
     ·iterate 7 refine s1_ ?_
      refine k_v11 0 4 11 12 13 14 6 5 18 33 37 ?_
      iterate 5 refine s1_ ?_
      refine ⟨i+1,?_,?_,?_,?_⟩
      all_goals (try dsimp only)
      ·exact ⟨rfl,some_int (by rw [hbs,if_pos (of_decide_eq_true hx)]),rfl,rfl,rfl,trivial⟩
      ·exact less_
      ·exact ⟨hc,hno'⟩
      ·omega
     ·iterate 9 refine s1_ ?_
      refine ⟨i+1,?_,?_,?_,?_⟩
      all_goals (try dsimp only)
      ·exact ⟨rfl,some_int (by rw [hbs,if_neg (of_decide_eq_false hx)]),rfl,rfl,rfl,trivial⟩
      ·exact less_
      ·exact ⟨hc,hno'⟩
      ·omega
   ·have hbs:bestF x.fr (i+1)=bestF x.fr i:=by rw [bestF,if_neg (fun h=>q2 (by rw [← hge];exact h.1))]
    have cf:=fun S=>pl_free x.fr[i] S
    rw [decide_eq_false q] at cf
    have ci:=fun S=>pl_idle x.fr[i] S
    rw [decide_eq_false q2] at ci
    generalize x.fr[i]=y at *
    unfold frV at cf ci
    unfold frF at hki
    iterate 9 refine s1_ ?_
    refine ARun.alloc (lit_lt rfl) ty_zero_226 ?_
    intro b6 f6
    have g6:=f6
    repeat ((with_reducible replace g6:=fresh_set g6);obtain ⟨g6,_⟩:=g6)
    have:=g6.ne hA;have:=g6.ne' hA
    refine nl_ ?_
    iterate 8 refine s1_ ?_
    refine ca_ rfl (cf _) ?_
    rintro _ S1 ⟨rfl,h1⟩
    rw [h1];clear h1 S1
    iterate 3 refine s1_ ?_
    refine cF_ ?_
    iterate 3 refine s1_ ?_
    refine ca_ rfl (ci _) ?_
    rintro _ S1 ⟨rfl,h1⟩
    rw [h1];clear h1 S1
    iterate 4 refine s1_ ?_
    refine cT_ ?_
    iterate 9 refine s1_ ?_
    refine ⟨i+1,?_,?_,?_,?_⟩
    all_goals (try dsimp only)
    ·exact ⟨rfl,some_int hbs.symm,rfl,rfl,rfl,trivial⟩
    ·exact less_
    ·exact ⟨hc,hno'⟩
    ·omega
 ·have hc:i=x.fr.length:=by have:=of_decide_eq_false hc;omega
  subst hc
  have hnf:=findF0_no (fun j hj=>hno j hj hj)
  by_cases q3:bestF x.fr x.fr.length<0
  ·have htk:takeP x=(x,0,9):=by unfold takeP;rw [if_neg hnf,if_pos q3]
   rw [htk]
   iterate 12 refine s1_ ?_
   refine cT_ ?_
   iterate 8 refine s1_ ?_
   refine ⟨_,T,⟨_,_,rfl,⟨_,_,rfl,rfl,rfl⟩,rfl⟩,less_,?_⟩
   exact ⟨rfl,k,oE,oW,hok,hT.symm⟩
  ·obtain ⟨m,hm⟩ : ∃ m:Nat,bestF x.fr x.fr.length=(m:Int):=⟨_,(Int.toNat_of_nonneg (by omega)).symm⟩
   have hml:m<x.fr.length:=by omega
   have hmt:(bestF x.fr x.fr.length).toNat=m:=by rw [hm];rfl
   obtain ⟨_,_,_,_,kb,_,_⟩:=kn_fr (sl_at hF m hml)
   rw [hm]
   by_cases q4:x.fr[m].dirty=true
   ·have hwm:=hwr m hml
    iterate 12 refine s1_ ?_
    refine k_v7 0 4 11 12 13 14 56 ?_
    refine cF_ ?_
    iterate 12 refine s1_ ?_
    refine rC (Calm.as (congrArg Value.bool q4) (ld_ ty_plain_4 rfl)) ?_
    iterate 2 refine s1_ ?_
    refine cT_ ?_
    iterate 4 refine s1_ ?_
    refine ca_ rfl (hwm) ?_
    rintro _ S1 ⟨rfl,k',oE',oW',hok',h1⟩
    rw [h1];clear h1 S1
    have hA2:=ar_own (M:=devM S p (wrP x m).1.d oE' oW') (a:=a) (p:=p) (b:=b) (c:=c) (x:=(wrP x m).1) (k:=k')
    have hB2:=ar_fr (M:=devM S p (wrP x m).1.d oE' oW') (p:=p) (c:=c) (x:=(wrP x m).1) (k:=k') hok.ab
    have hsF2:=fun fr' h=>ar_setF (M:=devM S p (wrP x m).1.d oE' oW') (p:=p) (c:=c) (x:=(wrP x m).1) (k:=k') hok.ab fr' h
    have hwl:=wrP_len x m
    have htk:takeP x=if (wrP x m).2=0 then (setP (wrP x m).1 m F0,m,0) else ((wrP x m).1,0,(wrP x m).2):=by unfold takeP;rw [if_neg hnf,if_neg q3,hmt,if_pos (by rw [atF_eq hml];exact q4)]
    rw [htk]
    generalize wrP x m=u at *
    unfold arB at hA2
    rw [hwl] at hA2
    iterate 3 refine s1_ ?_
    by_cases e0:u.2=0
    ·rw [if_pos e0]
     iterate 6 refine s1_ ?_
     refine cF_ ?_
     iterate 11 refine s1_ ?_
     refine ARun.storeFr (c:=c) (i:=m) (l:=u.1.fr) (u:=F0) rfl rfl rfl (by omega) (by omega) ty_size_226 hB2 ?_
     try simp only [k_ms,k_sz,k_ss,k_za,Nat.reduceAdd]
     iterate 9 refine s1_ ?_
     refine k_v12 0 4 11 12 13 14 56 64 7 69 2 3 ?_
     refine s1_ ?_
     refine ⟨_,arM (devM S p u.1.d oE' oW') a p b c (setP u.1 m F0) k',⟨_,_,rfl,⟨_,_,rfl,rfl,rfl⟩,rfl⟩,(by rw [hsF2 _ (by simp)];exact Mem.Less.refl _),?_⟩
     exact ⟨rfl,k',oE',oW',hok'.like rfl (by unfold setP;simp),rfl⟩
    ·rw [if_neg e0]
     iterate 6 refine s1_ ?_
     refine cT_ ?_
     iterate 9 refine s1_ ?_
     refine ⟨_,arM (devM S p u.1.d oE' oW') a p b c u.1 k',⟨_,_,rfl,⟨_,_,rfl,rfl,rfl⟩,rfl⟩,Mem.Less.refl _,?_⟩
     exact ⟨rfl,k',oE',oW',hok',rfl⟩
   ·have q4':x.fr[m].dirty=false:=by simpa using q4
    have htk:takeP x=(setP x m F0,m,0):=by unfold takeP;rw [if_neg hnf,if_neg q3,hmt,if_neg (by rw [atF_eq hml];exact q4)]
    rw [htk]
    iterate 12 refine s1_ ?_
    refine cF_ ?_
    iterate 12 refine s1_ ?_
    refine rC (Calm.as (congrArg Value.bool q4') (ld_ ty_plain_4 rfl)) ?_
    iterate 2 refine s1_ ?_
    refine cF_ ?_
    iterate 11 refine s1_ ?_
    refine ARun.storeFr (c:=c) (i:=m) (l:=x.fr) (u:=F0) rfl rfl rfl (by omega) hml ty_size_226 hB ?_
    try simp only [k_ms,k_sz,k_ss,k_za,Nat.reduceAdd]
    iterate 2 refine s1_ ?_
    refine k_v8 0 4 11 12 13 14 56 64 ?_
    iterate 8 refine s1_ ?_
    refine ⟨_,arM (devM S p x.d oE oW) a p b c (setP x m F0) k,⟨_,_,rfl,⟨_,_,rfl,rfl,rfl⟩,rfl⟩,(by rw [hsF _ (by simp)];exact Mem.Less.refl _),?_⟩
    exact ⟨rfl,k,oE,oW,hok.like rfl (by unfold setP;simp),rfl⟩
end
end Go.Proofs.YtcpiknecmjbknaaGreatDoor
