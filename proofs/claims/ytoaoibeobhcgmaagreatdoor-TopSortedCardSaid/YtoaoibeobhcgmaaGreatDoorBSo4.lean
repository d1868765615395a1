/-
  Texts that belong together: Rec1, Rec2, Rec3, Str, Rec4, CmK, VNum5, VNum3, VNum6, Rec5, Rec6, Rec7, RecMath3, RecMath4, TlMath, Sto1, Pool1, Pool3, Pool4, Pool5, Pool6, Pool7, Sto2, Sto3, Sto4, Sto5, Pool8.
-/
import Derived.Test.YtoaoibeobhcgmaaGreatDoorBSo3
import Derived.Shelf.SlSortCmp.Whole1
set_option linter.unusedVariables false
set_option linter.unusedSimpArgs false
set_option linter.unusedSectionVars false
namespace Go.Proofs.YtoaoibeobhcgmaaGreatDoor
section
open Go.RowKit
open Mv Disk Num
set_option maxRecDepth 4000
namespace Rec
theorem zeI (w:Nat) (S:Mem) (hw:w≤8):ACall Tryz.prog 62 #[.int .i64 (w:Int)] S fun r S'=>r = .int .i64 ((eachN w:Nat):Int)∧S'=S:=by
 unfold eachN
 by_cases h0:w=0
 ·subst h0
  refine k_E1 (rs:=[.tmp 2]) 7 Tryz.func62 rfl rfl rfl ?_
  refine r12_ ?_
  refine cT_ ?_
  refine r7_ ?_
  refine ⟨_,S,⟨_,_,rfl,rfl,rfl⟩,zad,?_⟩
  exact ⟨rfl,rfl⟩
 ·rw [if_neg h0]
  refine k_E1 (rs:=[.tmp 2]) 7 Tryz.func62 rfl rfl rfl ?_
  refine r12_ ?_
  refine cF_ ?_
  refine r10_ ?_
  refine ⟨_,S,⟨_,_,rfl,rfl,rfl⟩,zad,?_⟩
  exact ⟨by rw [show ((5*w:Nat):Int)=5*(w:Int) from by omega];rfl,rfl⟩
theorem zcE {k c:Nat} (hk:k≤8) (hc:c≤65536):0≤((eachN k:Nat):Int)*(c:Int)∧((eachN k:Nat):Int)*(c:Int)≤2621440∧((eachN k:Nat):Int)*(c:Int)=((eachN k*c:Nat):Int):=by
 have:=Nat.mul_le_mul (zeG hk) hc
 have e:((eachN k:Nat):Int)*(c:Int)=((eachN k*c:Nat):Int):=by push_cast;rfl
 rw [e];omega
def needV (p:Int × Int):Value:=.tuple #[.int .i64 p.1,.int .i64 p.2]
theorem zeJ (w:Int) (c:Nat) (S:Mem):ACall Tryz.prog 38 #[.int .i64 w,.int .u64 (c:Int)] S fun r S'=>r=needV (needP w c)∧S'=S:=by
 unfold needV needP
 by_cases h1:w<0
 ·rw [if_pos (.inl h1)]
  refine k_E2 (rs:=[.tmp 4,.tmp 5]) 25 Tryz.func38 rfl rfl rfl ?_
  refine r21_ ?_
  refine cT_ ?_
  refine r8_ ?_
  refine ⟨_,S,⟨_,_,rfl,⟨_,_,rfl,rfl,rfl⟩,rfl⟩,zad,?_⟩
  exact ⟨rfl,rfl⟩
 by_cases h2:8<w
 ·rw [if_pos (.inr (.inl h2))]
  refine k_E2 (rs:=[.tmp 4,.tmp 5]) 25 Tryz.func38 rfl rfl rfl ?_
  refine r21_ ?_
  refine cT_ ?_
  refine r8_ ?_
  refine ⟨_,S,⟨_,_,rfl,⟨_,_,rfl,rfl,rfl⟩,rfl⟩,zad,?_⟩
  exact ⟨rfl,rfl⟩
 by_cases h3:65536<c
 ·rw [if_pos (.inr (.inr h3))]
  refine k_E2 (rs:=[.tmp 4,.tmp 5]) 25 Tryz.func38 rfl rfl rfl ?_
  refine r21_ ?_
  refine cT_ ?_
  refine r8_ ?_
  refine ⟨_,S,⟨_,_,rfl,⟨_,_,rfl,rfl,rfl⟩,rfl⟩,zad,?_⟩
  exact ⟨rfl,rfl⟩
 rw [if_neg (by omega)]
 obtain ⟨k,rfl⟩:=Int.eq_ofNat_of_zero_le (by omega:0≤w)
 obtain ⟨m1,m2,m3⟩:=zcE (k:=k) (c:=c) (by omega) (by omega)
 refine k_E2 (rs:=[.tmp 4,.tmp 5]) 25 Tryz.func38 rfl rfl rfl ?_
 refine r21_ ?_
 refine cF_ ?_
 refine r5_ ?_
 refine ca_ rfl (zeI k S (by omega)) ?_
 rintro _ S1 ⟨rfl,h1⟩
 rw [h1];clear h1 S1
 refine r11_ ?_
 refine k_v5 0 1 4 5 15 ?_
 refine s1_ ?_
 refine ⟨_,S,⟨_,_,rfl,⟨_,_,rfl,rfl,rfl⟩,rfl⟩,zad,?_⟩
 exact ⟨by rw [m3,Int.toNat_natCast,show (1+(((eachN k*c:Nat):Int)+64-1) / 64)=((needN k c:Nat):Int) from by unfold needN;omega];rfl,rfl⟩
theorem zfQ (s:ByteArray) (S:Mem) (hs:s.size≤140737488355328):ACall Tryz.prog 40 #[.string s] S fun r S'=>r = .string (padS s)∧S'=S:=by
 by_cases h0:s.size % 64=0
 ·have e:padS s=s:=by unfold padS;rw [h0];simp [bs_of]
  rw [e]
  refine k_E1 (rs:=[.tmp 2]) 15 Tryz.func40 rfl rfl rfl ?_
  refine r20_ ?_
  refine cF_ ?_
  refine r9_ ?_
  refine ⟨_,S,⟨_,_,rfl,rfl,rfl⟩,zad,?_⟩
  exact ⟨rfl,rfl⟩
 ·have e:padS s=s ++ bs (List.replicate (64-s.size % 64) 0):=by
   unfold padS
   apply zbv
   rw [Nat.mod_eq_of_lt (by omega)]
   simp [bs]
  have hr:∀ S,ACall Tryz.prog 79 #[.string ⟨#[0]⟩,.int .i64 (64-((s.size % 64:Nat):Int))] S fun r S'=>r = .string (bs (List.replicate (64-s.size % 64) 0))∧S'=S:=fun S=>ACall.of_calls fun w=>by
   have:=Tryz.strings_Repeat ⟨#[0]⟩ (64-s.size % 64) w (by omega) (by show 1*_≤_;omega)
   rw [show (⟨#[0]⟩ : ByteArray).data.toList = [0] from rfl,ze0] at this
   rw [show (64-((s.size % 64:Nat):Int))=((64-s.size % 64:Nat):Int) from by omega]
   exact this
  have hz:(bs (List.replicate (64-s.size % 64) (0:UInt8))).size=64-s.size % 64:=by rw [zaD];simp
  rw [e]
  refine k_E1 (rs:=[.tmp 2]) 15 Tryz.func40 rfl rfl rfl ?_
  refine r20_ ?_
  refine k_v4 0 2 3 8 ?_
  refine cT_ ?_
  refine r4_ ?_
  refine ca_ rfl (hr _) ?_
  rintro _ S1 ⟨rfl,h1⟩
  rw [h1];clear h1 S1
  refine r11_ ?_
  refine ⟨_,S,⟨_,_,rfl,rfl,rfl⟩,zad,?_⟩
  exact ⟨rfl,rfl⟩
theorem zkB (k:Nat) (S:Mem) (hk:k≤8):ACall Tryz.prog 84 #[.int .i64 (k:Int)] S fun r S'=>∃ b,Fresh S b∧r = .slice (some ⟨b,0,none⟩) 1 1∧S'=S.set b ⟨5,cellsB [UInt8.ofNat k],1⟩:=by
 have e:nb (UInt8.ofNat k)=(k:Int):=by unfold nb;rw [UInt8.toNat_ofNat'];omega
 unfold cellsB
 simp only [List.map_cons,List.map_nil,e]
 refine k_E1 (rs:=[.tmp 2]) 6 Tryz.func84 rfl rfl rfl ?_
 refine r9_ ?_
 refine ARun.build1s (zab rfl) zaE rfl rfl ?_
 intro b5 f5
 have g5:=f5
 repeat ((with_reducible replace g5:=zaa g5);obtain ⟨g5,_⟩:=g5)
 refine r4_ ?_
 refine ⟨_,_,⟨_,_,rfl,rfl,rfl⟩,zad,?_⟩
 exact ⟨_,f5,rfl,rfl⟩
theorem zfR (k c:Nat) (S:Mem) (hk:k≤8) (hc:c<18446744073709551616):ACall Tryz.prog 43 #[.int .i64 (k:Int),.int .u64 (c:Int)] S fun r S'=>r = .string (headS k c)∧S'=S:=by
 have h5:(five c).length=5:=rfl
 have hp:((⟨#[87,82]⟩ : ByteArray) ++ bs [UInt8.ofNat k]) ++ bs (five c)=preS k c:=by
  unfold preS
  apply zbv
  simp [bs]
 have hsz:(preS k c).size=8:=by unfold preS;rw [zaD];simp [h5]
 have hfr:frameS (preS k c)=(preS k c ++ Crc.tailS (sumOf (preS k c)),0):=by unfold frameS;rw [if_neg (by omega)]
 have hfs:(preS k c ++ Crc.tailS (sumOf (preS k c))).size=12:=by rw [ByteArray.size_append,hsz,Crc.zbF]
 have hF:∀ S,ACall Tryz.prog 83 #[.string (((⟨#[87,82]⟩ : ByteArray) ++ bs [UInt8.ofNat k]) ++ bs (five c))] S fun r S'=>r = .tuple #[.string (preS k c ++ Crc.tailS (sumOf (preS k c))),.int .i64 0]∧S'=S:=fun S=>ACall.of_calls fun w=>by
  rw [hp]
  have:=zl_ (preS k c) (by rw [hsz];decide) w
  rw [hfr] at this
  exact this
 have z1:(⟨#[87,82]⟩ : ByteArray).size=2:=rfl
 have z2:(bs [UInt8.ofNat k]).size=1:=rfl
 have z3:((⟨#[87,82]⟩ : ByteArray) ++ bs [UInt8.ofNat k]).size=3:=by rw [ByteArray.size_append,z1,z2]
 have z4:(bs (five c)).size=5:=rfl
 unfold headS
 refine k_E2 (rs:=[.tmp 4]) 23 Tryz.func43 rfl rfl rfl ?_
 refine r8_ ?_
 refine ca_ rfl (zfb c _ hc) ?_
 rintro _ S1 ⟨rfl,h1⟩
 rw [h1];clear h1 S1
 refine ARun.alloc (zab rfl) zc5 ?_
 intro b5 f5
 have g5:=f5
 repeat ((with_reducible replace g5:=zaa g5);obtain ⟨g5,_⟩:=g5)
 refine nl_ ?_
 refine ARun.storeAll rfl rfl zea own_ rfl rfl ?_
 try simp only [k_ms,k_sz,k_ss,k_za,Nat.reduceAdd]
 refine r3_ ?_
 refine AWP.draw [(0,true),(4,true),(5,true),(1,false),(2,false),(3,true),(6,true),(7,false),(8,true),(9,true),(10,true),(11,true),(12,true)] [] mixed (by kernel_rfl) ?_
 refine r2_ ?_
 refine dC (hc:=Calm.toStr (l:=five c) zaM zaA rfl h5 (zbA (r:=⟨_,cellsB (five c),_⟩) own_)) (h:=?_)
 refine zac rfl ?_
 refine ca_ rfl (zkB k _ hk) ?_
 rintro _ S1 ⟨b,fb,rfl,h1⟩
 rw [h1];clear h1 S1
 have gb:=(zaa fb).1
 refine zae ⟨fun _=>zad,?_⟩
 refine zac rfl ?_
 refine rC (Calm.toStr (l:=[UInt8.ofNat k]) zaM zaA rfl rfl (zbA (r:=⟨_,cellsB [UInt8.ofNat k],_⟩) own_)) ?_
 refine zae ⟨fun _=>zad,?_⟩
 refine r2_ ?_
 refine zac rfl ?_
 refine ca_ rfl (hF _) ?_
 rintro _ S1 ⟨rfl,h1⟩
 rw [h1];clear h1 S1
 refine zae ⟨fun _=>zad,?_⟩
 refine r10_ ?_
 refine ca_ rfl (zfQ _ _ (by rw [hfs];decide)) ?_
 rintro _ S1 ⟨rfl,h1⟩
 rw [h1];clear h1 S1
 refine r4_ ?_
 refine ⟨_,S,⟨_,_,rfl,rfl,rfl⟩,zad,?_⟩
 exact ⟨rfl,rfl⟩
end Rec
end
section
open Go.RowKit
open Mv Disk Num
set_option maxRecDepth 4000
namespace Rec
theorem zbO {S:Mem} {p:Nat} {e:D} {oE oW:Option (Nat × Nat)} (hok:OkV S p e oE oW) (h:e.ext.length≤9223372036854775807∧e.waits.length≤9223372036854775807) :
  ∃ qe de qw dw,(devM S p e oE oW).own p=some ⟨92,[.int .i64 e.size,.slice qe e.ext.length de,.slice qw e.waits.length dw,.int .i64 e.fuse,.bool e.down],5⟩ ∧
   DkR (devM S p e oE oW) (.agg #[.int .i64 e.size,.slice qe e.ext.length de,.slice qw e.waits.length dw,.int .i64 e.fuse,.bool e.down]) e∧S.Less (devM S p e oE oW):=by
 have hdk:=(hok.dk.dk h.1 h.2).less (Mem.less_set _ p (devB e oE oW) hok.fr.1)
 have hl:=hok.dk.less.trans (Mem.less_set _ p (devB e oE oW) hok.fr.1)
 have hp:(devM S p e oE oW).own p=some (devB e oE oW):=Mem.own_set_same _ _ _
 unfold dkV at hdk
 unfold devB at hp hdk hl
 obtain ⟨qe,de,hqe⟩:=za6 hok.dk.e
 obtain ⟨qw,dw,hqw⟩:=za6 hok.dk.w
 rw [hqe,hqw] at hp hdk hl
 refine ⟨qe,de,qw,dw,hp,?_,?_⟩
 ·unfold devM;rw [hqe,hqw];exact hdk
 ·unfold devM;rw [hqe,hqw];exact hl
abbrev bx (d:D) (pe:Option Addr) (ce:Nat) (pw:Option Addr) (cw:Nat):Blk:=⟨29,[.int .i64 d.size,.slice pe d.ext.length ce,.slice pw d.waits.length cw,.int .i64 d.fuse,.bool d.down],5⟩
abbrev zb:Blk:=⟨29,[.int .i64 0,.slice none 0 0,.slice none 0 0,.int .i64 0,.bool false],5⟩
theorem zhp (d:D):(openD d).1.ext.length≤9223372036854775807∧(openD d).1.waits.length≤9223372036854775807:=by
 rcases zcz d with ⟨ho,hR⟩ | ⟨ho,hR,hdn⟩ | ⟨ho,hR,hdn⟩ <;> rw [ho]
 ·exact ⟨by decide,by decide⟩
 ·exact zaC hR
 ·exact zaC hR
theorem ziI (v:Value) (d:D) (S:Mem) (hd:DkR S v d) (hz:Dz d):ACall Tryz.prog 12 #[v] S (DkRes (refD d) S):=by
 have hopen:=zdI v d S hd hz
 have hlens:=zhp d
 obtain ⟨pe,ce,pw,cw,rfl,hE,hW⟩:=id hd
 unfold refD
 refine k_E1 (rs:=[.cell 2 29,.tmp 3]) 15 Tryz.func12 rfl rfl rfl ?_
 refine r2_ ?_
 refine k_b5 rfl ?_
 intro b1 f1
 have g1:=f1
 repeat ((with_reducible replace g1:=zaa g1);obtain ⟨g1,_⟩:=g1)
 refine nl_ ?_
 refine ARun.alloc (zab rfl) zay ?_
 intro b2 f2
 have g2:=f2
 repeat ((with_reducible replace g2:=zaa g2);obtain ⟨g2,_⟩:=g2)
 refine nl_ ?_
 refine r6_ ?_
 refine ca_ rfl ((hopen.frame f1).frame f2) ?_
 rintro _ S1 ⟨Sa,⟨M,⟨p,oE,oW,hok,rfl,hM⟩,fa,hSa⟩,fb,h1⟩
 rw [h1,hSa];rw [hSa] at fb;clear h1 S1 hSa Sa
 obtain ⟨qe,de,qw,dw,hp,hdk,hl⟩:=zbO hok hlens
 rw [← hM] at hp hdk hl
 obtain ⟨gb,_⟩:=zaa fb
 have:=fa.ne hp;have:=fa.ne' hp;have:=gb.ne hp;have:=gb.ne' hp
 refine r18_ ?_
 refine ⟨_,M,⟨_,_,_,rfl,.inr ⟨zas,[_,_,_,_,_],zao,rds_,rfl⟩,⟨_,_,rfl,rfl,rfl⟩,rfl⟩,zad,?_⟩
 exact ⟨_,rfl,hl,hdk⟩
theorem zoP (x:ByteArray) (j:Nat) (h:64*j+64≤x.size):(x.extract (64*j) x.size).extract 0 64=secAt x j:=by
 unfold secAt
 rw [ByteArray.extract_extract]
 congr 1;omega
theorem zmh (x:ByteArray) (j:Nat) (h:64*j+64≤x.size):(x.extract (64*j) x.size).extract 64 (x.extract (64*j) x.size).size=x.extract (64*(j+1)) x.size:=by
 rw [ByteArray.extract_extract,ByteArray.size_extract]
 congr 1 <;> omega
theorem zkC {d:D} (hR:Right d) (hdn:d.down=false) (hf:d.fuse≤9223372036854775807) (s all:ByteArray) (k:Nat):(putTo d s all k).1.ext.length≤9223372036854775807∧(putTo d s all k).1.waits.length≤9223372036854775807 :=
 zaC (zcl hR hdn hf s all k).1
set_option maxHeartbeats 4000000 in
theorem zrb (v:Value) (d:D) (s:ByteArray) (k c:Nat) (body:ByteArray) (S:Mem) (hd:DkR S v d) (hz:Dz d) (hk:k≤8) (hc:c≤65536) (hb:body.size=eachN k*c) :
  ACall Tryz.prog 15 #[v,.string s,.int .i64 (k:Int),.int .i64 (c:Int),.string body] S (DkRes (opened d (putP d s k c body)) S):=by
 have hopen:=zdI v d S hd hz
 have hlens:=zhp d
 have hneed:needP (k:Int) c=(((needN k c:Nat):Int),0):=by unfold needP;rw [if_neg (by omega),Int.toNat_natCast]
 have hN:=zeJ (k:Int) c
 have hHd:=fun S=>zfR k c S hk (by omega)
 rw [hneed] at hN
 have hn1:=zbl k c
 have hn2:=zgz hk hc
 have hall:(padS body).size=64*(needN k c-1):=by rw [zcX,hb];unfold needN;omega
 have hbz:body.size≤140737488355328:=by have:=(zcE hk hc).2;rw [hb];omega
 have hpad:=fun S=>zfQ body S hbz
 unfold putP
 generalize needN k c=n at *
 generalize padS body=all at *
 generalize headS k c=hs at *
 obtain ⟨pe,ce,pw,cw,rfl,hE,hW⟩:=id hd
 unfold opened
 rcases zcz d with ⟨ho,hR⟩ | ⟨ho,hR,hdn⟩ | ⟨ho,hR,hdn⟩ <;> rw [ho] at hopen ⊢ hlens
 ·rw [if_neg (show ¬ (2:Int)=0 from by decide)]
  refine k_E5 (rs:=[.cell 10 29,.tmp 11]) 81 Tryz.func15 rfl rfl rfl ?_
  refine r2_ ?_
  refine k_b5 rfl ?_
  intro b5 f5
  have g5:=f5
  repeat ((with_reducible replace g5:=zaa g5);obtain ⟨g5,_⟩:=g5)
  refine nl_ ?_
  refine ARun.alloc (zab rfl) zay ?_
  intro b10 f10
  have g10:=f10
  repeat ((with_reducible replace g10:=zaa g10);obtain ⟨g10,_⟩:=g10)
  refine nl_ ?_
  refine r6_ ?_
  refine ca_ rfl ((hopen.frame f5).frame f10) ?_
  rintro _ S1 ⟨Sa,⟨M,⟨p,oE,oW,hok,rfl,hM⟩,fa,hSa⟩,fb,h1⟩
  rw [h1,hSa];rw [hSa] at fb;clear h1 S1 hSa Sa
  refine r14_ ?_
  refine cT_ ?_
  obtain ⟨qe,de,qw,dw,hp,hdk,hl⟩:=zbO hok hlens
  rw [← hM] at hp hdk hl
  obtain ⟨gb,_⟩:=zaa fb
  have:=fa.ne hp;have:=fa.ne' hp;have:=gb.ne hp;have:=gb.ne' hp
  refine r13_ ?_
  refine ⟨_,M,⟨_,_,_,rfl,.inr ⟨zas,[_,_,_,_,_],zao,rds_,rfl⟩,⟨_,_,rfl,rfl,rfl⟩,rfl⟩,zad,?_⟩
  exact ⟨_,rfl,hl,hdk⟩
 ·rw [if_neg (show ¬ (10:Int)=0 from by decide)]
  refine k_E5 (rs:=[.cell 10 29,.tmp 11]) 81 Tryz.func15 rfl rfl rfl ?_
  refine r2_ ?_
  refine k_b5 rfl ?_
  intro b5 f5
  have g5:=f5
  repeat ((with_reducible replace g5:=zaa g5);obtain ⟨g5,_⟩:=g5)
  refine nl_ ?_
  refine ARun.alloc (zab rfl) zay ?_
  intro b10 f10
  have g10:=f10
  repeat ((with_reducible replace g10:=zaa g10);obtain ⟨g10,_⟩:=g10)
  refine nl_ ?_
  refine r6_ ?_
  refine ca_ rfl ((hopen.frame f5).frame f10) ?_
  rintro _ S1 ⟨Sa,⟨M,⟨p,oE,oW,hok,rfl,hM⟩,fa,hSa⟩,fb,h1⟩
  rw [h1,hSa];rw [hSa] at fb;clear h1 S1 hSa Sa
  refine r14_ ?_
  refine zd5 0 1 2 3 4 5 10 11 12 13 23 ?_
  refine cT_ ?_
  obtain ⟨qe,de,qw,dw,hp,hdk,hl⟩:=zbO hok hlens
  rw [← hM] at hp hdk hl
  obtain ⟨gb,_⟩:=zaa fb
  have:=fa.ne hp;have:=fa.ne' hp;have:=gb.ne hp;have:=gb.ne' hp
  refine r13_ ?_
  refine ⟨_,M,⟨_,_,_,rfl,.inr ⟨zas,[_,_,_,_,_],zao,rds_,rfl⟩,⟨_,_,rfl,rfl,rfl⟩,rfl⟩,zad,?_⟩
  exact ⟨_,rfl,hl,hdk⟩
 rw [if_pos rfl]
 by_cases hnew:(newD d s (n:Int)).2=0
 ·rw [if_neg (by omega)]
  obtain ⟨hR1,hd1,hf1,_⟩:=(ziv (s:=s) (n:=(n:Int)) hR hdn).2 hnew
  have hf1:(newD d s (n:Int)).1.fuse≤9223372036854775807:=by rw [hf1];exact hz.f1
  have hkeep:=zcl hR1 hd1 hf1 s all
  have hplens:=zkC hR1 hd1 hf1 s all
  have hst:=fun j=>ziz (d:=(newD d s (n:Int)).1) (s:=s) (all:=all) (k:=j)
  have hp0:putTo (newD d s (n:Int)).1 s all 0=((newD d s (n:Int)).1,0):=rfl
  have hps:∀ j,(putTo (newD d s (n:Int)).1 s all j).2=0→putTo (newD d s (n:Int)).1 s all (j+1)=writeD (putTo (newD d s (n:Int)).1 s all j).1 s ((j+1:Nat):Int) (secAt all j):=fun j h=>by rw [putTo,if_pos h]
  have hN9:=zg_ hR s (n:Int)
  have hnw:=fun (p:Nat) (oE oW) (hok:OkV S p d oE oW)=>zim p d s (n:Int) S oE oW hok hR
  rw [show newD d s (n:Int)=((newD d s (n:Int)).1,0) from Prod.ext rfl hnew] at hnw
  generalize (newD d s (n:Int)).1=e1 at *
  generalize hP:putTo e1 s all=P at *
  refine k_E5 (rs:=[.cell 10 29,.tmp 11]) 81 Tryz.func15 rfl rfl rfl ?_
  refine r2_ ?_
  refine k_b5 rfl ?_
  intro b5 f5
  have g5:=f5
  repeat ((with_reducible replace g5:=zaa g5);obtain ⟨g5,_⟩:=g5)
  refine nl_ ?_
  refine ARun.alloc (zab rfl) zay ?_
  intro b10 f10
  have g10:=f10
  repeat ((with_reducible replace g10:=zaa g10);obtain ⟨g10,_⟩:=g10)
  refine nl_ ?_
  refine r6_ ?_
  refine ca_ rfl ((hopen.frame f5).frame f10) ?_
  rintro _ S1 ⟨Sa,⟨M,⟨p,oE,oW,hok,rfl,hM⟩,fa,hSa⟩,fb,h1⟩
  rw [h1,hSa];rw [hSa] at fb;clear h1 S1 hSa Sa
  refine r14_ ?_
  refine cF_ ?_
  refine r7_ ?_
  refine ca_ rfl (hN _) ?_
  rintro _ S1 ⟨rfl,h1⟩
  rw [h1];clear h1 S1
  refine r14_ ?_
  refine zgg 0 1 2 3 4 5 10 11 12 13 23 14 37 ?_
  refine cT_ ?_
  rw [hM] at fa fb ⊢
  refine r4_ ?_
  refine ca_ rfl (((hnw p oE oW hok).frame fa).frame fb) ?_
  rintro _ S1 ⟨Sa,⟨M3,⟨oE3,oW3,hok3,rfl,hM3⟩,fa3,hSa⟩,fb3,h1⟩
  rw [h1,hSa];rw [hSa] at fb3;clear h1 S1 hSa Sa;rw [hM3] at fa3 fb3 ⊢
  refine r7_ ?_
  refine ca_ rfl (hpad _) ?_
  rintro _ S1 ⟨rfl,h1⟩
  rw [h1];clear h1 S1
  refine r5_ ?_
  refine AWP.loop (X:=Nat × Option (Nat × Nat) × Option (Nat × Nat)) (fun x=>[(1,.string s),(2,.int .i64 (k:Int)),(3,.int .i64 (c:Int)),(10,.pointer (some ⟨b10,0,none⟩)),(12,.pointer (some ⟨p,0,none⟩)),(13,.int .i64 (P x.1).2),(14,.int .i64 ((n:Nat):Int)),(15,.int .i64 ((x.1+1:Nat):Int)),(16,.string (all.extract (64*x.1) all.size))]) (fun x=>((devM S p (P x.1).1 x.2.1 x.2.2).set b5 (bx d pe ce pw cw)).set b10 zb) (fun x=>x.1+1≤n∧OkV S p (P x.1).1 x.2.1 x.2.2∧Fresh (devM S p (P x.1).1 x.2.1 x.2.2) b5∧Fresh ((devM S p (P x.1).1 x.2.1 x.2.2).set b5 (bx d pe ce pw cw)) b10) (fun x=>n-x.1) ((0,oE3,oW3)) ⟨rfl,rfl,rfl,rfl,rfl,by rw [hp0];rfl,rfl,rfl,by rw [show all.extract (64*0) all.size=all from by rw [Nat.mul_zero];simp];rfl,trivial⟩ (by rw [hp0];exact Mem.Less.refl _) (⟨by show 0+1≤n;omega,by rw [hp0];exact hok3,by rw [hp0];exact fa3,by rw [hp0];exact fb3⟩) ?_
  rintro ⟨j,oE,oW⟩ ⟨hj,hok,fa,fb⟩
  (try dsimp only at *)
  clear fa3 fb3 hok3 hM3 M3
  by_cases hi:j+1<n
  ·by_cases hc0:(P j).2=0
   ·rw [hc0]
    refine r12_ ?_
    refine cT_ ?_
    have hsz:(all.extract (64*j) all.size).size=all.size-64*j:=by rw [ByteArray.size_extract];omega
    have hw1:=zdJ p (P j).1 s ((j+1:Nat):Int) (secAt all j) S oE oW hok (hkeep j).1 (hkeep j).2.1
    rw [← hps j hc0,← zoP all j (by omega)] at hw1
    refine r10_ ?_
    refine ca_ rfl ((hw1.frame fa).frame fb) ?_
    rintro _ S1 ⟨Sa,⟨M3,⟨oE3,oW3,hok3,rfl,hM3⟩,fa3,hSa⟩,fb3,h1⟩
    rw [h1,hSa];rw [hSa] at fb3;clear h1 S1 hSa Sa;rw [hM3] at fa3 fb3 ⊢
    refine r4_ ?_
    refine AWP.draw [(0,true),(1,true),(2,true),(3,true),(4,true),(5,true)] [] mixed (by kernel_rfl) ?_
    refine r8_ ?_
    refine ⟨(j+1,oE3,oW3),?_,?_,?_,?_⟩
    all_goals (try dsimp only)
    ·exact ⟨rfl,rfl,rfl,rfl,rfl,rfl,rfl,zai (by omega),by rw [← zmh all j (by omega)];rfl,trivial⟩
    ·exact Mem.Less.refl _
    ·exact ⟨by omega,hok3,fa3,fb3⟩
    ·omega
   ·refine r12_ ?_
    refine zdG 1 2 3 10 12 13 14 15 16 50 ?_
    refine cF_ ?_
    refine r12_ ?_
    refine cF_ ?_
    refine r9_ ?_
    refine cF_ ?_
    obtain ⟨qe,de,qw,dw,hp,hdk,hl⟩:=zbO hok (hplens j)
    obtain ⟨gb,_⟩:=zaa fb
    have:=fa.ne hp;have:=fa.ne' hp;have:=gb.ne hp;have:=gb.ne' hp
    have hfin:=hst j hc0 (n-1) (by omega)
    rw [hfin,if_pos hc0]
    generalize devM S p (P j).1 oE oW=M at *
    refine r14_ ?_
    refine ⟨_,M,⟨_,_,_,rfl,.inr ⟨zas,[_,_,_,_,_],zao,rds_,rfl⟩,⟨_,_,rfl,rfl,rfl⟩,rfl⟩,zad,?_⟩
    exact ⟨_,rfl,hl,hdk⟩
  ·obtain rfl:j=n-1:=by omega
   by_cases hc0:(P (n-1)).2=0
   ·rw [hc0]
    refine r12_ ?_
    refine cF_ ?_
    refine r12_ ?_
    refine zd5 1 2 3 10 12 13 14 15 16 50 62 ?_
    refine cT_ ?_
    have hsy:=zeE p (P (n-1)).1 S oE oW hok (hkeep (n-1)).1
    refine r3_ ?_
    refine ca_ rfl ((hsy.frame fa).frame fb) ?_
    rintro _ S1 ⟨Sa,⟨M3,⟨oE3,oW3,hok3,rfl,hM3⟩,fa3,hSa⟩,fb3,h1⟩
    rw [h1,hSa];rw [hSa] at fb3;clear h1 S1 hSa Sa;rw [hM3] at fa3 fb3 ⊢
    have hR3:=zb8 (hkeep (n-1)).1 (fun _=>true)
    have hw1:=zdJ p (settleD (P (n-1)).1 fun _=>true) s 0 hs S oE3 oW3 hok3 hR3 (hkeep (n-1)).2.1
    have hd3:(settleD (P (n-1)).1 fun _=>true).down=false:=(hkeep (n-1)).2.2 hc0
    have hf3:(settleD (P (n-1)).1 fun _=>true).fuse≤9223372036854775807:=(hkeep (n-1)).2.1
    have hlw:=ziq hR3 s 0 hs
    rw [if_neg (by omega)]
    unfold sealD
    generalize settleD (P (n-1)).1 (fun _=>true)=e3 at *
    refine r8_ ?_
    refine ca_ rfl (hHd _) ?_
    rintro _ S1 ⟨rfl,h1⟩
    rw [h1];clear h1 S1
    refine ca_ rfl ((hw1.frame fa3).frame fb3) ?_
    rintro _ S1 ⟨Sa,⟨M4,⟨oE4,oW4,hok4,rfl,hM4⟩,fa4,hSa⟩,fb4,h1⟩
    rw [h1,hSa];rw [hSa] at fb4;clear h1 S1 hSa Sa;rw [hM4] at fa4 fb4 ⊢
    refine r3_ ?_
    by_cases hc1:(writeD e3 s 0 hs).2=0
    ·rw [if_pos hc1]
     refine r7_ ?_
     refine cT_ ?_
     have hRw:=(zfL hR3 hd3 hf3 s hs 0).1
     have hsy2:=zeE p (writeD e3 s 0 hs).1 S oE4 oW4 hok4 hRw
     refine r2_ ?_
     refine ca_ rfl ((hsy2.frame fa4).frame fb4) ?_
     rintro _ S1 ⟨Sa,⟨M5,⟨oE5,oW5,hok5,rfl,hM5⟩,fa5,hSa⟩,fb5,h1⟩
     rw [h1,hSa];rw [hSa] at fb5;clear h1 S1 hSa Sa;rw [hM5] at fa5 fb5 ⊢
     obtain ⟨qe,de,qw,dw,hp,hdk,hl⟩:=zbO hok5 (zir hRw _)
     obtain ⟨gb,_⟩:=zaa fb5
     have:=fa5.ne hp;have:=fa5.ne' hp;have:=gb.ne hp;have:=gb.ne' hp
     rw [hc1]
     generalize devM S p (settleD (writeD e3 s 0 hs).1 fun _=>true) oE5 oW5=M at *
     refine r13_ ?_
     refine zgg 1 2 3 10 12 13 14 15 16 50 62 73 11 ?_
     refine s1_ ?_
     refine ⟨_,M,⟨_,_,_,rfl,.inr ⟨zas,[_,_,_,_,_],zao,rds_,rfl⟩,⟨_,_,rfl,rfl,rfl⟩,rfl⟩,zad,?_⟩
     exact ⟨_,rfl,hl,hdk⟩
    ·rw [if_neg hc1]
     refine r7_ ?_
     refine cF_ ?_
     obtain ⟨qe,de,qw,dw,hp,hdk,hl⟩:=zbO hok4 hlw
     obtain ⟨gb,_⟩:=zaa fb4
     have:=fa4.ne hp;have:=fa4.ne' hp;have:=gb.ne hp;have:=gb.ne' hp
     generalize devM S p (writeD e3 s 0 hs).1 oE4 oW4=M at *
     refine r14_ ?_
     refine ⟨_,M,⟨_,_,_,rfl,.inr ⟨zas,[_,_,_,_,_],zao,rds_,rfl⟩,⟨_,_,rfl,rfl,rfl⟩,rfl⟩,zad,?_⟩
     exact ⟨_,rfl,hl,hdk⟩
   ·refine r12_ ?_
    refine cF_ ?_
    refine r12_ ?_
    refine cF_ ?_
    refine r9_ ?_
    refine zh9 1 2 3 10 12 13 14 15 16 50 62 73 ?_
    refine cF_ ?_
    obtain ⟨qe,de,qw,dw,hp,hdk,hl⟩:=zbO hok (hplens (n-1))
    obtain ⟨gb,_⟩:=zaa fb
    have:=fa.ne hp;have:=fa.ne' hp;have:=gb.ne hp;have:=gb.ne' hp
    rw [if_pos hc0]
    generalize devM S p (P (n-1)).1 oE oW=M at *
    refine r14_ ?_
    refine ⟨_,M,⟨_,_,_,rfl,.inr ⟨zas,[_,_,_,_,_],zao,rds_,rfl⟩,⟨_,_,rfl,rfl,rfl⟩,rfl⟩,zad,?_⟩
    exact ⟨_,rfl,hl,hdk⟩
 ·rw [if_pos hnew]
  have hN9:=zg_ hR s (n:Int)
  have hnw:=fun (p:Nat) (oE oW) (hok:OkV S p d oE oW)=>zim p d s (n:Int) S oE oW hok hR
  generalize newD d s (n:Int)=q1 at *
  refine k_E5 (rs:=[.cell 10 29,.tmp 11]) 81 Tryz.func15 rfl rfl rfl ?_
  refine r2_ ?_
  refine k_b5 rfl ?_
  intro b5 f5
  have g5:=f5
  repeat ((with_reducible replace g5:=zaa g5);obtain ⟨g5,_⟩:=g5)
  refine nl_ ?_
  refine ARun.alloc (zab rfl) zay ?_
  intro b10 f10
  have g10:=f10
  repeat ((with_reducible replace g10:=zaa g10);obtain ⟨g10,_⟩:=g10)
  refine nl_ ?_
  refine r6_ ?_
  refine ca_ rfl ((hopen.frame f5).frame f10) ?_
  rintro _ S1 ⟨Sa,⟨M,⟨p,oE,oW,hok,rfl,hM⟩,fa,hSa⟩,fb,h1⟩
  rw [h1,hSa];rw [hSa] at fb;clear h1 S1 hSa Sa
  refine r14_ ?_
  refine cF_ ?_
  refine r7_ ?_
  refine ca_ rfl (hN _) ?_
  rintro _ S1 ⟨rfl,h1⟩
  rw [h1];clear h1 S1
  refine r14_ ?_
  refine zgg 0 1 2 3 4 5 10 11 12 13 23 14 37 ?_
  refine cT_ ?_
  rw [hM] at fa fb ⊢
  refine r4_ ?_
  refine ca_ rfl (((hnw p oE oW hok).frame fa).frame fb) ?_
  rintro _ S1 ⟨Sa,⟨M3,⟨oE3,oW3,hok3,rfl,hM3⟩,fa3,hSa⟩,fb3,h1⟩
  rw [h1,hSa];rw [hSa] at fb3;clear h1 S1 hSa Sa;rw [hM3] at fa3 fb3 ⊢
  refine r7_ ?_
  refine ca_ rfl (hpad _) ?_
  rintro _ S1 ⟨rfl,h1⟩
  rw [h1];clear h1 S1
  obtain ⟨qe,de,qw,dw,hp,hdk,hl⟩:=zbO hok3 hN9
  obtain ⟨gb,_⟩:=zaa fb3
  have:=fa3.ne hp;have:=fa3.ne' hp;have:=gb.ne hp;have:=gb.ne' hp
  generalize devM S p q1.1 oE3 oW3=M3 at *
  refine r5_ ?_
  refine AWP.loop (X:=Unit) (fun x=>[(10,.pointer (some ⟨b10,0,none⟩)),(12,.pointer (some ⟨p,0,none⟩)),(13,.int .i64 q1.2),(14,.int .i64 ((n:Nat):Int)),(15,.int .i64 1)]) (fun x=>(M3.set b5 (bx d pe ce pw cw)).set b10 zb) (fun x=>True) (fun x=>0) (()) ⟨rfl,rfl,rfl,rfl,rfl,trivial⟩ (Mem.Less.refl _) (trivial) ?_
  rintro _ _
  (try dsimp only at *)
  by_cases hi:1<n
  ·refine r12_ ?_
   refine cF_ ?_
   refine r12_ ?_
   refine cF_ ?_
   refine r9_ ?_
   refine k_v8 10 12 13 14 15 50 62 73 ?_
   refine cF_ ?_
   refine r14_ ?_
   refine ⟨_,M3,⟨_,_,_,rfl,.inr ⟨zas,[_,_,_,_,_],zao,rds_,rfl⟩,⟨_,_,rfl,rfl,rfl⟩,rfl⟩,zad,?_⟩
   exact ⟨_,rfl,hl,hdk⟩
  ·refine r12_ ?_
   refine cF_ ?_
   refine r12_ ?_
   refine cF_ ?_
   refine r9_ ?_
   refine cF_ ?_
   refine r13_ ?_
   refine k_v9 10 12 13 14 15 50 62 73 11 ?_
   refine s1_ ?_
   refine ⟨_,M3,⟨_,_,_,rfl,.inr ⟨zas,[_,_,_,_,_],zao,rds_,rfl⟩,⟨_,_,rfl,rfl,rfl⟩,rfl⟩,zad,?_⟩
   exact ⟨_,rfl,hl,hdk⟩
end Rec
end
section
open Go.RowKit
open Mv Disk Num
set_option maxRecDepth 4000
namespace Rec
theorem zdQ (x:List Nat):(recB x).length=5*x.length:=by
 unfold recB
 induction x with
 | nil=>rfl
 | cons a x ih=>rw [List.flatMap_cons,List.length_append,ih];simp [five];omega
theorem zgA {w:Nat}:∀ l:List (List Nat),l.all (rowOK w)=true→(l.flatMap recB).length=5*w*l.length
 | [],_=>by simp
 | x :: l,h=>by
  rw [List.all_cons,Bool.and_eq_true] at h
  have h1:=h.1
  unfold rowOK at h1
  rw [Bool.and_eq_true,decide_eq_true_eq] at h1
  rw [List.flatMap_cons,List.length_append,zdQ,zgA l h.2,h1.2,List.length_cons,Nat.mul_succ];omega
theorem zoQ {α : Type} {p : α→Bool} {l:List α} {i:Nat} (hi:i<l.length) (h:(l.take i).all p=true) (hx:p l[i]=true):(l.take (i+1)).all p=true:=by
 rw [List.take_succ_eq_append_getElem hi,List.all_append,h]
 simp [hx]
set_option maxHeartbeats 4000000 in
theorem zmi (v:Value) (d:D) (s:ByteArray) (w:Int) (l:List (List Nat)) (vl:Value) (S:Mem) (hd:DkR S v d) (hz:Dz d) (hl:SlOf RowR S vl l) (hb:∀ x ∈ l,∀ n ∈ x,n<18446744073709551616) :
  ACall Tryz.prog 6 #[v,.string s,.int .i64 w,vl] S (DkRes (writeP d s w l) S):=by
 have href:=ziI v d S hd hz
 obtain ⟨hs,hlen,⟨pa,ca,rfl,ha1,ha2,ha3⟩,hae⟩:=hl
 unfold writeP
 by_cases hw1:w<1
 ·rw [if_pos (.inl hw1)]
  obtain ⟨pe,ce,pw,cw,rfl,hE,hW⟩:=id hd
  refine k_E4 (rs:=[.cell 8 29,.tmp 9]) 65 Tryz.func6 rfl rfl rfl ?_
  refine r2_ ?_
  refine k_b5 rfl ?_
  intro b4 f4
  have g4:=f4
  repeat ((with_reducible replace g4:=zaa g4);obtain ⟨g4,_⟩:=g4)
  refine nl_ ?_
  refine ARun.alloc (zab rfl) zay ?_
  intro b8 f8
  have g8:=f8
  repeat ((with_reducible replace g8:=zaa g8);obtain ⟨g8,_⟩:=g8)
  refine nl_ ?_
  refine r19_ ?_
  refine cT_ ?_
  refine r3_ ?_
  refine ca_ rfl ((href.frame f4).frame f8) ?_
  rintro _ S1 ⟨Sa,⟨M2,⟨v,rfl,hl2,hdk⟩,fc,hSa⟩,fd,h1⟩
  rw [h1,hSa];rw [hSa] at fd;clear h1 S1 hSa Sa
  obtain ⟨qe,de,qw,dw,rfl,_⟩:=id hdk
  obtain ⟨ge,_⟩:=zaa fd
  refine r8_ ?_
  refine ⟨_,M2,⟨_,_,_,rfl,.inr ⟨zas,[_,_,_,_,_],zao,rds_,rfl⟩,⟨_,_,rfl,rfl,rfl⟩,rfl⟩,zad,?_⟩
  exact ⟨_,rfl,hl2,hdk⟩
 by_cases hw2:8<w
 ·rw [if_pos (.inr (.inl hw2))]
  obtain ⟨pe,ce,pw,cw,rfl,hE,hW⟩:=id hd
  refine k_E4 (rs:=[.cell 8 29,.tmp 9]) 65 Tryz.func6 rfl rfl rfl ?_
  refine r2_ ?_
  refine k_b5 rfl ?_
  intro b4 f4
  have g4:=f4
  repeat ((with_reducible replace g4:=zaa g4);obtain ⟨g4,_⟩:=g4)
  refine nl_ ?_
  refine ARun.alloc (zab rfl) zay ?_
  intro b8 f8
  have g8:=f8
  repeat ((with_reducible replace g8:=zaa g8);obtain ⟨g8,_⟩:=g8)
  refine nl_ ?_
  refine r19_ ?_
  refine cT_ ?_
  refine r3_ ?_
  refine ca_ rfl ((href.frame f4).frame f8) ?_
  rintro _ S1 ⟨Sa,⟨M2,⟨v,rfl,hl2,hdk⟩,fc,hSa⟩,fd,h1⟩
  rw [h1,hSa];rw [hSa] at fd;clear h1 S1 hSa Sa
  obtain ⟨qe,de,qw,dw,rfl,_⟩:=id hdk
  obtain ⟨ge,_⟩:=zaa fd
  refine r8_ ?_
  refine ⟨_,M2,⟨_,_,_,rfl,.inr ⟨zas,[_,_,_,_,_],zao,rds_,rfl⟩,⟨_,_,rfl,rfl,rfl⟩,rfl⟩,zad,?_⟩
  exact ⟨_,rfl,hl2,hdk⟩
 by_cases hw3:65536<l.length
 ·rw [if_pos (.inr (.inr hw3))]
  obtain ⟨pe,ce,pw,cw,rfl,hE,hW⟩:=id hd
  refine k_E4 (rs:=[.cell 8 29,.tmp 9]) 65 Tryz.func6 rfl rfl rfl ?_
  refine r2_ ?_
  refine k_b5 rfl ?_
  intro b4 f4
  have g4:=f4
  repeat ((with_reducible replace g4:=zaa g4);obtain ⟨g4,_⟩:=g4)
  refine nl_ ?_
  refine ARun.alloc (zab rfl) zay ?_
  intro b8 f8
  have g8:=f8
  repeat ((with_reducible replace g8:=zaa g8);obtain ⟨g8,_⟩:=g8)
  refine nl_ ?_
  refine r19_ ?_
  refine k_v8 0 1 2 3 4 8 9 25 ?_
  refine cT_ ?_
  refine r3_ ?_
  refine ca_ rfl ((href.frame f4).frame f8) ?_
  rintro _ S1 ⟨Sa,⟨M2,⟨v,rfl,hl2,hdk⟩,fc,hSa⟩,fd,h1⟩
  rw [h1,hSa];rw [hSa] at fd;clear h1 S1 hSa Sa
  obtain ⟨qe,de,qw,dw,rfl,_⟩:=id hdk
  obtain ⟨ge,_⟩:=zaa fd
  refine r8_ ?_
  refine ⟨_,M2,⟨_,_,_,rfl,.inr ⟨zas,[_,_,_,_,_],zao,rds_,rfl⟩,⟨_,_,rfl,rfl,rfl⟩,rfl⟩,zad,?_⟩
  exact ⟨_,rfl,hl2,hdk⟩
 rw [if_neg (by omega)]
 obtain ⟨k,rfl⟩:=Int.eq_ofNat_of_zero_le (by omega:0≤w)
 rw [Int.toNat_natCast]
 have hput:=fun (h:l.all (rowOK k)=true)=>zrb v d s k l.length (bs (l.flatMap recB)) S hd hz (by omega) (by omega) (by rw [zaD,zgA l h];unfold eachN;rw [if_neg (by omega)])
 have htk:∀ i,i≤l.length→(l.take i).all (rowOK k)=true→((l.take i).flatMap recB).length≤5*k*65536:=fun i hi h=>by
  rw [zgA _ h,List.length_take]
  exact Nat.mul_le_mul_left _ (by omega)
 have hk40:5*k*65536≤2621440:=by omega
 obtain ⟨pe,ce,pw,cw,rfl,hE,hW⟩:=id hd
 refine k_E4 (rs:=[.cell 8 29,.tmp 9]) 65 Tryz.func6 rfl rfl rfl ?_
 refine r2_ ?_
 refine k_b5 rfl ?_
 intro b4 f4
 have g4:=f4
 repeat ((with_reducible replace g4:=zaa g4);obtain ⟨g4,_⟩:=g4)
 refine nl_ ?_
 refine ARun.alloc (zab rfl) zay ?_
 intro b8 f8
 have g8:=f8
 repeat ((with_reducible replace g8:=zaa g8);obtain ⟨g8,_⟩:=g8)
 refine nl_ ?_
 refine r19_ ?_
 refine cF_ ?_
 refine r4_ ?_
 refine ARun.alloc (zab rfl) zfB ?_
 intro b10 f10
 have g10:=f10
 repeat ((with_reducible replace g10:=zaa g10);obtain ⟨g10,_⟩:=g10)
 refine nl_ ?_
 refine r2_ ?_
 have hnew:=Bl.R.new ((S.set b4 (bx d pe ce pw cw)).set b8 zb) b10
 have hb4:((S.set b4 (bx d pe ce pw cw)).set b8 zb).own b4=some (bx d pe ce pw cw):=own_
 have hb8:((S.set b4 (bx d pe ce pw cw)).set b8 zb).own b8=some zb:=own_
 have hB:S.Less ((S.set b4 (bx d pe ce pw cw)).set b8 zb):=zad
 have n4:S.own b4=none:=g4.1
 have n8:S.own b8=none:=g8.1
 refine r9_ ?_
 refine AWP.loop (X:=Nat × Mem) (fun x=>[(1,.string s),(2,.int .i64 (k:Int)),(3,.slice pa hs.length ca),(4,.pointer (some ⟨b4,0,none⟩)),(8,.pointer (some ⟨b8,0,none⟩)),(10,.pointer (some ⟨b10,0,none⟩)),(30,.slice pa hs.length ca),(31,.int .i64 (hs.length:Int)),(32,.int .i64 (x.1:Int))]) (fun x=>x.2) (fun x=>x.1≤l.length∧Bl.R ((S.set b4 (bx d pe ce pw cw)).set b8 zb) b10 ((l.take x.1).flatMap recB) x.2∧(l.take x.1).all (rowOK k)=true) (fun x=>l.length-x.1) ((0,((S.set b4 (bx d pe ce pw cw)).set b8 zb).set b10 (Bl.blk (.pointer none) (.slice none 0 0)))) ⟨rfl,rfl,rfl,rfl,rfl,rfl,rfl,rfl,rfl,trivial⟩ (Mem.Less.refl _) (⟨Nat.zero_le _,hnew,rfl⟩) ?_
 rintro ⟨i,T⟩ ⟨hi,hT,hq⟩
 (try dsimp only at *)
 have hBT:=hT.less f10
 have hST:=hB.trans hBT
 have o4:=hBT.own hb4
 have o8:=hBT.own hb8
 refine r6_ ?_
 refine AWP.condB rfl (fun hl=>?_) (fun hl=>?_)
 ·have hil:i<l.length:=by have:=of_decide_eq_true hl;omega
  have hia:i<hs.length:=by omega
  obtain ⟨b0,off,rfl,hkn⟩:=ha3.resolve_left (by intro h;rw [h] at hia;exact absurd hia (Nat.not_lt_zero _))
  have hkk:=(hkn i hia).less hST
  have hrow:=(hae i hil hia).less hST
  have hmem:=List.getElem_mem hil
  have hRec:=ziH l[i] hs[i] T hrow (hb _ hmem)
  unfold recP at hRec
  obtain ⟨xa,xc,hxe,-⟩:=id hrow
  by_cases hr:recOK l[i]=true
  ·rw [if_pos hr] at hRec
   refine r14_ ?_
   refine ca_ rfl (hRec) ?_
   rintro _ S1 ⟨rfl,h1⟩
   rw [h1];clear h1 S1
   rw [hxe]
   refine r7_ ?_
   by_cases hx:(l[i]).length=k
   ·refine r13_ ?_
    refine zqO 1 2 3 4 8 10 30 31 32 33 12 13 14 48 ?_
    refine cF_ ?_
    have hsz:(bs (recB l[i])).size=5*k:=by rw [zaD,zdQ,hx]
    have hti:=htk i hi hq
    refine r4_ ?_
    refine ca_ rfl (Bl.WriteString _ b10 _ T (bs (recB l[i])) f10 hT (by omega)) ?_
    rintro _ T2 ⟨rfl,hT2⟩
    rw [show (l.take i).flatMap recB ++ (bs (recB l[i])).data.toList=(l.take (i+1)).flatMap recB from by rw [List.take_succ_eq_append_getElem hil,List.flatMap_append];simp [bs]] at hT2
    refine r8_ ?_
    refine ⟨(i+1,T2),?_,?_,?_,?_⟩
    all_goals (try dsimp only)
    ·exact ⟨rfl,rfl,rfl,rfl,rfl,rfl,rfl,rfl,zai (by omega),trivial⟩
    ·exact Mem.Less.refl _
    ·exact ⟨hil,hT2,zoQ hil hq (by unfold rowOK;rw [hr,decide_eq_true hx];rfl)⟩
    ·omega
   ·refine r13_ ?_
    refine cT_ ?_
    rw [if_neg (fun h=>by have:=List.all_eq_true.1 h _ hmem;unfold rowOK at this;rw [Bool.and_eq_true,decide_eq_true_eq] at this;exact hx this.2)]
    refine r3_ ?_
    refine ca_ rfl (href.over hST) ?_
    rintro _ T2 ⟨M2,⟨v,rfl,hl2,hdk⟩,hMT,hkeep⟩
    obtain ⟨p8,q8⟩:=hkeep b8 _ n8 o8
    obtain ⟨qe,de,qw,dw,rfl,_⟩:=id hdk
    refine r13_ ?_
    refine ⟨_,M2,⟨_,_,_,rfl,.inr ⟨zas,[_,_,_,_,_],zao,rds_,rfl⟩,⟨_,_,rfl,rfl,rfl⟩,rfl⟩,zap hMT q8,?_⟩
    exact ⟨_,rfl,hl2,hdk⟩
  ·rw [if_neg hr] at hRec
   rw [if_neg (fun h=>by have:=List.all_eq_true.1 h _ hmem;unfold rowOK at this;rw [Bool.and_eq_true] at this;exact hr this.1)]
   refine r14_ ?_
   refine ca_ rfl (hRec) ?_
   rintro _ S1 ⟨rfl,h1⟩
   rw [h1];clear h1 S1
   refine r7_ ?_
   refine zgg 1 2 3 4 8 10 30 31 32 33 12 13 14 ?_
   refine r13_ ?_
   refine cT_ ?_
   refine r3_ ?_
   refine ca_ rfl (href.over hST) ?_
   rintro _ T2 ⟨M2,⟨v,rfl,hl2,hdk⟩,hMT,hkeep⟩
   obtain ⟨p8,q8⟩:=hkeep b8 _ n8 o8
   obtain ⟨qe,de,qw,dw,rfl,_⟩:=id hdk
   refine r13_ ?_
   refine ⟨_,M2,⟨_,_,_,rfl,.inr ⟨zas,[_,_,_,_,_],zao,rds_,rfl⟩,⟨_,_,rfl,rfl,rfl⟩,rfl⟩,zap hMT q8,?_⟩
   exact ⟨_,rfl,hl2,hdk⟩
 ·obtain rfl:i=l.length:=by have:=of_decide_eq_false hl;omega
  rw [List.take_length] at hq hT
  rw [if_pos hq]
  have hti:(l.flatMap recB).length≤2621440:=by have:=htk l.length (Nat.le_refl _) (by rw [List.take_length];exact hq);rw [List.take_length] at this;omega
  have hStr:=Bl.StringE _ b10 _ T f10 hT (by omega)
  rw [hlen]
  refine r6_ ?_
  refine AWP.drawG [0,5,6,9] mixed ?_
  refine DG.pure 1 (by kernel_rfl) (by kernel_rfl) rfl rfl rfl rfl (zab rfl) (fun _=>Calm.move rfl) ?_
  refine DG.pure 2 (by kernel_rfl) (by kernel_rfl) rfl rfl rfl rfl (zab rfl) (fun _=>Calm.move rfl) ?_
  refine DG.pure 3 (by kernel_rfl) (by kernel_rfl) rfl rfl rfl rfl (zab rfl) (fun _=>Calm.move rfl) ?_
  refine DG.pure 4 (by kernel_rfl) (by kernel_rfl) rfl rfl rfl rfl (zab rfl) (fun _=>Calm.lenSl Tryz.underlying25 rfl) ?_
  refine DG.two 0 5 (by kernel_rfl) rfl ?_ rfl ?_
  ·refine s1_ ?_
   refine zae ⟨fun h=>absurd h (by decide),?_⟩
   refine DG.only 5 (by kernel_rfl) rfl ?_
   refine ca_ rfl (hStr) ?_
   rintro _ S1 ⟨rfl,h1⟩
   rw [h1];clear h1 S1
   refine zae ⟨fun h=>absurd h (by decide),?_⟩
   refine DG.only 6 (by kernel_rfl) rfl ?_
   refine ca_ rfl (((hput hq).frame f4).frame f8) ?_
   rintro _ S1 ⟨Sa,⟨M2,⟨v,rfl,hl2,hdk⟩,fc,hSa⟩,fd,h1⟩
   rw [h1,hSa];rw [hSa] at fd;clear h1 S1 hSa Sa
   obtain ⟨qe,de,qw,dw,rfl,_⟩:=id hdk
   obtain ⟨ge,_⟩:=zaa fd
   refine zae ⟨fun h=>absurd h (by decide),?_⟩
   refine DG.pure 7 (by kernel_rfl) (by kernel_rfl) rfl rfl rfl rfl (zab rfl) (fun _=>Calm.extract rfl rfl) ?_
   refine DG.pure 8 (by kernel_rfl) (by kernel_rfl) rfl rfl rfl rfl (zab rfl) (fun _=>Calm.extract rfl rfl) ?_
   refine DG.only 9 (by kernel_rfl) rfl ?_
   refine s1_ ?_
   refine zae ⟨fun h=>absurd h (by decide),?_⟩
   refine DG.pure 10 (by kernel_rfl) (by kernel_rfl) rfl rfl rfl rfl (zab rfl) (fun _=>Calm.assign rfl) ?_
   refine DG.end_ (by kernel_rfl) ?_
   refine r2_ ?_
   refine ⟨_,M2,⟨_,_,_,rfl,.inr ⟨zas,[_,_,_,_,_],zao,rds_,rfl⟩,⟨_,_,rfl,rfl,rfl⟩,rfl⟩,zad,?_⟩
   exact ⟨_,rfl,hl2,hdk⟩
  ·refine ca_ rfl (hStr) ?_
   rintro _ S1 ⟨rfl,h1⟩
   rw [h1];clear h1 S1
   refine zae ⟨fun h=>absurd h (by decide),?_⟩
   refine DG.only 0 (by kernel_rfl) rfl ?_
   refine s1_ ?_
   refine zae ⟨fun h=>absurd h (by decide),?_⟩
   refine DG.only 6 (by kernel_rfl) rfl ?_
   refine ca_ rfl (((hput hq).frame f4).frame f8) ?_
   rintro _ S1 ⟨Sa,⟨M2,⟨v,rfl,hl2,hdk⟩,fc,hSa⟩,fd,h1⟩
   rw [h1,hSa];rw [hSa] at fd;clear h1 S1 hSa Sa
   obtain ⟨qe,de,qw,dw,rfl,_⟩:=id hdk
   obtain ⟨ge,_⟩:=zaa fd
   refine zae ⟨fun h=>absurd h (by decide),?_⟩
   refine DG.pure 7 (by kernel_rfl) (by kernel_rfl) rfl rfl rfl rfl (zab rfl) (fun _=>Calm.extract rfl rfl) ?_
   refine DG.pure 8 (by kernel_rfl) (by kernel_rfl) rfl rfl rfl rfl (zab rfl) (fun _=>Calm.extract rfl rfl) ?_
   refine DG.only 9 (by kernel_rfl) rfl ?_
   refine s1_ ?_
   refine zae ⟨fun h=>absurd h (by decide),?_⟩
   refine DG.pure 10 (by kernel_rfl) (by kernel_rfl) rfl rfl rfl rfl (zab rfl) (fun _=>Calm.assign rfl) ?_
   refine DG.end_ (by kernel_rfl) ?_
   refine r2_ ?_
   refine ⟨_,M2,⟨_,_,_,rfl,.inr ⟨zas,[_,_,_,_,_],zao,rds_,rfl⟩,⟨_,_,rfl,rfl,rfl⟩,rfl⟩,zad,?_⟩
   exact ⟨_,rfl,hl2,hdk⟩
end Rec
end
section
open Go.RowKit
open Mv
set_option maxRecDepth 4000
namespace St
theorem zbe (s:ByteArray):s.data.toList.length=s.size:=Array.length_toList (xs:=s.data)
theorem zmj {p:UInt8→Bool}:∀ {l:List UInt8},l.dropWhile p = [] ↔ ∀ x ∈ l,p x=true
 | []=>⟨fun _ x hx=>(by cases hx),fun _=>rfl⟩
 | a :: l=>by
  by_cases ha:p a=true
  ·rw [List.dropWhile_cons_of_pos ha,zmj]
   exact ⟨fun h x hx=>(List.mem_cons.1 hx).elim (fun e=>e ▸ ha) (h x),fun h x hx=>h x (List.mem_cons_of_mem _ hx)⟩
  ·rw [List.dropWhile_cons_of_neg ha]
   exact ⟨fun h=>(by cases h),fun h=>absurd (h a (List.mem_cons_self ..)) ha⟩
def rtrim (c:UInt8) (l:List UInt8):List UInt8:=(l.reverse.dropWhile (· == c)).reverse
theorem zmk (c:UInt8) (l:List UInt8) (h:∀ x ∈ l,x=c):rtrim c l = []:=by
 unfold rtrim
 rw [zmj.2 (fun x hx=>by simp [h x (List.mem_reverse.1 hx)])];rfl
theorem zml (c:UInt8) (l r:List UInt8) (h:∀ x ∈ r,x=c):rtrim c (l ++ r)=rtrim c l:=by
 unfold rtrim
 rw [List.reverse_append]
 have:∀ (a b:List UInt8),(∀ x ∈ a,x=c)→(a ++ b).dropWhile (· == c)=b.dropWhile (· == c):=by
  intro a b ha
  induction a with
  | nil=>rfl
  | cons x a ih =>
   rw [List.cons_append,List.dropWhile_cons_of_pos (by simp [ha x (by simp)])]
   exact ih fun y hy=>ha y (by simp [hy])
 rw [this _ _ fun x hx=>h x (List.mem_reverse.1 hx)]
theorem zmm (c x:UInt8) (l:List UInt8) (h:x≠c):rtrim c (l ++ [x])=l ++ [x]:=by
 unfold rtrim
 rw [List.reverse_append,List.reverse_singleton,List.singleton_append,List.dropWhile_cons_of_neg (by simpa using h)]
 simp
theorem zfS (c:UInt8) (l:List UInt8) (m:Nat) (hm:m≤l.length) (hd:∀ x ∈ l.drop m,x=c) (he:m=0∨at8 l (m-1)≠c):rtrim c l=l.take m:=by
 rw [← List.take_append_drop m l,zml c _ _ hd,List.take_append_drop]
 rcases he with rfl | he
 ·rfl
 ·by_cases h0:m=0
  ·subst h0;rfl
  ·obtain ⟨k,rfl⟩ : ∃ k,m=k+1:=⟨m-1,by omega⟩
   rw [List.take_succ_eq_append_getElem (by omega:k<l.length)]
   refine zmm c _ _ fun e=>he ?_
   rw [Nat.add_sub_cancel,← e]
   simp [at8,List.getD_eq_getElem?_getD,List.getElem?_eq_getElem (by omega:k<l.length)]
theorem nb_inj {a b:UInt8}:nb a=nb b ↔ a=b:=by
 unfold nb
 constructor
 ·intro h;exact UInt8.toNat_inj.1 (by omega)
 ·intro h;rw [h]
theorem trimRight (s:ByteArray) (c:UInt8) (S:Mem) (hs:s.size≤9223372036854775807) :
  ACall Tryz.prog 165 #[.string s,.int .u8 (nb c)] S fun r S'=>r = .string (bs (rtrim c s.data.toList))∧S'=S:=by
 have hlen:=zbe s
 refine k_E2 (rs:=[.tmp 4]) 23 Tryz.func165 rfl rfl rfl ?_
 refine r7_ ?_
 refine AWP.loop (X:=Nat) (fun m=>[(0,.string (bs (s.data.toList.take m))),(1,.int .u8 (nb c))]) (fun m=>S) (fun m=>m≤s.size ∧ ∀ x ∈ s.data.toList.drop m,x=c) (fun m=>m) (s.size) ⟨by rw [List.take_of_length_le (by omega),bs_of];rfl,rfl,trivial⟩ (Mem.Less.refl _) (⟨Nat.le_refl _,by rw [List.drop_of_length_le (by omega)];intro x hx;cases hx⟩) ?_
 rintro m ⟨hm,hd⟩
 (try dsimp only at *)
 have hz:(bs (s.data.toList.take m)).size=m:=by rw [zaD,List.length_take];omega
 by_cases h0:m=0
 ·refine r17_ ?_
  refine cF_ ?_
  refine r12_ ?_
  refine ⟨_,S,⟨_,_,rfl,rfl,rfl⟩,zad,?_⟩
  exact ⟨by rw [zfS c _ m (by omega) hd (.inl h0)];rfl,rfl⟩
 ·obtain ⟨k,rfl⟩ : ∃ k,m=k+1:=⟨m-1,by omega⟩
  have hat:at8 (bs (s.data.toList.take (k+1))).data.toList (((bs (s.data.toList.take (k+1))).size:Int)-1).toNat=at8 s.data.toList k:=by rw [hz,bs_data,show (((k+1:Nat):Int)-1).toNat=k from by omega];simp [at8,List.getD_eq_getElem?_getD,List.getElem?_take]
  have hdr:s.data.toList.drop k=at8 s.data.toList k :: s.data.toList.drop (k+1):=by rw [List.drop_eq_getElem_cons (by omega:k<s.data.toList.length)];simp [at8,List.getD_eq_getElem?_getD,List.getElem?_eq_getElem (by omega:k<s.data.toList.length)]
  by_cases hx:at8 s.data.toList k=c
  ·have hn:nb (at8 (bs (s.data.toList.take (k+1))).data.toList (((bs (s.data.toList.take (k+1))).size:Int)-1).toNat)=nb c:=by rw [hat,hx]
   refine r17_ ?_
   refine cT_ ?_
   refine r13_ ?_
   refine ⟨k,?_,?_,?_,?_⟩
   all_goals (try dsimp only)
   ·exact ⟨by rw [show (bs (s.data.toList.take k))=(bs (s.data.toList.take (k+1))).extract 0 (((bs (s.data.toList.take (k+1))).size:Int)-1).toNat from by rw [hz,show (((k+1:Nat):Int)-1).toNat=k from by omega];apply zbv;rw [Lib.extract_data,bs_data,bs_data];simp [List.take_take]];rfl,rfl,trivial⟩
   ·exact zad
   ·exact ⟨by omega,by rw [hdr];intro x hx';rcases List.mem_cons.1 hx' with e | e;exact e.trans hx;exact hd x e⟩
   ·omega
  ·have hn:nb (at8 (bs (s.data.toList.take (k+1))).data.toList (((bs (s.data.toList.take (k+1))).size:Int)-1).toNat)≠nb c:=by rw [hat];exact fun e=>hx (nb_inj.1 e)
   refine r17_ ?_
   refine cF_ ?_
   refine r11_ ?_
   refine k_v4 0 1 16 4 ?_
   refine s1_ ?_
   refine ⟨_,S,⟨_,_,rfl,rfl,rfl⟩,zad,?_⟩
   exact ⟨by rw [zfS c _ (k+1) (by omega) hd (.inr hx)];rfl,rfl⟩
theorem trimLeft (s:ByteArray) (c:UInt8) (S:Mem) (hs:s.size≤9223372036854775807) :
  ACall Tryz.prog 164 #[.string s,.int .u8 (nb c)] S fun r S'=>r = .string (bs (s.data.toList.dropWhile (· == c)))∧S'=S:=by
 have hlen:=zbe s
 have hdw:∀ l:List UInt8,l.dropWhile (· == c) = [] ∨ ∃ x r,l.dropWhile (· == c)=x :: r∧x≠c:=fun l=>by
  induction l with
  | nil=>exact .inl rfl
  | cons x l ih =>
   by_cases h:x=c
   ·rw [List.dropWhile_cons_of_pos (by simp [h])];exact ih
   ·rw [List.dropWhile_cons_of_neg (by simpa using h)];exact .inr ⟨x,l,rfl,h⟩
 refine k_E2 (rs:=[.tmp 4]) 17 Tryz.func164 rfl rfl rfl ?_
 refine r7_ ?_
 refine AWP.loop (X:=Nat) (fun m=>[(0,.string (bs (s.data.toList.drop m))),(1,.int .u8 (nb c))]) (fun m=>S) (fun m=>m≤s.size∧(s.data.toList.drop m).dropWhile (· == c)=s.data.toList.dropWhile (· == c)) (fun m=>s.size-m) (0) ⟨by rw [List.drop_zero,bs_of];rfl,rfl,trivial⟩ (Mem.Less.refl _) (⟨Nat.zero_le _,rfl⟩) ?_
 rintro m ⟨hm,hd⟩
 (try dsimp only at *)
 have hz:(bs (s.data.toList.drop m)).size=s.size-m:=by rw [zaD,List.length_drop];omega
 by_cases h0:m=s.size
 ·refine r14_ ?_
  refine cF_ ?_
  refine r12_ ?_
  refine ⟨_,S,⟨_,_,rfl,rfl,rfl⟩,zad,?_⟩
  exact ⟨by rw [← hd,List.drop_of_length_le (by omega)];rfl,rfl⟩
 ·have hdr:s.data.toList.drop m=at8 s.data.toList m :: s.data.toList.drop (m+1):=by rw [List.drop_eq_getElem_cons (by omega:m<s.data.toList.length)];simp [at8,List.getD_eq_getElem?_getD,List.getElem?_eq_getElem (by omega:m<s.data.toList.length)]
  have hat:at8 (bs (s.data.toList.drop m)).data.toList (0:Int).toNat=at8 s.data.toList m:=by rw [bs_data,hdr];rfl
  by_cases hx:at8 s.data.toList m=c
  ·have hn:nb (at8 (bs (s.data.toList.drop m)).data.toList (0:Int).toNat)=nb c:=by rw [hat,hx]
   refine r14_ ?_
   refine cT_ ?_
   refine r10_ ?_
   refine ⟨m+1,?_,?_,?_,?_⟩
   all_goals (try dsimp only)
   ·exact ⟨by rw [show (bs (s.data.toList.drop (m+1)))=(bs (s.data.toList.drop m)).extract 1 (bs (s.data.toList.drop m)).size from by apply zbv;rw [Lib.extract_data,bs_data,bs_data,hz,hdr];simp;rw [List.take_of_length_le (by rw [List.length_drop];omega)]];rfl,rfl,trivial⟩
   ·exact zad
   ·exact ⟨by omega,by rw [← hd,hdr,List.dropWhile_cons_of_pos (by simp [hx])]⟩
   ·omega
  ·have hn:nb (at8 (bs (s.data.toList.drop m)).data.toList (0:Int).toNat)≠nb c:=by rw [hat];exact fun e=>hx (nb_inj.1 e)
   refine r14_ ?_
   refine cF_ ?_
   refine r11_ ?_
   refine k_v4 0 1 13 4 ?_
   refine s1_ ?_
   refine ⟨_,S,⟨_,_,rfl,rfl,rfl⟩,zad,?_⟩
   exact ⟨by rw [← hd,hdr,List.dropWhile_cons_of_neg (by simpa using hx)];rfl,rfl⟩
theorem zt2 (s:ByteArray) (S:Mem) (hs:s.size≤9223372036854775807) :
  ACall Tryz.prog 114 #[.string s,.string ⟨#[0]⟩] S fun r S'=>r = .string (bs ((rtrim 0 s.data.toList).dropWhile (· == 0)))∧S'=S:=by
 have z1:(⟨#[0]⟩ : ByteArray).size=1:=rfl
 have hne:(⟨#[0]⟩ : ByteArray)≠ByteArray.empty:=fun e=>by have:=congrArg ByteArray.size e;rw [z1] at this;exact absurd this (by decide)
 have hat:nb (at8 (⟨#[0]⟩ : ByteArray).data.toList (0:Int).toNat)=0:=rfl
 by_cases h0:s=ByteArray.empty
 ·subst h0
  refine k_E2 (rs:=[.tmp 4]) 43 Tryz.func114 rfl rfl rfl ?_
  refine r9_ ?_
  refine rC (Calm.bin rfl rfl (zag (zaw _ _) (decide_eq_true rfl))) ?_
  refine r6_ ?_
  refine cT_ ?_
  refine r8_ ?_
  refine ⟨_,S,⟨_,_,rfl,rfl,rfl⟩,zad,?_⟩
  exact ⟨rfl,rfl⟩
 ·have hr:(bs (rtrim 0 s.data.toList)).size≤9223372036854775807:=by
   rw [zaD]
   unfold rtrim
   rw [List.length_reverse]
   have h1:=(List.dropWhile_sublist (· == (0:UInt8)) (l:=s.data.toList.reverse)).length_le
   rw [List.length_reverse] at h1
   have:=zbe s
   omega
  have hl:=trimLeft (bs (rtrim 0 s.data.toList)) 0 S hr
  rw [bs_data] at hl
  refine k_E2 (rs:=[.tmp 4]) 43 Tryz.func114 rfl rfl rfl ?_
  refine r9_ ?_
  refine rC (Calm.bin rfl rfl (zag (zaw _ _) (decide_eq_false h0))) ?_
  refine r2_ ?_
  first|refine k_q 9 ?_|refine rG 9 (Calm.bin rfl rfl (zag (zaw _ _) (decide_eq_false hne))) ?_
  refine r3_ ?_
  refine cF_ ?_
  refine r15_ ?_
  refine cT_ ?_
  refine s1_ ?_
  refine AWP.draw [(0,true),(1,true),(2,true),(4,true),(5,true),(3,false),(6,false),(7,true)] [] mixed (by kernel_rfl) ?_
  refine r5_ ?_
  refine zac rfl ?_
  refine ca_ rfl (trimRight s 0 S hs) ?_
  rintro _ S1 ⟨rfl,h1⟩
  rw [h1];clear h1 S1
  refine zae ⟨fun _=>zad,?_⟩
  refine zac rfl ?_
  refine ca_ rfl (hl) ?_
  rintro _ S1 ⟨rfl,h1⟩
  rw [h1];clear h1 S1
  refine zae ⟨fun _=>zad,?_⟩
  refine r3_ ?_
  refine k_v5 0 1 4 12 21 ?_
  refine r2_ ?_
  refine ⟨_,S,⟨_,_,rfl,rfl,rfl⟩,zad,?_⟩
  exact ⟨rfl,rfl⟩
theorem zoR (l:List UInt8):((rtrim 0 l).dropWhile (· == 0) = []) ↔ (l.all fun b=>b == 0)=true:=by
 constructor
 ·intro h
  rw [List.all_eq_true]
  intro x hx
  have h1:∀ y ∈ rtrim 0 l,(y == (0:UInt8))=true:=zmj.1 h
  have h2:∀ (r:List UInt8),(∀ y ∈ (r.dropWhile (· == (0:UInt8))),(y == (0:UInt8))=true) → ∀ y ∈ r,(y == (0:UInt8))=true:=by
   intro r
   induction r with
   | nil=>intro _ y hy;cases hy
   | cons a r ih =>
    by_cases ha:(a == (0:UInt8))=true
    ·rw [List.dropWhile_cons_of_pos (p:=fun x=>x == (0:UInt8)) ha]
     intro hh y hy
     rcases List.mem_cons.1 hy with rfl | hy
     ·exact ha
     ·exact ih hh y hy
    ·rw [List.dropWhile_cons_of_neg (p:=fun x=>x == (0:UInt8)) ha]
     exact fun hh=>hh
  exact h2 l.reverse (fun y hy=>h1 y (by unfold rtrim;exact List.mem_reverse.2 hy)) x (List.mem_reverse.2 hx)
 ·intro h
  rw [zmk 0 l (fun x hx=>by have:=List.all_eq_true.1 h x hx;simpa using this)]
  rfl
theorem hasPrefix (s p:ByteArray) (S:Mem) (hs:s.size≤9223372036854775807) (hp:p.size≤9223372036854775807) :
  ACall Tryz.prog 188 #[.string s,.string p] S fun r S'=>r = .bool (decide (s.data.toList.take p.size=p.data.toList))∧S'=S:=by
 have hl:=zbe s
 have hlp:=zbe p
 by_cases h:p.size≤s.size
 ·have e:decide (s.extract 0 p.size=p)=decide (s.data.toList.take p.size=p.data.toList):=by
   rw [decide_eq_decide]
   constructor
   ·intro h;rw [← congrArg (fun x=>x.data.toList) h];simp [Lib.extract_data]
   ·intro h;apply zbv;rw [← h];simp [Lib.extract_data]
  refine k_E2 (rs:=[.tmp 4]) 18 Tryz.func188 rfl rfl rfl ?_
  refine r24_ ?_
  refine ⟨_,S,⟨_,_,rfl,rfl,rfl⟩,zad,?_⟩
  exact ⟨by rw [← e];rfl,rfl⟩
 ·have e:decide (s.data.toList.take p.size=p.data.toList)=false:=decide_eq_false fun h=>by
   have:=congrArg List.length h
   rw [List.length_take] at this;omega
  rw [e]
  refine k_E2 (rs:=[.tmp 4]) 18 Tryz.func188 rfl rfl rfl ?_
  refine r24_ ?_
  refine ⟨_,S,⟨_,_,rfl,rfl,rfl⟩,zad,?_⟩
  exact ⟨rfl,rfl⟩
theorem HasPrefix (s p:ByteArray) (S:Mem) (hs:s.size≤9223372036854775807) (hp:p.size≤9223372036854775807) :
  ACall Tryz.prog 134 #[.string s,.string p] S fun r S'=>r = .bool (decide (s.data.toList.take p.size=p.data.toList))∧S'=S:=by
 refine k_E2 (rs:=[.tmp 4]) 8 Tryz.func134 rfl rfl rfl ?_
 refine r9_ ?_
 refine ca_ rfl (hasPrefix s p _ hs hp) ?_
 rintro _ S1 ⟨rfl,h1⟩
 rw [h1];clear h1 S1
 refine r4_ ?_
 refine ⟨_,S,⟨_,_,rfl,rfl,rfl⟩,zad,?_⟩
 exact ⟨rfl,rfl⟩
end St
end
section
open Go.RowKit
open Mv Disk Num
set_option maxRecDepth 4000
namespace Rec
theorem zee {d:D} (hR:Right d) {s:ByteArray} {k:Int} (h:(readD d s k).2=0):(placeD d s k).2=0∧(readD d s k).1.size=64:=by
 have hp:(placeD d s k).2=0:=by
  by_cases q:(placeD d s k).2=0
  ·exact q
  ·rw [zcj,if_pos q] at h;exact absurd h q
 refine ⟨hp,?_⟩
 rw [zcj,if_neg (by simpa using hp)]
 obtain ⟨h1,h2,h3⟩:=zdN hp
 have hx:=zbk hR.ex.asc h1
 have he:=(zcQ (hR.ex.ok _ hx.1)).2
 unfold seen
 rcases zgq allK d.waits s k ((exOf d.ext s).2.extract (64*k.toNat) (64*k.toNat+64)) d.waits.length with e | ⟨w,hw,_,_,e⟩
 ·rw [e,ByteArray.size_extract];omega
 ·rw [e]
  obtain ⟨_,_,_,_,_,h64⟩:=hR.wr w hw
  exact h64
noncomputable def headD (d:D) (s:ByteArray):Nat × Nat × Int :=
  if (readD d s 0).2≠0 then (0,0,(readD d s 0).2) else
  if (formP (readD d s 0).1).2.2≠0 then (0,0,(formP (readD d s 0).1).2.2) else
  if (needP (formP (readD d s 0).1).1 (formP (readD d s 0).1).2.1).2≠0∨(sec (exOf d.ext s):Int)≠(needN (formP (readD d s 0).1).1 (formP (readD d s 0).1).2.1:Nat) then (0,0,2) else
  formP (readD d s 0).1
theorem zef {d:D} (h:(openD d).2=0) (s:ByteArray) (k:Int):readO d s k=readD d s k:=by unfold readO;rw [if_neg (by omega)]
theorem zc_ {d:D} (h:(openD d).2=0) (s:ByteArray):headP d s=headD d s:=by
 unfold headP headD
 rw [zef h]
 by_cases q:(readD d s 0).2≠0
 ·rw [if_pos q,if_pos q]
 rw [if_neg q,if_neg q]
 have hh:has d.ext s=true:=by
  have q:(readD d s 0).2=0:=by omega
  by_cases p:(placeD d s 0).2=0
  ·exact (zdN p).1
  ·rw [zcj,if_pos p] at q;exact absurd q p
 have hs:(sectorsD d s).1=((sec (exOf d.ext s):Nat):Int):=by unfold sectorsD;rw [if_neg (by omega),if_pos hh]
 rw [hs]
theorem zfT {d:D} (h:(openD d).2≠0) (s:ByteArray):headP d s=(0,0,(openD d).2):=by
 have e:(readO d s 0).2=(openD d).2:=by unfold readO;rw [if_pos h]
 unfold headP
 rw [if_pos (by rw [e];exact h),e]
theorem zhq (s:ByteArray) (S:Mem) (hs:s.size≤9223372036854775807):ACall Tryz.prog 63 #[.string s] S fun r S'=>r = .bool (zeroL s.data.toList)∧S'=S:=by
 have e:decide (bs ((St.rtrim 0 s.data.toList).dropWhile (· == 0))=ByteArray.empty)=zeroL s.data.toList:=by
  rw [Bool.eq_iff_iff,decide_eq_true_eq]
  unfold zeroL
  rw [← St.zoR]
  constructor
  ·intro h
   have:=congrArg (fun x=>x.data.toList) h
   rw [bs_data] at this
   exact this
  ·intro h;rw [h];rfl
 refine k_E1 (rs:=[.tmp 2]) 6 Tryz.func63 rfl rfl rfl ?_
 refine r8_ ?_
 refine ca_ rfl (St.zt2 s _ hs) ?_
 rintro _ S1 ⟨rfl,h1⟩
 rw [h1];clear h1 S1
 refine r5_ ?_
 refine ⟨_,S,⟨_,_,rfl,rfl,rfl⟩,zad,?_⟩
 exact ⟨by rw [← e];rfl,rfl⟩
def formV (p:Nat × Nat × Int):Value:=.tuple #[.int .i64 (p.1:Nat),.int .u64 (p.2.1:Nat),.int .i64 p.2.2]
theorem zjy (l:List UInt8) (j:Nat):at8 l j=l.getD j 0:=rfl
set_option maxHeartbeats 1000000 in
theorem zoS (s:ByteArray) (S:Mem) (hs:s.size=64):ACall Tryz.prog 110 #[.string s] S fun r S'=>r=formV (formP s)∧S'=S:=by
 have hpre:=fun M=>St.HasPrefix s ⟨#[87,82]⟩ M (by omega) (by show 2≤_;decide)
 have hl2:(⟨#[87,82]⟩ : ByteArray).data.toList = [87,82]:=rfl
 rw [hl2] at hpre
 have hsl:=St.zbe s
 unfold formV formP
 by_cases h1:s.data.toList.take 2 = [87,82]
 ·rw [show s.data.toList.take (⟨#[87,82]⟩ : ByteArray).size=s.data.toList.take 2 from rfl,decide_eq_true h1] at hpre
  by_cases h2:8<(s.data.toList.getD 2 0).toNat
  ·rw [if_pos (.inr (.inl h2))]
   have hn:(8:Int)<nb (at8 s.data.toList (2:Int).toNat):=by rw [zjy];unfold nb;exact Int.ofNat_lt.2 h2
   refine k_E1 (rs:=[.tmp 2,.tmp 3,.tmp 4]) 36 Tryz.func110 rfl rfl rfl ?_
   refine r11_ ?_
   refine ca_ rfl (hpre _) ?_
   rintro _ S1 ⟨rfl,h1⟩
   rw [h1];clear h1 S1
   refine r3_ ?_
   first|refine k_q 10 ?_|refine rG 10 (Calm.indexStr (zau zaA) rfl rfl (by omega) (by omega)) ?_
   refine r10_ ?_
   refine cT_ ?_
   refine r9_ ?_
   refine ⟨_,S,⟨_,_,rfl,⟨_,_,rfl,⟨_,_,rfl,rfl,rfl⟩,rfl⟩,rfl⟩,zad,?_⟩
   exact ⟨rfl,rfl⟩
  ·have hn : ¬ (8:Int)<nb (at8 s.data.toList (2:Int).toNat):=by rw [zjy];unfold nb;exact fun h=>h2 (Int.ofNat_lt.1 h)
   have hn0:=nb_nonneg (at8 s.data.toList (2:Int).toNat)
   have hex:∀ n:Nat,n≤64→(s.extract n s.size).data.toList=s.data.toList.drop n:=fun n hn=>by simp [Lib.extract_data];rw [List.take_of_length_le (by rw [List.length_drop];omega)]
   have hz:=fun M=>zhq (s.extract 12 s.size) M (by rw [ByteArray.size_extract];omega)
   rw [hex 12 (by decide)] at hz
   by_cases h3:zeroL (s.data.toList.drop 12)=false
   ·rw [if_pos (.inr (.inr h3))]
    rw [h3] at hz
    refine k_E1 (rs:=[.tmp 2,.tmp 3,.tmp 4]) 36 Tryz.func110 rfl rfl rfl ?_
    refine r11_ ?_
    refine ca_ rfl (hpre _) ?_
    rintro _ S1 ⟨rfl,h1⟩
    rw [h1];clear h1 S1
    refine r3_ ?_
    first|refine k_q 10 ?_|refine rG 10 (Calm.indexStr (zau zaA) rfl rfl (by omega) (by omega)) ?_
    refine r5_ ?_
    refine ARun.callG 8 false 15 rfl (zab rfl) rfl (zab rfl) zoe rfl (hz _) ?_
    rintro _ S1 ⟨rfl,h1⟩
    rw [h1];clear h1 S1
    refine r4_ ?_
    refine cT_ ?_
    refine r9_ ?_
    refine ⟨_,S,⟨_,_,rfl,⟨_,_,rfl,⟨_,_,rfl,rfl,rfl⟩,rfl⟩,rfl⟩,zad,?_⟩
    exact ⟨rfl,rfl⟩
   ·rw [if_neg (fun h=>by rcases h with h | h | h;exact h h1;exact h2 h;exact h3 h)]
    rw [Bool.not_eq_false] at h3
    rw [h3] at hz
    have ho:∀ M,ACall Tryz.prog 162 #[.string (s.extract 0 12)] M fun r S'=>r = .tuple #[.string (openS (s.extract 0 12)).1,.int .i64 (openS (s.extract 0 12)).2]∧S'=M:=fun M=>ACall.of_calls fun w=>zoI _ (by rw [ByteArray.size_extract,hs];decide) w
    have hof:=fun M=>zmg (s.extract 3 s.size) M (by rw [ByteArray.size_extract];omega) (by rw [ByteArray.size_extract];omega)
    rw [hex 3 (by decide)] at hof
    by_cases h4:(openS (s.extract 0 12)).2=0
    ·rw [if_neg (by omega)]
     rw [h4] at ho
     refine k_E1 (rs:=[.tmp 2,.tmp 3,.tmp 4]) 36 Tryz.func110 rfl rfl rfl ?_
     refine r11_ ?_
     refine ca_ rfl (hpre _) ?_
     rintro _ S1 ⟨rfl,h1⟩
     rw [h1];clear h1 S1
     refine r3_ ?_
     first|refine k_q 10 ?_|refine rG 10 (Calm.indexStr (zau zaA) rfl rfl (by omega) (by omega)) ?_
     refine r5_ ?_
     refine ARun.callG 8 false 15 rfl (zab rfl) rfl (zab rfl) zoe rfl (hz _) ?_
     rintro _ S1 ⟨rfl,h1⟩
     rw [h1];clear h1 S1
     refine r4_ ?_
     refine cF_ ?_
     refine r7_ ?_
     refine ca_ rfl (ho _) ?_
     rintro _ S1 ⟨rfl,h1⟩
     rw [h1];clear h1 S1
     refine r13_ ?_
     refine k_v7 0 2 3 4 20 6 28 ?_
     refine cF_ ?_
     refine r3_ ?_
     refine AWP.draw [(0,true),(1,true),(2,true),(3,true),(4,true),(5,false),(6,true),(7,true),(8,true)] [] mixed (by kernel_rfl) ?_
     refine r5_ ?_
     refine zac rfl ?_
     refine ca_ rfl (hof _) ?_
     rintro _ S1 ⟨rfl,h1⟩
     rw [h1];clear h1 S1
     refine zae ⟨fun _=>zad,?_⟩
     refine r6_ ?_
     refine ⟨_,S,⟨_,_,rfl,⟨_,_,rfl,⟨_,_,rfl,rfl,rfl⟩,rfl⟩,rfl⟩,zad,?_⟩
     exact ⟨rfl,rfl⟩
    ·rw [if_pos h4]
     refine k_E1 (rs:=[.tmp 2,.tmp 3,.tmp 4]) 36 Tryz.func110 rfl rfl rfl ?_
     refine r11_ ?_
     refine ca_ rfl (hpre _) ?_
     rintro _ S1 ⟨rfl,h1⟩
     rw [h1];clear h1 S1
     refine r3_ ?_
     first|refine k_q 10 ?_|refine rG 10 (Calm.indexStr (zau zaA) rfl rfl (by omega) (by omega)) ?_
     refine r5_ ?_
     refine ARun.callG 8 false 15 rfl (zab rfl) rfl (zab rfl) zoe rfl (hz _) ?_
     rintro _ S1 ⟨rfl,h1⟩
     rw [h1];clear h1 S1
     refine r4_ ?_
     refine cF_ ?_
     refine r7_ ?_
     refine ca_ rfl (ho _) ?_
     rintro _ S1 ⟨rfl,h1⟩
     rw [h1];clear h1 S1
     refine r13_ ?_
     refine cT_ ?_
     refine r8_ ?_
     refine k_v7 0 2 3 4 20 6 28 ?_
     refine r2_ ?_
     refine ⟨_,S,⟨_,_,rfl,⟨_,_,rfl,⟨_,_,rfl,rfl,rfl⟩,rfl⟩,rfl⟩,zad,?_⟩
     exact ⟨rfl,rfl⟩
 ·rw [if_pos (.inl h1)]
  rw [show s.data.toList.take (⟨#[87,82]⟩ : ByteArray).size=s.data.toList.take 2 from rfl,decide_eq_false h1] at hpre
  refine k_E1 (rs:=[.tmp 2,.tmp 3,.tmp 4]) 36 Tryz.func110 rfl rfl rfl ?_
  refine r11_ ?_
  refine ca_ rfl (hpre _) ?_
  rintro _ S1 ⟨rfl,h1⟩
  rw [h1];clear h1 S1
  refine r14_ ?_
  refine cT_ ?_
  refine r9_ ?_
  refine ⟨_,S,⟨_,_,rfl,⟨_,_,rfl,⟨_,_,rfl,rfl,rfl⟩,rfl⟩,rfl⟩,zad,?_⟩
  exact ⟨rfl,rfl⟩
theorem zhr {S:Mem} {b o:Nat} {u v:Value} (h:S.Knows ⟨b,o,none⟩ [u,v]):S.Knows ⟨b,o+1,none⟩ [v]:=fun w hv j x hj=>by
 cases j with
 | zero =>
  have:=h w hv 1 v rfl
  simp only [List.getElem?_cons_zero,Option.some.injEq] at hj
  subst hj
  rw [zaz] at this ⊢
  exact this
 | succ j=>simp at hj
theorem zoT (s n:ByteArray) (x:ByteArray) (kb:Nat) (S:Mem) (hk:S.Knows ⟨kb,0,none⟩ [.string s]) :
  ACall Tryz.prog 112 #[.agg #[.string n,.string x],.pointer (some ⟨kb,0,none⟩)] S fun r S'=>r = .bool (decide (n=s))∧S'=S:=by
 refine k_E2 (rs:=[.tmp 3]) 8 Tryz.func112 rfl rfl rfl ?_
 refine r2_ ?_
 refine ARun.boxA (cs:=[_,_]) (zab rfl) rfl ?_
 intro b2 f2
 have g2:=f2
 repeat ((with_reducible replace g2:=zaa g2);obtain ⟨g2,_⟩:=g2)
 refine nl_ ?_
 refine r13_ ?_
 refine ⟨_,S,⟨_,_,rfl,rfl,rfl⟩,zad,?_⟩
 exact ⟨rfl,rfl⟩
theorem zhs (v:Value) (l:List Ext) (s:ByteArray) (kb:Nat) (S:Mem) (hl:Sl 2 extF S v l) (hk:S.Knows ⟨kb,0,none⟩ [.string s]) (x:Ext) (hx:x ∈ l) (hxs:x.1=s) (ha:Asc l) :
  ACall Tryz.prog 111 #[v,.func (.func 112) #[] #[.pointer (some ⟨kb,0,none⟩)]] S fun r S'=>(∃ j,∃ h:j<l.length,r = .int .i64 (j:Int)∧l[j]=x)∧S'=S:=by
 obtain ⟨a,cap,rfl,h1,h2,h3⟩:=id hl
 refine k_E2 (rs:=[.tmp 4]) 19 Tryz.func111 rfl rfl rfl ?_
 refine r14_ ?_
 refine AWP.loop (X:=Nat) (fun i=>[(0,.slice a l.length cap),(1,.func (.func 112) #[] #[.pointer (some ⟨kb,0,none⟩)]),(7,.int .i64 l.length),(8,.int .i64 i)]) (fun i=>S) (fun i=>i≤l.length ∧ ∀ j (h:j<l.length),j<i→l[j].1≠s) (fun i=>l.length-i) (0) ⟨rfl,rfl,rfl,rfl,trivial⟩ (Mem.Less.refl _) (⟨Nat.zero_le _,fun j _ h=>absurd h (Nat.not_lt_zero _)⟩) ?_
 rintro i ⟨hi,hall⟩
 (try dsimp only at *)
 obtain ⟨j0,hj0,e0⟩:=List.getElem_of_mem hx
 have hc:i<l.length:=by rcases Nat.lt_or_ge i l.length with h | h;exact h;exact absurd (by rw [e0];exact hxs) (hall j0 hj0 (by omega))
 refine r6_ ?_
 refine cT_ ?_
 obtain ⟨b,off,rfl,hkk⟩:=h3.resolve_left (fun e=>by subst e;simp at hc)
 have hki:=hkk i hc
 unfold extF at hki
 refine r17_ ?_
 refine ARun.callV (zab rfl) zsQ rfl rfl (zoT s l[i].1 l[i].2 kb _ hk) ?_
 rintro _ S1 ⟨rfl,h1⟩
 rw [h1];clear h1 S1
 refine r2_ ?_
 refine AWP.condB rfl (fun hb=>?_) (fun hb=>?_)
 ·have hb:=of_decide_eq_true hb
  refine r12_ ?_
  refine ⟨_,S,⟨_,_,rfl,rfl,rfl⟩,zad,?_⟩
  exact ⟨⟨i,hc,rfl,by have e1:=zbw ha (List.getElem_mem hc);have e2:=zbw ha hx;rw [← e1,← e2,hb,hxs]⟩,rfl⟩
 ·have hb:=of_decide_eq_false hb
  refine r8_ ?_
  refine ⟨i+1,?_,?_,?_,?_⟩
  all_goals (try dsimp only)
  ·exact ⟨rfl,rfl,rfl,rfl,trivial⟩
  ·exact zad
  ·exact ⟨hc,fun j h hj=>by rcases Nat.lt_or_ge j i with h' | h';exact hall j h h';obtain rfl:j=i:=(by omega);exact hb⟩
  ·omega
end Rec
end
section
open Go.RowKit
open Mv Num
set_option maxRecDepth 8000
theorem zmn {w w':World} {a:Addr} (h:w'.heap[a.block]?=w.heap[a.block]?):w'.cell? a=w.cell? a:=by unfold World.cell?;rw [h]
theorem zht {α : Type} [Inhabited α] (enc : α→Value) {S:Mem} {b room m:Nat} {T:TypeId} {cs:List Value} (d:Array α) (os:Array Obj) {w:World} (hv:View (S.set b ⟨T,cs,room⟩) w) (hl:cs.length=d.size) :
  Step (S.set b ⟨T,cs,room⟩) w (S.set b ⟨T,d.toList.map enc,room⟩) (Go.Proofs.sortWorld enc w b 0 m d os):=by
 obtain ⟨cur,fz,h1,h2,h3,h4⟩:=hv.own b _ (Mem.own_set_same _ _ _)
 have hsz:d.size≤cur.size:=by have:=h2.length_le;simp only [Array.length_toList] at this;rw [← hl];exact this
 have hle:w.heap.size≤(Go.Proofs.sortWorld enc w b 0 m d os).heap.size:=by
  show w.heap.size≤(w.heap.modify b _ ++ os).size;rw [Array.size_append,Array.size_modify];omega
 have hh:∀ k,k<w.heap.size→(Go.Proofs.sortWorld enc w b 0 m d os).heap[k]?=(w.heap.modify b (Go.Sort.onCells (Go.Sort.putCells enc 0 d)))[k]?:=fun k hk=>by
  show (w.heap.modify b _ ++ os)[k]?=_
  rw [Array.getElem?_append_left (by rw [Array.size_modify];exact hk)]
 have ho:∀ k,k<w.heap.size→k≠b→(Go.Proofs.sortWorld enc w b 0 m d os).heap[k]?=w.heap[k]?:=fun k hk hne=>by
  rw [hh k hk,Array.getElem?_modify,if_neg (Ne.symm hne)]
 have hb:=hh b (hv.lt (Mem.own_set_same _ _ _))
 rw [Array.getElem?_modify,if_pos rfl,h1] at hb
 have hs2:(Go.Sort.putCells enc 0 d cur).size=cur.size:=by unfold Go.Sort.putCells;rw [Array.size_mapIdx]
 refine ⟨⟨fun k r hk=>?_,fun a v ha=>?_,?_⟩,rfl,rfl,rfl,hle,fun k hk hn=>ho k hk (fun e=>by rw [e,Mem.own_set_same] at hn;cases hn),fun k hk=>.inl ?_,fun _ _ h=>.inl h⟩
 ·by_cases e:k=b
  ·subst e
   rw [Mem.own_set_same] at hk;cases hk
   refine ⟨_,fz,hb,?_,by rw [hs2];exact h3,by rw [hs2];exact h4⟩
   rw [List.prefix_iff_eq_take]
   refine List.ext_getElem (by simp [hs2];omega) fun i i1 i2=>?_
   have hi:i<d.size:=by simpa using i1
   rw [List.getElem_map,List.getElem_take,Array.getElem_toList,Array.getElem_toList]
   unfold Go.Sort.putCells
   rw [Array.getElem_mapIdx,if_pos (by omega)]
   simp [getElem!_pos d i hi]
  ·rw [Mem.own_set_other _ _ e] at hk
   have hk2:=(Mem.own_set_other S ⟨T,cs,room⟩ e).trans hk
   rw [ho k (hv.lt hk2) e]
   exact hv.own k r hk2
 ·obtain ⟨g1,g2⟩:=hv.ro a v ha
  have e:a.block≠b:=fun e=>by rw [e,Mem.own_set_same] at g2;cases g2
  refine ⟨(zmn (ho _ (World.block_lt_of_cell? _ _ g1) e)).trans g1,?_⟩
  rw [Mem.own_set_other _ _ e] at g2 ⊢;exact g2
 ·exact hv.fzOf rfl (fun k hk _=>by
   have e:k≠b:=fun e=>by rw [e,Mem.own_set_same] at hk;cases hk
   rw [Mem.own_set_other _ _ e] at hk ⊢;exact hk) fun k hk hn=>ho k hk (fun e=>by rw [e,Mem.own_set_same] at hn;cases hn)
 ·by_cases e:k=b
  ·subst e;rw [Mem.own_set_same];simp
  ·rw [Mem.own_set_other _ _ e] at hk ⊢;exact hk
theorem zqm {P:Program} {α : Type} [Inhabited α] {enc : α→Value} {cf : α → α→Int} {f g:FuncId} {cb:Array Value} {T:TypeId} {S:Mem} {b n cap room:Nat} (L:List α) (hn:L.length=n) (hsz:n<4611686018427387904) (hb:Fresh S b)
  (hc:∀ w,View S w → ∀ x y,Calls P g (#[enc x,enc y] ++ cb) w fun e w'=>e = .returned (.int .i64 (cf x y)) ∧ ∃ q os,w'=Go.Sort.grow (w.drewN q) os)
  (hk:∀ (d:Array α) (w:World),Go.Proofs.CmpLays1 P g cb enc cf b 0 d.size w→Go.Sort.Holds enc w b 0 d→b<w.heap.size→d.size<4611686018427387904→Calls P f #[.slice (some ⟨b,0,none⟩) d.size cap,.func (.func g) #[] cb] w fun e w'=>e = .returned (.tuple #[]) ∧ ∃ d' k os,Go.Sort.PermIn 0 d.size d d'∧Go.Sort.SortedIn (Go.Proofs.ltOf cf) 0 d.size d'∧w'=Go.Proofs.sortWorld enc w b 0 k d' os) :
  ACall P f #[.slice (some ⟨b,0,none⟩) n cap,.func (.func g) #[] cb] (S.set b ⟨T,L.map enc,room⟩) fun r S'=>r = .tuple #[] ∧ ∃ L':List α,L'.Perm L∧L'.Pairwise (fun x y=>¬ cf y x<0)∧S'=S.set b ⟨T,L'.map enc,room⟩:=fun w hv=>by
 subst hn
 obtain ⟨cur,fz,h1,h2,h3,h4⟩:=hv.own b _ (Mem.own_set_same _ _ _)
 have hlt:=hv.lt (Mem.own_set_same _ _ _)
 have hh:Go.Sort.Holds enc w b 0 L.toArray:=fun j hj=>by
  have hj':j<L.length:=by simpa using hj
  have hp:=zbU h2 (show (L.map enc)[j]?=some (enc L[j]) from by simp [hj'])
  have hjc:j<cur.size:=by
   have:=(List.getElem?_eq_some_iff.1 hp).1
   simpa using this
  rw [getElem!_pos L.toArray j hj,List.getElem_toArray,Nat.zero_add]
  constructor
  ·simp only [World.cell?,h1]
   simpa using hp
  ·have:=h4 j (.inl hjc)
   simp [World.frozen?,h1]
   omega
 have hl:(L.map enc).length=L.toArray.size:=by simp
 have hcl:Go.Proofs.CmpLays1 P g cb enc cf b 0 L.toArray.size w:=fun m os dk hs x y=>hc _ ((zht enc (m:=m) dk os hv (by rw [hl,hs])).view.less (Mem.less_set _ _ _ hb.1)) x y
 refine (hk L.toArray w hcl hh hlt (by simpa using hsz)).mono fun e w' ⟨he,d',k,os,hp,hs,hw⟩=>?_
 have hd:d'.size=L.length:=by rw [hp.1];simp
 refine ⟨_,S.set b ⟨T,d'.toList.map enc,room⟩,he,⟨rfl,d'.toList,?_,?_,rfl⟩,by rw [hw];exact zht enc d' os hv (by rw [hl,hp.1])⟩
 ·have:=hp.2.2
  rw [show d'.extract 0 L.toArray.size=d' by rw [← hp.1];simp,show L.toArray.extract 0 L.toArray.size=L.toArray by simp] at this
  simpa using this
 ·rw [List.pairwise_iff_getElem]
  intro i j hi hj hij
  have hi':i<d'.size:=by simpa using hi
  have hj':j<d'.size:=by simpa using hj
  have:=hs i j (Nat.zero_le _) hij (by simp;omega)
  rw [getElem!_pos d' j hj',getElem!_pos d' i hi'] at this
  unfold ltOf at this
  simpa using this
theorem Mv.ACall.of_view {P:Program} {f:FuncId} {args:Array Value} {v:Value} {S:Mem} (h:∀ w,View S w→Calls P f args w fun e w'=>e = .returned v∧w'=w):ACall P f args S fun v' S'=>v'=v∧S'=S:=fun w hv =>
 (h w hv).mono fun e w' ⟨he,hw⟩=>⟨_,S,he,⟨rfl,rfl⟩,by rw [hw];exact Step.refl hv⟩
theorem zrc (x:Int) (w:World):Calls Tryz.prog 182 #[.int .u64 x] w fun e w'=>e = .returned (.bool false)∧w'=w:=by
 go_enter Tryz.func182,Tryz.ntmps182
 go_wp2_with fail
 go_ret
 exact ⟨by simp,rfl⟩
theorem zt3 (x y:Nat) (w:World):Calls Tryz.prog 199 #[.int .u64 (x:Int),.int .u64 (y:Int)] w fun e w'=>e = .returned (.int .i64 (if x<y then -1 else if y<x then 1 else 0))∧w'=w:=by
 rcases Nat.lt_trichotomy x y with q | q | q
 ·have q':(x:Int)<y:=by omega
  go_enter Tryz.func199,Tryz.ntmps199
  go_wp2_with (go_at_call 182;refine (zrc _ _).mono ?_;rintro e w' ⟨rfl,rfl⟩)
  go_ret
  exact ⟨by simp,rfl⟩
 ·subst q
  go_enter Tryz.func199,Tryz.ntmps199
  go_wp2_with (go_at_call 182;refine (zrc _ _).mono ?_;rintro e w' ⟨rfl,rfl⟩)
  go_ret
  exact ⟨by simp,rfl⟩
 ·have q' : ¬ (x:Int)<y:=by omega
  have q2:(y:Int)<x:=by omega
  go_enter Tryz.func199,Tryz.ntmps199
  go_wp2_with (go_at_call 182;refine (zrc _ _).mono ?_;rintro e w' ⟨rfl,rfl⟩)
  go_ret
  exact ⟨by simp,rfl⟩

theorem zmo {l m:List Nat} {i:Nat} (h:cmpB l m=cmpB (l.drop i) (m.drop i)) (hl:i<l.length) (hm:i<m.length):cmpB l m=if l[i]<m[i] then -1 else if m[i]<l[i] then 1 else cmpB (l.drop (i+1)) (m.drop (i+1)):=by
 rw [h,List.drop_eq_getElem_cons hl,List.drop_eq_getElem_cons hm];rfl
theorem zhu (v u:Value) (l m:List Nat) (S:Mem) (hv:Sl 1 u64s S v l) (hu:Sl 1 u64s S u m) (w:World) (hw:View S w) :
  Calls Tryz.prog 145 #[v,u] w fun e w'=>e = .returned (.int .i64 (cmpB l m))∧w'=w:=by
 obtain ⟨a,c,rfl,l1,l2,l3⟩:=hv
 obtain ⟨b,d,rfl,m1,m2,m3⟩:=hu
 go_enter Tryz.func145,Tryz.ntmps145
 go_wp2_with fail
 go_loop [11] (fun v11=>∃ i:Nat,i≤l.length∧v11 = .int .i64 i∧Hid (cmpB l m=cmpB (l.drop i) (m.drop i))) (fun v11=>l.length-(intOf v11).toNat)
 case atStart=>exact ⟨0,Nat.zero_le _,rfl,Lib.hid (by simp)⟩
 case round =>
  obtain ⟨i,hi,rfl,hc⟩:=hrel
  by_cases q1:i<l.length
  ·obtain ⟨p,o,rfl,hk⟩:=l3.resolve_left (fun e=>by rw [e] at q1;simp at q1)
   have g1:w.cell? ⟨p,o+i,none⟩=some (.int .u64 (l[i] : Int)):=by simpa [Addr.add] using hk i q1 w hw 0 _ rfl
   by_cases q2:i<m.length
   ·obtain ⟨p2,o2,rfl,hk2⟩:=m3.resolve_left (fun e=>by rw [e] at q2;simp at q2)
    have g2:w.cell? ⟨p2,o2+i,none⟩=some (.int .u64 (m[i] : Int)):=by simpa [Addr.add] using hk2 i q2 w hw 0 _ rfl
    have hd:=zmo hc.out q1 q2
    have j1:(i:Int)<l.length:=by omega
    have j2:(i:Int)<m.length:=by omega
    have j3:(0:Int)≤i:=by omega
    have j4:(i:Int).toNat=i:=by omega
    have h:=zt3 l[i] m[i] w
    by_cases e1:l[i]<m[i]
    ·rw [if_pos e1] at h hd
     go_wp2_with (go_at_call 199;refine h.mono ?_;rintro e w' ⟨rfl,rfl⟩)
     go_ret
     exact ⟨by simp [hd],rfl⟩
    ·rw [if_neg e1] at h hd
     by_cases e2:m[i]<l[i]
     ·rw [if_pos e2] at h hd
      go_wp2_with (go_at_call 199;refine h.mono ?_;rintro e w' ⟨rfl,rfl⟩)
      go_ret
      exact ⟨by simp [hd],rfl⟩
     ·rw [if_neg e2] at h hd
      have hd:=Lib.hid hd
      go_wp2_with (go_at_call 199;refine h.mono ?_;rintro e w' ⟨rfl,rfl⟩)
      exact ⟨⟨i+1,q1,by simp,hd⟩,by simp [intOf];omega⟩
   ·have hd:cmpB l m=1:=by rw [hc.out,List.drop_eq_getElem_cons q1,List.drop_eq_nil_of_le (show m.length≤i by omega)];rfl
    have j1:(i:Int)<l.length:=by omega
    have j2 : ¬ (i:Int)<m.length:=by omega
    have j3:(0:Int)≤i:=by omega
    have j4:(i:Int).toNat=i:=by omega
    go_wp2_with fail
    go_ret
    exact ⟨by simp [hd],rfl⟩
  ·have j1 : ¬ (i:Int)<l.length:=by omega
   have e0:l.drop i = []:=List.drop_eq_nil_of_le (by omega)
   by_cases q2:l.length<m.length
   ·have hd:cmpB l m = -1:=by rw [hc.out,e0,List.drop_eq_getElem_cons (show i<m.length by omega)];rfl
    have j2:(l.length:Int)<m.length:=by omega
    go_wp2_with fail
    go_ret
    exact ⟨by simp [hd],rfl⟩
   ·have hd:cmpB l m=0:=by rw [hc.out,e0,List.drop_eq_nil_of_le (show m.length≤i by omega)];rfl
    have j2 : ¬ (l.length:Int)<m.length:=by omega
    go_wp2_with fail
    go_ret
    exact ⟨by simp [hd],rfl⟩
end
section
open Go.RowKit
open Mv Num
set_option maxRecDepth 4000
theorem zcY (a b:List Nat) (va vb:Value) (S:Mem) (ha:Sl 1 u64s S va a) (hb:Sl 1 u64s S vb b) :
  ACall Tryz.prog 145 #[va,vb] S fun r S'=>r = .int .i64 (cmpB a b)∧S'=S:=.of_view fun w hw=>zhu va vb a b S ha hb w hw
theorem zmp (a b:List Nat) (va vb:Value) (S:Mem) (ha:Sl 1 u64s S va a) (hb:Sl 1 u64s S vb b) :
  ACall Tryz.prog 200 #[va,vb] S fun r S'=>r = .bool (lessB a b)∧S'=S:=by
 have hq:=ziy a b
 refine k_E2 (rs:=[.tmp 4]) 9 Tryz.func200 rfl rfl rfl ?_
 refine r9_ ?_
 refine ca_ rfl (zcY a b va vb S ha hb) ?_
 rintro _ S1 ⟨rfl,h1⟩
 rw [h1];clear h1 S1
 refine rC (Calm.bin rfl rfl (zag (zbc _ _) hq)) ?_
 refine r4_ ?_
 refine ⟨_,S,⟨_,_,rfl,rfl,rfl⟩,zad,?_⟩
 exact ⟨rfl,rfl⟩
end
section
open Go.RowKit
open Mv Num
set_option maxRecDepth 4000
namespace Num
end Num
namespace Num
theorem zrd (s:ByteArray) (i:Nat):s.extract i s.size=bs (s.data.toList.drop i):=by
 apply zbv;rw [data_extract,bs_data,List.take_of_length_le (by rw [zaT];exact Nat.le_refl _)]
end Num
end
section
open Go.RowKit
open Mv Num
set_option maxRecDepth 4000
def SplitR (s:ByteArray) (w:Int) (S:Mem) (r:Value) (S':Mem):Prop:=∃ v,r = .tuple #[v,.int .i64 (splitE s w)]∧S.Less S'∧SlOf RowR S' v (splitL s w)
theorem zjz (s:ByteArray) (w:Int) (h:w<1∨8<w):splitE s w=1∧splitL s w = []:=by
 have:splitE s w=1:=by unfold splitE;rw [if_pos h]
 exact ⟨this,by unfold splitL;rw [this];rfl⟩
theorem zoU (s:ByteArray) (w:Int) (h : ¬ (w<1∨8<w)) (h2:s.size % (5*w.toNat)≠0):splitE s w=5∧splitL s w = []:=by
 have:splitE s w=5:=by unfold splitE;rw [if_neg h,if_pos h2]
 exact ⟨this,by unfold splitL;rw [this];rfl⟩
theorem zoV (s:ByteArray) (w:Int) (h : ¬ (w<1∨8<w)) (h2:s.size % (5*w.toNat)=0):splitE s w=0∧splitL s w=rowsTo s.data.toList w.toNat (s.size / (5*w.toNat)):=by
 have:splitE s w=0:=by unfold splitE;rw [if_neg h,if_neg (by omega)]
 exact ⟨this,by unfold splitL;rw [this,if_pos rfl,rowsOf,zaT]⟩
def rowZ (l:List UInt8) (w p j:Nat):List Value:=(nrow l j p).map (fun n:Nat=>Value.int .u64 (n:Int)) ++ List.replicate (w-j) (.int .u64 0)
theorem zcF (l:List UInt8) (w p:Nat):(nrow l w p).length=w:=by simp [nrow]
theorem zmq (l:List UInt8) (w p:Nat):nrow l (w+1) p=nrow l w p ++ [ofB ((l.drop (p+5*w)).take 5)]:=by simp [nrow,List.range_succ]
theorem ziJ (l:List UInt8) (w p j:Nat) (h:j≤w):(rowZ l w p j).length=w:=by simp [rowZ,zcF];omega
theorem zoW (l:List UInt8) (w p j:Nat) (h:j<w):(rowZ l w p j).set j (.int .u64 (ofB ((l.drop (p+5*j)).take 5):Nat))=rowZ l w p (j+1):=by
 unfold rowZ
 obtain ⟨m,hm⟩ : ∃ m,w-j=m+1:=⟨w-j-1,by omega⟩
 rw [hm,List.set_append_right _ _ (by simp [zcF]),List.replicate_succ]
 simp only [List.length_map,zcF,Nat.sub_self,List.set_cons_zero,zmq,List.map_append,List.append_assoc,show w-(j+1)=m from by omega]
 rfl
theorem zmr (l:List UInt8) (w p:Nat):rowZ l w p w=(nrow l w p).map (fun n:Nat=>Value.int .u64 (n:Int)):=by simp [rowZ]
theorem zms (l:List UInt8) (w p:Nat):rowZ l w p 0=List.replicate w (.int .u64 0):=by simp [rowZ,nrow]
theorem zfU (l:List UInt8) (j:Nat):(bs l).extract j (bs l).size=bs (l.drop j):=by rw [zrd,bs_data]
set_option maxHeartbeats 4000000 in
theorem zkD (s:ByteArray) (w:Int) (S:Mem) (hs:s.size≤16777216) :
  ACall Tryz.prog 23 #[.string s,.int .i64 w] S (SplitR s w S):=by
 have hsz:=zcW s
 by_cases c1:w<1
 ·obtain ⟨q1,q2⟩:=zjz s w (.inl c1)
  refine k_E2 (rs:=[.tmp 4,.tmp 5]) 50 Tryz.func23 rfl rfl rfl ?_
  refine r19_ ?_
  refine cT_ ?_
  refine r9_ ?_
  refine ⟨_,S,⟨_,_,rfl,⟨_,_,rfl,rfl,rfl⟩,rfl⟩,zad,?_⟩
  exact ⟨_,by rw [q1];rfl,Mem.Less.refl _,by rw [q2];exact SlOf.nil _ _⟩
 by_cases c2:8<w
 ·obtain ⟨q1,q2⟩:=zjz s w (.inr c2)
  refine k_E2 (rs:=[.tmp 4,.tmp 5]) 50 Tryz.func23 rfl rfl rfl ?_
  refine r19_ ?_
  refine cT_ ?_
  refine r9_ ?_
  refine ⟨_,S,⟨_,_,rfl,⟨_,_,rfl,rfl,rfl⟩,rfl⟩,zad,?_⟩
  exact ⟨_,by rw [q1];rfl,Mem.Less.refl _,by rw [q2];exact SlOf.nil _ _⟩
 obtain ⟨W,rfl⟩ : ∃ W:Nat,w=W:=⟨w.toNat,by omega⟩
 by_cases c3:s.size % (5*W)=0
 ·obtain ⟨q1,q2⟩:=zoV s W (by omega) c3
  rw [Int.toNat_natCast] at q2
  obtain ⟨B,hB⟩ : ∃ B,B=5*W:=⟨_,rfl⟩
  rw [← hB] at c3 q2
  obtain ⟨Q,hQ⟩ : ∃ Q,Q=s.size / B:=⟨_,rfl⟩
  have hQB:s.size=Q*B:=by rw [hQ,Nat.mul_comm];have:=Nat.div_add_mod s.size B;omega
  rw [← hQ] at q2
  have hc3:((s.size:Int) % (5*(W:Int)))=0:=by rw [show (5*(W:Int))=((B:Nat):Int) from by omega,← Int.natCast_emod,c3];rfl
  refine k_E2 (rs:=[.tmp 4,.tmp 5]) 50 Tryz.func23 rfl rfl rfl ?_
  refine r19_ ?_
  refine cF_ ?_
  refine r7_ ?_
  refine rC (Calm.bin rfl rfl (zag (zeS _ _) (zaK hc3))) ?_
  refine r3_ ?_
  refine cF_ ?_
  refine r10_ ?_
  refine AWP.loop (X:=Nat × Mem × Option (Nat × Nat) × List Value) (fun x=>[(0,.string (bs (s.data.toList.drop (x.1*B)))),(1,.int .i64 W),(6,outV x.2.2.1 x.2.2.2.length)]) (fun x=>outM x.2.1 x.2.2.1 22 x.2.2.2) (fun x=>x.1≤Q∧x.2.2.2.length=x.1∧GrowI RowR S x.2.1 x.2.2.1 x.2.2.2 (rowsTo s.data.toList W x.1)) (fun x=>Q-x.1) ((0,S,none,[])) ⟨by rw [Nat.zero_mul,List.drop_zero,bs_of];rfl,rfl,rfl,trivial⟩ (Mem.Less.refl _) (⟨Nat.zero_le _,rfl,GrowI.nil _ _⟩) ?_
  rintro ⟨k,M,o,hs⟩ ⟨hk,hkl,hI⟩
  (try dsimp only at *)
  have hkQ:k*B≤Q*B:=Nat.mul_le_mul_right _ hk
  have hk5:k*5≤k*B:=Nat.mul_le_mul_left _ (by omega)
  have hlen:(s.data.toList.drop (k*B)).length=s.size-k*B:=by rw [List.length_drop];omega
  obtain ⟨R,hR⟩ : ∃ R,R=s.data.toList.drop (k*B):=⟨_,rfl⟩
  rw [← hR] at hlen ⊢
  have hRs:=bs_size R
  by_cases hl:k<Q
  ·have hkB:(k+1)*B≤Q*B:=Nat.mul_le_mul_right _ hl
   rw [Nat.succ_mul] at hkB
   refine r4_ ?_
   refine rC (Calm.bin rfl rfl (zag (zaF _ _) (zbh (fun e=>by have h0:R.length=0:=(by rw [← bs_size R,e];rfl);omega)))) ?_
   refine r2_ ?_
   refine k_v4 0 1 6 24 ?_
   refine cT_ ?_
   refine r7_ ?_
   refine ARun.makeSlice (zab rfl) zcw rfl rfl (by omega) (by omega) (by omega) (by omega) ?_
   intro b30 f30
   have g30:=f30
   repeat ((with_reducible replace g30:=zaa g30);obtain ⟨g30,_⟩:=g30)
   refine r3_ ?_
   simp only [Nat.mul_one,za8,Int.toNat_natCast]
   obtain ⟨hfM,hnq⟩:=zcg f30
   refine r9_ ?_
   refine AWP.loop (X:=Nat) (fun x=>[(0,.string (bs R)),(1,.int .i64 W),(6,outV o hs.length),(7,.slice (some ⟨b30,0,none⟩) W W),(32,.int .i64 W),(33,.int .i64 x)]) (fun x=>(outM M o 22 hs).set b30 ⟨24,rowZ s.data.toList W (k*B) x,W⟩) (fun x=>x≤W) (fun x=>W-x) (0) ⟨rfl,rfl,rfl,rfl,rfl,rfl,trivial⟩ (by simp only [zms];exact Mem.Less.refl _) (Nat.zero_le _) ?_
   rintro j hj
   (try dsimp only at *)
   refine r6_ ?_
   refine AWP.condB rfl (fun hjl=>?_) (fun hjl=>?_)
   ·have hjl:j<W:=by have:=of_decide_eq_true hjl;omega
    have hzl:=ziJ s.data.toList W (k*B) j hj
    have he:(bs R).extract (5*(j:Int)).toNat (bs R).size=bs (s.data.toList.drop (k*B+5*j)):=by rw [show (5*(j:Int)).toNat=5*j from by omega,zfU,hR,List.drop_drop]
    have hel:=bs_size (s.data.toList.drop (k*B+5*j))
    rw [List.length_drop] at hel
    refine r16_ ?_
    refine rC (Calm.as (congrArg Value.string he) (Calm.sliceStr (zau zaA) rfl (za4 _ _) (zcr _ _ rfl (by omega) (by omega)))) ?_
    refine ca_ rfl (zmg (bs (s.data.toList.drop (k*B+5*j))) _ (by omega) (by omega)) ?_
    rintro _ S1 ⟨rfl,h1⟩
    rw [h1,bs_data];clear h1 S1
    refine r5_ ?_
    simp only [Nat.zero_add,Nat.mul_one,Int.toNat_natCast,zoW _ _ _ _ hjl]
    refine r5_ ?_
    refine ⟨j+1,?_,?_,?_,?_⟩
    all_goals (try dsimp only)
    ·exact ⟨rfl,rfl,rfl,rfl,rfl,rfl,trivial⟩
    ·exact Mem.Less.refl _
    ·exact hjl
    ·omega
   ·have hjl:j=W:=by have:=of_decide_eq_false hjl;omega
    subst hjl
    rw [zmr]
    have hnr:=zcF s.data.toList j (k*B)
    rw [zjd _ _ _ _ _ _ hnq]
    have ho1:=hI.ok.set (r:=⟨24,(nrow s.data.toList j (k*B)).map (fun n:Nat=>Value.int .u64 (n:Int)),j⟩) hnq
    have hr:=zs7 (S:=M.set b30 ⟨24,(nrow s.data.toList j (k*B)).map (fun n:Nat=>Value.int .u64 (n:Int)),j⟩) (cap:=j) (Mem.own_set_same _ _ _) hnr (Nat.le_refl _) (by omega)
    have hlm:=Mem.less_set M b30 ⟨24,(nrow s.data.toList j (k*B)).map (fun n:Nat=>Value.int .u64 (n:Int)),j⟩ hfM.1
    obtain ⟨M1,hM1⟩ : ∃ M1,M1=M.set b30 ⟨24,(nrow s.data.toList j (k*B)).map (fun n:Nat=>Value.int .u64 (n:Int)),j⟩:=⟨_,rfl⟩
    rw [← hM1] at ho1 hr hlm ⊢
    refine r8_ ?_
    refine ARun.build1s (zab rfl) zcx rfl rfl ?_
    intro b47 f47
    have g47:=f47
    repeat ((with_reducible replace g47:=zaa g47);obtain ⟨g47,_⟩:=g47)
    refine ARun.appendO (zab rfl) zcx rfl rfl (zd4 ho1 rfl g47) rfl (news:=[_]) rds_ rfl (by omega) (by simp [Value.oneCell']) (by omega) (by omega) ?_
    intro b48 c48 ho2
    have hI2:=hI.step zbN hlm hr ho2
    rw [show k*B=k*(5*j) from by rw [hB],← zix] at hI2
    have hst2:(bs R).extract (5*(j:Int)).toNat (bs R).size=bs (s.data.toList.drop ((k+1)*B)):=by rw [show (5*(j:Int)).toNat=B from by omega,zfU,hR,List.drop_drop,Nat.succ_mul]
    refine r4_ ?_
    refine k_v7 0 1 6 7 32 33 34 ?_
    refine r4_ ?_
    refine rC (Calm.as (congrArg Value.string hst2) (Calm.sliceStr (zau zaA) rfl (za4 _ _) (zcr _ _ rfl (by omega) (by omega)))) ?_
    refine r3_ ?_
    refine ⟨(k+1,M1,some (b48,c48),hs ++ [.slice (some ⟨b30,0,none⟩) j j]),?_,?_,?_,?_⟩
    all_goals (try dsimp only)
    ·exact ⟨rfl,rfl,by rw [List.length_append];rfl,trivial⟩
    ·exact Mem.Less.refl _
    ·exact ⟨hl,by rw [List.length_append,hkl];rfl,hI2⟩
    ·omega
  ·have hkQ2:k=Q:=by omega
   subst hkQ2
   have hR0:R = []:=List.eq_nil_of_length_eq_zero (by omega)
   refine r4_ ?_
   refine rC (Calm.bin rfl rfl (zag (zaF _ _) (zaK (by rw [hR0];rfl)))) ?_
   refine r2_ ?_
   refine cF_ ?_
   refine r13_ ?_
   refine ⟨_,_,⟨_,_,rfl,⟨_,_,rfl,rfl,rfl⟩,rfl⟩,zad,?_⟩
   exact ⟨_,by rw [q1];rfl,hI.less.trans (zbu hI.ok),by rw [q2];exact hI.slOf zbN (by omega)⟩
 ·obtain ⟨q1,q2⟩:=zoU s W (by omega) (by rw [Int.toNat_natCast];exact c3)
  have hc3 : ¬ ((s.size:Int) % (5*(W:Int)))=0:=by rw [show (5*(W:Int))=((5*W:Nat):Int) from by omega,← Int.natCast_emod];omega
  refine k_E2 (rs:=[.tmp 4,.tmp 5]) 50 Tryz.func23 rfl rfl rfl ?_
  refine r19_ ?_
  refine cF_ ?_
  refine r7_ ?_
  refine rC (Calm.bin rfl rfl (zag (zeS _ _) (zbh hc3))) ?_
  refine r3_ ?_
  refine cT_ ?_
  refine r9_ ?_
  refine ⟨_,S,⟨_,_,rfl,⟨_,_,rfl,rfl,rfl⟩,rfl⟩,zad,?_⟩
  exact ⟨_,by rw [q1];rfl,Mem.Less.refl _,by rw [q2];exact SlOf.nil _ _⟩
end
section
open Go.RowKit
open Mv Disk Num
set_option maxRecDepth 4000
namespace Rec
theorem zmt {s:ByteArray} (h:s.size=64):(formP s).1≤255∧(formP s).2.1<18446744073709551616∧((formP s).2.2=0→(formP s).1≤8):=by
 unfold formP
 by_cases q1:s.data.toList.take 2 ≠ [87,82]∨8<(s.data.toList.getD 2 0).toNat∨zeroL (s.data.toList.drop 12)=false
 ·rw [if_pos q1];exact ⟨by decide,by decide,fun h=>by simp at h⟩
 rw [if_neg q1]
 by_cases q2:(openS (s.extract 0 12)).2≠0
 ·rw [if_pos q2];exact ⟨Nat.zero_le _,Nat.lt_of_lt_of_le (Nat.zero_lt_succ 0) (by show 1≤18446744073709551616;decide),fun h=>absurd h q2⟩
 rw [if_neg q2]
 have h8:(s.data.toList.getD 2 0).toNat≤8:=by
  rcases Nat.lt_or_ge 8 (s.data.toList.getD 2 0).toNat with h | h
  ·exact absurd (.inr (.inl h)) q1
  ·exact h
 refine ⟨by show (s.data.toList.getD 2 0).toNat≤255;omega,?_,fun _=>h8⟩
 show ofB ((s.data.toList.drop 3).take 5)<_
 have:=zqj ((s.data.toList.drop 3).take 5)
 have hl:((s.data.toList.drop 3).take 5).length=5:=by rw [List.length_take,List.length_drop,St.zbe,h];rfl
 rw [hl] at this
 omega
theorem zeK {w c:Nat} (hw:w≤8):((needP (w:Int) c).2≠0 ↔ 65536<c)∧(c≤65536→needP (w:Int) c=(((needN w c:Nat):Int),0)):=by
 unfold needP
 by_cases h:65536<c
 ·rw [if_pos (by omega)];exact ⟨⟨fun _=>h,fun _=>by decide⟩,fun h'=>by omega⟩
 ·rw [if_neg (by omega),Int.toNat_natCast];exact ⟨⟨fun h'=>absurd rfl h',fun h'=>absurd h' h⟩,fun _=>rfl⟩
set_option maxHeartbeats 2000000 in
theorem zfV (p:Nat) (d:D) (s:ByteArray) (M:Mem) (h:RdV M p d) (hR:Right d) :
  ACall Tryz.prog 60 #[.pointer (some ⟨p,0,none⟩),.string s] M fun r S'=>r=formV (headD d s)∧S'=M:=by
 have hread:=fun M h=>zgs p d s 0 M h hR
 unfold headD
 by_cases q1:(readD d s 0).2=0
 ·rw [if_neg (by omega)]
  obtain ⟨hpl,h64⟩:=zee hR q1
  obtain ⟨hhas,_,_⟩:=zdN hpl
  obtain ⟨hx,hxs⟩:=zbk hR.ex.asc hhas
  have hsec:=(zcQ (hR.ex.ok _ hx)).2
  have hform:=fun M=>zoS (readD d s 0).1 M h64
  obtain ⟨f1,f2,f3⟩:=zmt h64
  rw [show readD d s 0=((readD d s 0).1,0) from Prod.ext rfl q1] at hread
  generalize (readD d s 0).1=y at *
  rcases hf:formP y with ⟨w,c,e⟩
  rw [hf] at hform f1 f2 f3
  simp only [formV] at hform f1 f2 f3 ⊢
  by_cases q2:e=0
  ·subst q2
   rw [if_neg (by simp)]
   have f3:=f3 rfl
   have hneed:=fun M=>zeJ (w:Int) c M
   obtain ⟨n1,n2⟩:=zeK (c:=c) f3
   by_cases q3:65536<c
   ·have n1:=n1.2 q3
    rw [if_pos (.inl n1)]
    unfold needV at hneed
    generalize needP (w:Int) c=nn at *
    obtain ⟨qe,de,qw,dw,hp,hE,hW⟩:=id h
    have hidx:=fun M' kb hl hk=>zhs (.slice qe d.ext.length de) d.ext s kb M' hl hk _ hx hxs hR.ex.asc
    refine k_E2 (rs:=[.tmp 4,.tmp 5,.tmp 6]) 63 Tryz.func60 rfl rfl rfl ?_
    refine r2_ ?_
    refine ARun.box1 (zab rfl) rfl rfl ?_
    intro b3 f3
    have g3:=f3
    repeat ((with_reducible replace g3:=zaa g3);obtain ⟨g3,_⟩:=g3)
    have:=g3.ne hp;have:=g3.ne' hp
    refine nl_ ?_
    refine r9_ ?_
    refine ca_ rfl (hread _ (h.less zad)) ?_
    rintro _ S1 ⟨rfl,h1⟩
    rw [h1];clear h1 S1
    refine r14_ ?_
    refine cF_ ?_
    refine r5_ ?_
    refine ca_ rfl (hform _) ?_
    rintro _ S1 ⟨rfl,h1⟩
    rw [h1];clear h1 S1
    refine r16_ ?_
    refine cF_ ?_
    refine r6_ ?_
    refine ca_ rfl (hneed _) ?_
    rintro _ S1 ⟨rfl,h1⟩
    rw [h1];clear h1 S1
    refine r7_ ?_
    refine zgg 0 1 3 4 5 6 7 8 20 9 10 29 11 ?_
    refine r8_ ?_
    refine ca_ rfl (hidx _ b3 (hE.less zad) (Mem.rds.knows rds_)) ?_
    rintro _ S1 ⟨⟨j,hj,rfl,hjx⟩,h1⟩
    rw [h1];clear h1 S1
    refine r25_ ?_
    refine cT_ ?_
    refine r9_ ?_
    refine ⟨_,M,⟨_,_,rfl,⟨_,_,rfl,⟨_,_,rfl,rfl,rfl⟩,rfl⟩,rfl⟩,zad,?_⟩
    exact ⟨rfl,rfl⟩
   ·have n2:=n2 (by omega)
    rw [n2] at hneed ⊢
    unfold needV at hneed
    have hnl:=zgz f3 (by omega:c≤65536)
    generalize needN w c=n at *
    obtain ⟨qe,de,qw,dw,hp,hE,hW⟩:=id h
    have hidx:=fun M' kb hl hk=>zhs (.slice qe d.ext.length de) d.ext s kb M' hl hk _ hx hxs hR.ex.asc
    have hlim:=(zaV hR).1
    have hus:=Nat.le_trans (zjg hx) (zaV hR).2
    obtain ⟨ea,ec,heq,g1,g2,g3⟩:=id hE
    cases heq
    have hkE:=g3.resolve_left (fun e=>by rw [e] at hx;cases hx)
    obtain ⟨eb,eo,rfl,hkE⟩:=hkE
    generalize exOf d.ext s=x at *
    by_cases q4:sec x=n
    ·rw [if_neg (by omega)]
     refine k_E2 (rs:=[.tmp 4,.tmp 5,.tmp 6]) 63 Tryz.func60 rfl rfl rfl ?_
     refine r2_ ?_
     refine ARun.box1 (zab rfl) rfl rfl ?_
     intro b3 f3
     have g3:=f3
     repeat ((with_reducible replace g3:=zaa g3);obtain ⟨g3,_⟩:=g3)
     have:=g3.ne hp;have:=g3.ne' hp
     refine nl_ ?_
     refine r9_ ?_
     refine ca_ rfl (hread _ (h.less zad)) ?_
     rintro _ S1 ⟨rfl,h1⟩
     rw [h1];clear h1 S1
     refine r14_ ?_
     refine cF_ ?_
     refine r5_ ?_
     refine ca_ rfl (hform _) ?_
     rintro _ S1 ⟨rfl,h1⟩
     rw [h1];clear h1 S1
     refine r9_ ?_
     refine zd5 0 1 3 4 5 6 7 8 20 9 10 ?_
     refine r7_ ?_
     refine cF_ ?_
     refine r6_ ?_
     refine ca_ rfl (hneed _) ?_
     rintro _ S1 ⟨rfl,h1⟩
     rw [h1];clear h1 S1
     refine r15_ ?_
     refine ca_ rfl (hidx _ b3 (hE.less zad) (Mem.rds.knows rds_)) ?_
     rintro _ S1 ⟨⟨j,hj,rfl,hjx⟩,h1⟩
     rw [h1];clear h1 S1
     have hkj:=zhr (hkE j hj)
     rw [hjx] at hkj
     rw [show eo+j*2+1=eo+(j:Int).toNat*2+1 from by rw [Int.toNat_natCast]] at hkj
     refine r25_ ?_
     refine cF_ ?_
     refine r11_ ?_
     refine zgh 0 1 3 4 5 6 7 8 20 9 10 29 11 12 60 ?_
     refine s1_ ?_
     refine ⟨_,M,⟨_,_,rfl,⟨_,_,rfl,⟨_,_,rfl,rfl,rfl⟩,rfl⟩,rfl⟩,zad,?_⟩
     exact ⟨rfl,rfl⟩
    ·rw [if_pos (by right;show ((sec x:Nat):Int)≠_;omega)]
     refine k_E2 (rs:=[.tmp 4,.tmp 5,.tmp 6]) 63 Tryz.func60 rfl rfl rfl ?_
     refine r2_ ?_
     refine ARun.box1 (zab rfl) rfl rfl ?_
     intro b3 f3
     have g3:=f3
     repeat ((with_reducible replace g3:=zaa g3);obtain ⟨g3,_⟩:=g3)
     have:=g3.ne hp;have:=g3.ne' hp
     refine nl_ ?_
     refine r9_ ?_
     refine ca_ rfl (hread _ (h.less zad)) ?_
     rintro _ S1 ⟨rfl,h1⟩
     rw [h1];clear h1 S1
     refine r14_ ?_
     refine cF_ ?_
     refine r5_ ?_
     refine ca_ rfl (hform _) ?_
     rintro _ S1 ⟨rfl,h1⟩
     rw [h1];clear h1 S1
     refine r16_ ?_
     refine cF_ ?_
     refine r6_ ?_
     refine ca_ rfl (hneed _) ?_
     rintro _ S1 ⟨rfl,h1⟩
     rw [h1];clear h1 S1
     refine r7_ ?_
     refine zgg 0 1 3 4 5 6 7 8 20 9 10 29 11 ?_
     refine r8_ ?_
     refine ca_ rfl (hidx _ b3 (hE.less zad) (Mem.rds.knows rds_)) ?_
     rintro _ S1 ⟨⟨j,hj,rfl,hjx⟩,h1⟩
     rw [h1];clear h1 S1
     have hkj:=zhr (hkE j hj)
     rw [hjx] at hkj
     rw [show eo+j*2+1=eo+(j:Int).toNat*2+1 from by rw [Int.toNat_natCast]] at hkj
     refine r25_ ?_
     refine cT_ ?_
     refine r9_ ?_
     refine ⟨_,M,⟨_,_,rfl,⟨_,_,rfl,⟨_,_,rfl,rfl,rfl⟩,rfl⟩,rfl⟩,zad,?_⟩
     exact ⟨rfl,rfl⟩
  ·rw [if_pos q2]
   obtain ⟨qe,de,qw,dw,hp,hE,hW⟩:=id h
   refine k_E2 (rs:=[.tmp 4,.tmp 5,.tmp 6]) 63 Tryz.func60 rfl rfl rfl ?_
   refine r2_ ?_
   refine ARun.box1 (zab rfl) rfl rfl ?_
   intro b3 f3
   have g3:=f3
   repeat ((with_reducible replace g3:=zaa g3);obtain ⟨g3,_⟩:=g3)
   have:=g3.ne hp;have:=g3.ne' hp
   refine nl_ ?_
   refine r9_ ?_
   refine ca_ rfl (hread _ (h.less zad)) ?_
   rintro _ S1 ⟨rfl,h1⟩
   rw [h1];clear h1 S1
   refine r14_ ?_
   refine cF_ ?_
   refine r5_ ?_
   refine ca_ rfl (hform _) ?_
   rintro _ S1 ⟨rfl,h1⟩
   rw [h1];clear h1 S1
   refine r9_ ?_
   refine zd5 0 1 3 4 5 6 7 8 20 9 10 ?_
   refine r7_ ?_
   refine cT_ ?_
   refine r10_ ?_
   refine ⟨_,M,⟨_,_,rfl,⟨_,_,rfl,⟨_,_,rfl,rfl,rfl⟩,rfl⟩,rfl⟩,zad,?_⟩
   exact ⟨rfl,rfl⟩
 ·rw [if_pos q1]
  obtain ⟨qe,de,qw,dw,hp,hE,hW⟩:=id h
  refine k_E2 (rs:=[.tmp 4,.tmp 5,.tmp 6]) 63 Tryz.func60 rfl rfl rfl ?_
  refine r2_ ?_
  refine ARun.box1 (zab rfl) rfl rfl ?_
  intro b3 f3
  have g3:=f3
  repeat ((with_reducible replace g3:=zaa g3);obtain ⟨g3,_⟩:=g3)
  have:=g3.ne hp;have:=g3.ne' hp
  refine nl_ ?_
  refine r9_ ?_
  refine ca_ rfl (hread _ (h.less zad)) ?_
  rintro _ S1 ⟨rfl,h1⟩
  rw [h1];clear h1 S1
  refine r14_ ?_
  refine cT_ ?_
  refine r8_ ?_
  refine k_v9 0 1 3 4 5 6 7 8 20 ?_
  refine r2_ ?_
  refine ⟨_,M,⟨_,_,rfl,⟨_,_,rfl,⟨_,_,rfl,rfl,rfl⟩,rfl⟩,rfl⟩,zad,?_⟩
  exact ⟨rfl,rfl⟩
end Rec
end
section
open Go.RowKit
open Mv Disk Num
set_option maxRecDepth 4000
namespace Rec
theorem zmu {d:D} {s:ByteArray} (hR:Right d) {w c:Nat} (h:headD d s=(w,c,0)) :
  has d.ext s=true∧w≤8∧c≤65536∧sec (exOf d.ext s)=needN w c:=by
 unfold headD at h
 by_cases q1:(readD d s 0).2=0
 ·rw [if_neg (by omega)] at h
  obtain ⟨hpl,h64⟩:=zee hR q1
  by_cases q2:(formP (readD d s 0).1).2.2=0
  ·rw [if_neg (by omega)] at h
   obtain ⟨f1,f2,f3⟩:=zmt h64
   split at h
   ·cases h
   ·rename_i q3
    rw [h] at q3 f3
    obtain ⟨n1,n2⟩:=zeK (c:=c) (f3 rfl)
    refine ⟨(zdN hpl).1,f3 rfl,?_,?_⟩
    ·rcases Nat.lt_or_ge 65536 c with hc | hc
     ·exact absurd (.inl (n1.2 hc)) q3
     ·exact hc
    ·have q3:=not_or.1 q3
     have q4:((sec (exOf d.ext s):Nat):Int)=((needN w c:Nat):Int):=by
      by_cases q:((sec (exOf d.ext s):Nat):Int)=((needN w c:Nat):Int)
      ·exact q
      ·exact absurd q q3.2
     omega
  ·rw [if_pos q2] at h
   have:=congrArg (fun p=>p.2.2) h
   exact absurd this q2
 ·rw [if_pos q1] at h
  have:=congrArg (fun p=>p.2.2) h
  exact absurd this q1
theorem zjA {d:D} {s:ByteArray} (hR:Right d) {n:Nat} (h1:has d.ext s=true) (h2:sec (exOf d.ext s)=n) {i:Nat} (hi:i<n):(readD d s (i:Int)).2=0∧(readD d s (i:Int)).1.size=64:=by
 have hp:(placeD d s (i:Int)).2=0:=by unfold placeD;rw [if_pos h1,if_neg (by rw [h2];omega)]
 have h0:(readD d s (i:Int)).2=0:=by rw [zcj,if_neg (by simpa using hp)]
 exact ⟨h0,(zee hR h0).2⟩
theorem zhv {d:D} {s:ByteArray} (hR:Right d) (ho:(openD d).2=0) {n:Nat} (h1:has d.ext s=true) (h2:sec (exOf d.ext s)=n):∀ k,k+1≤n→(bodyL d s k).length=64*k
 | 0,_=>rfl
 | k+1,h=>by
  unfold bodyL
  rw [List.length_append,zhv hR ho h1 h2 k (by omega),zef ho,St.zbe,(zjA hR h1 h2 (i:=k+1) (by omega)).2];omega
def bodyV (p:Nat × ByteArray × Int):Value:=.tuple #[.int .i64 (p.1:Nat),.string p.2.1,.int .i64 p.2.2]
set_option maxHeartbeats 4000000 in
theorem zoX (v:Value) (d:D) (s:ByteArray) (text:Bool) (S:Mem) (hd:DkR S v d) (hz:Dz d) :
  ACall Tryz.prog 22 #[v,.string s,.bool text] S fun r S'=>r=bodyV (bodyP d s text)∧S'=S:=by
 have hopen:=zdI v d S hd hz
 obtain ⟨pe,ce,pw,cw,rfl,hE,hW⟩:=id hd
 unfold bodyP
 have hsh:=zfT (d:=d) (s:=s)
 have hop:=zc_ (d:=d) (s:=s)
 have ho2:=fun h=>@zhv d s h
 have hro:=@zef d
 rcases zcz d with ⟨ho,hR⟩ | ⟨ho,hR,hdn⟩ | ⟨ho,hR,hdn⟩ <;> rw [ho] at hopen hsh hop ho2 hro
 ·rw [hsh (by simp),if_pos (by simp)]
  refine k_E3 (rs:=[.tmp 6,.tmp 7,.tmp 8]) 78 Tryz.func22 rfl rfl rfl ?_
  refine r2_ ?_
  refine k_b5 rfl ?_
  intro b3 f3
  have g3:=f3
  repeat ((with_reducible replace g3:=zaa g3);obtain ⟨g3,_⟩:=g3)
  refine nl_ ?_
  refine r8_ ?_
  refine ca_ rfl (hopen.frame f3) ?_
  rintro _ S1 ⟨M,⟨p,oE,oW,hok,rfl,hM⟩,f1',h1⟩
  rw [h1];clear h1 S1
  have hSM:S.Less M:=by rw [hM];exact hok.less
  refine r14_ ?_
  refine cT_ ?_
  refine r10_ ?_
  refine ⟨_,S,⟨_,_,rfl,⟨_,_,rfl,⟨_,_,rfl,rfl,rfl⟩,rfl⟩,rfl⟩,zad,?_⟩
  exact ⟨rfl,rfl⟩
 ·rw [hsh (by simp),if_pos (by simp)]
  refine k_E3 (rs:=[.tmp 6,.tmp 7,.tmp 8]) 78 Tryz.func22 rfl rfl rfl ?_
  refine r2_ ?_
  refine k_b5 rfl ?_
  intro b3 f3
  have g3:=f3
  repeat ((with_reducible replace g3:=zaa g3);obtain ⟨g3,_⟩:=g3)
  refine nl_ ?_
  refine r8_ ?_
  refine ca_ rfl (hopen.frame f3) ?_
  rintro _ S1 ⟨M,⟨p,oE,oW,hok,rfl,hM⟩,f1',h1⟩
  rw [h1];clear h1 S1
  have hSM:S.Less M:=by rw [hM];exact hok.less
  refine r14_ ?_
  refine zdG 0 1 2 3 6 7 8 9 10 26 ?_
  refine cT_ ?_
  refine r10_ ?_
  refine ⟨_,S,⟨_,_,rfl,⟨_,_,rfl,⟨_,_,rfl,rfl,rfl⟩,rfl⟩,rfl⟩,zad,?_⟩
  exact ⟨rfl,rfl⟩
 rw [hop rfl]
 have hhead:=fun p M h=>zfV p d s M h hR
 have hhk:=@zmu d s hR
 rcases hw:headD d s with ⟨w,c,e⟩
 rw [hw] at hhead
 simp only [formV] at hhead
 by_cases he:e=0
 ·subst he
  rw [if_neg (by simp)]
  obtain ⟨k1,k2,k3,k4⟩:=hhk hw
  have hrin:=fun i=>@zjA d s hR (needN w c) k1 k4 i
  have hbl:=ho2 hR rfl k1 k4
  have hneed:=fun M=>zeJ (w:Int) c M
  rw [(zeK k2).2 k3] at hneed
  simp only [needV] at hneed
  have heach:=fun M=>zeI w M k2
  obtain ⟨m1,m2,m3⟩:=zcE k2 k3
  have hn1:=zbl w c
  have hn2:=zgz k2 k3
  have hnn:eachN w*c≤64*(needN w c-1):=by unfold needN;omega
  have hbs:∀ k,bodyL d s (k+1)=bodyL d s k ++ (readD d s ((k+1:Nat):Int)).1.data.toList:=fun k=>by rw [bodyL,hro rfl]
  have hb0:bodyL d s 0 = []:=rfl
  generalize needN w c=n at *
  generalize bodyL d s=bL at *
  generalize eachN w=ew at *
  have heq:(decide (w=0))=true ↔ w=0:=by simp
  by_cases ht:text≠decide (w=0)
  ·rw [if_pos ht]
   have hb:(!(text == decide (w=0)))=true:=(by decide:∀ a b:Bool,a≠b→(!(a == b))=true) _ _ ht
   refine k_E3 (rs:=[.tmp 6,.tmp 7,.tmp 8]) 78 Tryz.func22 rfl rfl rfl ?_
   refine r2_ ?_
   refine k_b5 rfl ?_
   intro b3 f3
   have g3:=f3
   repeat ((with_reducible replace g3:=zaa g3);obtain ⟨g3,_⟩:=g3)
   refine nl_ ?_
   refine r8_ ?_
   refine ca_ rfl (hopen.frame f3) ?_
   rintro _ S1 ⟨M,⟨p,oE,oW,hok,rfl,hM⟩,f1',h1⟩
   rw [h1];clear h1 S1
   have hSM:S.Less M:=by rw [hM];exact hok.less
   have hrd:RdV M p d:=by rw [hM];exact hok.rd (zaC hR).1 (zaC hR).2
   refine r14_ ?_
   refine cF_ ?_
   refine r6_ ?_
   refine ca_ rfl (hhead p _ (hrd.less zad)) ?_
   rintro _ S1 ⟨rfl,h1⟩
   rw [h1];clear h1 S1
   refine r18_ ?_
   refine zgg 0 1 2 3 6 7 8 9 10 26 11 12 35 ?_
   refine cF_ ?_
   refine r4_ ?_
   refine rC (Calm.bin rfl rfl (zag (zaY _ _) (show decide ((w:Int)=0)=decide (w=0) from by rw [decide_eq_decide];omega))) ?_
   refine rC (Calm.bin rfl rfl (zag (zcO _ _ Tryz.underlying4) hb)) ?_
   refine r3_ ?_
   refine cT_ ?_
   refine r10_ ?_
   refine ⟨_,S,⟨_,_,rfl,⟨_,_,rfl,⟨_,_,rfl,rfl,rfl⟩,rfl⟩,rfl⟩,zad,?_⟩
   exact ⟨rfl,rfl⟩
  ·rw [if_neg ht]
   have hb:(!(text == decide (w=0)))=false:=(by decide:∀ a b:Bool,¬ a≠b→(!(a == b))=false) _ _ ht
   have hex1:∀ l:List UInt8,l.length=64*(n-1)→((bs l).extract (((ew*c:Nat):Int)).toNat (bs l).size).data.toList=l.drop (ew*c):=fun l hl=>by
    rw [Lib.extract_data,bs_data,zaD,Int.toNat_natCast,List.take_of_length_le (by rw [List.length_drop];omega)]
   have hex2:∀ l:List UInt8,(bs l).extract 0 (((ew*c:Nat):Int)).toNat=bs (l.take (ew*c)):=fun l=>by
    apply zbv
    rw [Lib.extract_data,bs_data,bs_data,Int.toNat_natCast];simp
   refine k_E3 (rs:=[.tmp 6,.tmp 7,.tmp 8]) 78 Tryz.func22 rfl rfl rfl ?_
   refine r2_ ?_
   refine k_b5 rfl ?_
   intro b3 f3
   have g3:=f3
   repeat ((with_reducible replace g3:=zaa g3);obtain ⟨g3,_⟩:=g3)
   refine nl_ ?_
   refine r8_ ?_
   refine ca_ rfl (hopen.frame f3) ?_
   rintro _ S1 ⟨M,⟨p,oE,oW,hok,rfl,hM⟩,f1',h1⟩
   rw [h1];clear h1 S1
   have hSM:S.Less M:=by rw [hM];exact hok.less
   have hrd:RdV M p d:=by rw [hM];exact hok.rd (zaC hR).1 (zaC hR).2
   refine r14_ ?_
   refine cF_ ?_
   refine r6_ ?_
   refine ca_ rfl (hhead p _ (hrd.less zad)) ?_
   rintro _ S1 ⟨rfl,h1⟩
   rw [h1];clear h1 S1
   refine r18_ ?_
   refine zgg 0 1 2 3 6 7 8 9 10 26 11 12 35 ?_
   refine cF_ ?_
   refine r4_ ?_
   refine rC (Calm.bin rfl rfl (zag (zaY _ _) (show decide ((w:Int)=0)=decide (w=0) from by rw [decide_eq_decide];omega))) ?_
   refine rC (Calm.bin rfl rfl (zag (zcO _ _ Tryz.underlying4) hb)) ?_
   refine r3_ ?_
   refine cF_ ?_
   refine r7_ ?_
   refine ca_ rfl (hneed _) ?_
   rintro _ S1 ⟨rfl,h1⟩
   rw [h1];clear h1 S1
   refine r9_ ?_
   refine ARun.alloc (zab rfl) zfB ?_
   intro b15 f15
   have g15:=f15
   repeat ((with_reducible replace g15:=zaa g15);obtain ⟨g15,_⟩:=g15)
   refine nl_ ?_
   refine r2_ ?_
   have hMB:M.Less (M.set b3 (bx d pe ce pw cw)):=Mem.less_set _ _ _ f1'.1
   have hnew:=Bl.R.new (M.set b3 (bx d pe ce pw cw)) b15
   refine r6_ ?_
   generalize hB:(M.set b3 (bx d pe ce pw cw))=B at *
   refine s1_ ?_
   refine AWP.loop (X:=Nat × Mem) (fun x=>[(1,.string s),(9,.pointer (some ⟨p,0,none⟩)),(11,.int .i64 (w:Int)),(12,.int .u64 (c:Int)),(13,.int .i64 (n:Int)),(15,.pointer (some ⟨b15,0,none⟩)),(16,.int .i64 ((x.1+1:Nat):Int))]) (fun x=>x.2) (fun x=>x.1+1≤n∧Bl.R B b15 (bL x.1) x.2) (fun x=>n-x.1) ((0,B.set b15 (Bl.blk (.pointer none) (.slice none 0 0)))) ⟨rfl,rfl,rfl,rfl,rfl,rfl,rfl,trivial⟩ (Mem.Less.refl _) (⟨by show 0+1≤n;omega,by rw [hb0];exact hnew⟩) ?_
   rintro ⟨i,T⟩ ⟨hi,hT⟩
   (try dsimp only at *)
   have hBT:=hT.less f15
   by_cases hin:i+1<n
   ·refine r8_ ?_
    refine cT_ ?_
    obtain ⟨r1,r2⟩:=hrin (i+1) hin
    have hlen:=hbl i (by omega)
    have hrr:=zgs p d s ((i+1:Nat):Int) T (hrd.less (hMB.trans hBT)) hR
    rw [show readD d s ((i+1:Nat):Int)=((readD d s ((i+1:Nat):Int)).1,0) from Prod.ext rfl r1] at hrr
    refine r9_ ?_
    refine ca_ rfl (hrr) ?_
    rintro _ S1 ⟨rfl,h1⟩
    rw [h1];clear h1 S1
    refine r9_ ?_
    refine ca_ rfl (Bl.WriteString _ b15 _ T (readD d s ((i+1:Nat):Int)).1 f15 hT (by omega)) ?_
    rintro _ T2 ⟨rfl,hT2⟩
    rw [← hbs i] at hT2
    refine r3_ ?_
    refine k_v9 1 9 11 12 13 15 16 52 17 ?_
    refine r6_ ?_
    refine ⟨(i+1,T2),?_,?_,?_,?_⟩
    all_goals (try dsimp only)
    ·exact ⟨rfl,rfl,rfl,rfl,rfl,rfl,zai (by omega),trivial⟩
    ·exact Mem.Less.refl _
    ·exact ⟨hin,hT2⟩
    ·omega
   ·refine r8_ ?_
    refine cF_ ?_
    obtain rfl:i=n-1:=by omega
    have hlen:=hbl (n-1) (by omega)
    have hlb:(bs (bL (n-1))).size=64*(n-1):=by rw [zaD,hlen]
    refine r8_ ?_
    refine ca_ rfl (heach _) ?_
    rintro _ S1 ⟨rfl,h1⟩
    rw [h1];clear h1 S1
    refine r6_ ?_
    rw [m3]
    refine r3_ ?_
    refine ca_ rfl (Bl.String _ b15 _ T f15 hT (by omega)) ?_
    rintro _ T2 ⟨rfl,hT2⟩
    have hzr:=zhq ((bs (bL (n-1))).extract (((ew*c:Nat):Int)).toNat (bs (bL (n-1))).size) T2 (by rw [ByteArray.size_extract];omega)
    rw [hex1 _ hlen] at hzr
    have hlo:S.Lo T2:=(hSM.trans hMB).lo.trans (hT2.lo f15)
    refine r2_ ?_
    refine ca_ rfl (hzr) ?_
    rintro _ S1 ⟨rfl,h1⟩
    rw [h1];clear h1 S1
    refine r3_ ?_
    cases hzz:zeroL ((bL (n-1)).drop (ew*c))
    ·rw [if_pos rfl]
     refine cT_ ?_
     refine AWP.lo S hlo ?_
     refine r9_ ?_
     refine ⟨_,S,⟨_,_,rfl,⟨_,_,rfl,⟨_,_,rfl,rfl,rfl⟩,rfl⟩,rfl⟩,(Mem.Less.refl _),?_⟩
     exact ⟨rfl,rfl⟩
    ·rw [if_neg (by simp)]
     refine cF_ ?_
     refine r3_ ?_
     refine AWP.draw [(0,true),(2,true),(1,false),(3,true),(4,true),(5,true),(6,true)] [] mixed (by kernel_rfl) ?_
     refine r2_ ?_
     refine zac rfl ?_
     refine ca_ rfl (Bl.StringF _ b15 _ T2 hT2 (by omega)) ?_
     rintro _ S1 ⟨rfl,h1⟩
     rw [h1];clear h1 S1
     refine zae ⟨fun _=>zad,?_⟩
     refine r6_ ?_
     refine AWP.lo S hlo ?_
     refine s1_ ?_
     refine ⟨_,S,⟨_,_,rfl,⟨_,_,rfl,⟨_,_,rfl,rfl,rfl⟩,rfl⟩,rfl⟩,(Mem.Less.refl _),?_⟩
     exact ⟨by unfold bodyV;rw [← hex2];rfl,rfl⟩
 ·rw [if_pos he]
  refine k_E3 (rs:=[.tmp 6,.tmp 7,.tmp 8]) 78 Tryz.func22 rfl rfl rfl ?_
  refine r2_ ?_
  refine k_b5 rfl ?_
  intro b3 f3
  have g3:=f3
  repeat ((with_reducible replace g3:=zaa g3);obtain ⟨g3,_⟩:=g3)
  refine nl_ ?_
  refine r8_ ?_
  refine ca_ rfl (hopen.frame f3) ?_
  rintro _ S1 ⟨M,⟨p,oE,oW,hok,rfl,hM⟩,f1',h1⟩
  rw [h1];clear h1 S1
  have hSM:S.Less M:=by rw [hM];exact hok.less
  have hrd:RdV M p d:=by rw [hM];exact hok.rd (zaC hR).1 (zaC hR).2
  refine r7_ ?_
  refine k_v9 0 1 2 3 6 7 8 9 10 ?_
  refine r7_ ?_
  refine cF_ ?_
  refine r6_ ?_
  refine ca_ rfl (hhead p _ (hrd.less zad)) ?_
  rintro _ S1 ⟨rfl,h1⟩
  rw [h1];clear h1 S1
  refine r18_ ?_
  refine cT_ ?_
  refine r11_ ?_
  refine ⟨_,S,⟨_,_,rfl,⟨_,_,rfl,⟨_,_,rfl,rfl,rfl⟩,rfl⟩,rfl⟩,zad,?_⟩
  exact ⟨rfl,rfl⟩
end Rec
end
section
open Go.RowKit
open Mv Disk Num
set_option maxRecDepth 4000
namespace Rec
noncomputable def readRP (d:D) (s:ByteArray):Nat × List (List Nat) × Int:=if (bodyP d s false).2.2≠0 then (0,[],(bodyP d s false).2.2) else ((bodyP d s false).1,splitL (bodyP d s false).2.1 ((bodyP d s false).1:Int),splitE (bodyP d s false).2.1 ((bodyP d s false).1:Int))
def ReadR (p:Nat × List (List Nat) × Int) (S:Mem) (r:Value) (S':Mem):Prop:=∃ v,r = .tuple #[.int .i64 (p.1:Nat),v,.int .i64 p.2.2]∧S.Less S'∧SlOf RowR S' v p.2.1
theorem zmv {d:D} {s:ByteArray} (h:(headP d s).2.2=0):openD d=(d,0)∧Right d∧d.down=false∧headP d s=headD d s:=by
 by_cases ho:(openD d).2=0
 ·have e:=zc_ ho s
  rcases zcz d with ⟨h1,hR⟩ | ⟨h1,hR,hdn⟩ | ⟨h1,hR,hdn⟩
  ·rw [h1] at ho;simp at ho
  ·rw [h1] at ho;simp at ho
  ·exact ⟨h1,hR,hdn,e⟩
 ·rw [zfT ho] at h;exact absurd h ho
theorem zoY {d:D} {s:ByteArray} {w c:Nat} (h:headP d s=(w,c,0)):openD d=(d,0)∧Right d∧d.down=false∧has d.ext s=true∧w≤8∧c≤65536∧sec (exOf d.ext s)=needN w c:=by
 obtain ⟨h1,h2,h3,h4⟩:=zmv (d:=d) (s:=s) (by rw [h])
 rw [h4] at h
 exact ⟨h1,h2,h3,zmu h2 h⟩
theorem zmw (d:D) (s:ByteArray) (t:Bool):(bodyP d s t).2.1.size≤2621440:=by
 unfold bodyP
 by_cases q1:(headP d s).2.2≠0
 ·rw [if_pos q1];exact Nat.zero_le _
 rw [if_neg q1]
 split
 ·exact Nat.zero_le _
 split
 ·exact Nat.zero_le _
 ·have q1:(headP d s).2.2=0:=by omega
  obtain ⟨_,_,_,_,k2,k3,_⟩:=zoY (d:=d) (s:=s) (w:=(headP d s).1) (c:=(headP d s).2.1) (by rw [← q1])
  have:=zcE k2 k3
  show (bs _).size≤_
  rw [zaD,List.length_take]
  omega
theorem zoZ (v:Value) (d:D) (s:ByteArray) (S:Mem) (hd:DkR S v d) (hz:Dz d) :
  ACall Tryz.prog 8 #[v,.string s] S (ReadR (readRP d s) S):=by
 have hb:=fun M h=>zoX v d s false M h hz
 have hsz:=zmw d s false
 unfold readRP
 generalize bodyP d s false=q at *
 obtain ⟨w,b,e⟩:=q
 simp only [bodyV] at hb
 simp only at hsz ⊢
 have hsp:=fun M=>zkD b (w:Int) M (by omega)
 obtain ⟨pe,ce,pw,cw,rfl,hE,hW⟩:=id hd
 by_cases he:e=0
 ·subst he
  rw [if_neg (by simp)]
  refine k_E2 (rs:=[.tmp 4,.tmp 5,.tmp 6]) 30 Tryz.func8 rfl rfl rfl ?_
  refine r2_ ?_
  refine k_b5 rfl ?_
  intro b2 f2
  have g2:=f2
  repeat ((with_reducible replace g2:=zaa g2);obtain ⟨g2,_⟩:=g2)
  refine nl_ ?_
  refine r9_ ?_
  refine ca_ rfl (hb _ (hd.less zad)) ?_
  rintro _ S1 ⟨rfl,h1⟩
  rw [h1];clear h1 S1
  refine r16_ ?_
  refine cF_ ?_
  refine r6_ ?_
  refine ca_ rfl (hsp _) ?_
  rintro _ T ⟨v,rfl,hl,hv⟩
  have hST:=(show S.Less _ from zad).trans hl
  refine r18_ ?_
  refine ⟨_,T,⟨_,_,rfl,⟨_,_,rfl,⟨_,_,rfl,rfl,rfl⟩,rfl⟩,rfl⟩,zad,?_⟩
  exact ⟨v,rfl,hST,hv⟩
 ·rw [if_pos he]
  refine k_E2 (rs:=[.tmp 4,.tmp 5,.tmp 6]) 30 Tryz.func8 rfl rfl rfl ?_
  refine r2_ ?_
  refine k_b5 rfl ?_
  intro b2 f2
  have g2:=f2
  repeat ((with_reducible replace g2:=zaa g2);obtain ⟨g2,_⟩:=g2)
  refine nl_ ?_
  refine r9_ ?_
  refine ca_ rfl (hb _ (hd.less zad)) ?_
  rintro _ S1 ⟨rfl,h1⟩
  rw [h1];clear h1 S1
  refine r9_ ?_
  refine k_v9 0 1 2 4 5 6 7 8 9 ?_
  refine r7_ ?_
  refine cT_ ?_
  refine r10_ ?_
  refine ⟨_,S,⟨_,_,rfl,⟨_,_,rfl,⟨_,_,rfl,rfl,rfl⟩,rfl⟩,rfl⟩,zad,?_⟩
  exact ⟨_,rfl,Mem.Less.refl _,SlOf.nil _ _⟩
end Rec
end
section
open Go.RowKit
open Mv Disk Num
namespace Rec
theorem zmx {d:D} {s:ByteArray} {w c:Nat} {body:ByteArray} (h:(putP d s w c body).2=0) :
  (newD d s (needN w c:Nat)).2=0∧(putTo (newD d s (needN w c:Nat)).1 s (padS body) (needN w c-1)).2=0∧putP d s w c body=sealD (putTo (newD d s (needN w c:Nat)).1 s (padS body) (needN w c-1)).1 s (headS w c):=by
 unfold putP at h ⊢
 by_cases q1:(newD d s (needN w c:Nat)).2=0
 ·rw [if_neg (by omega)] at h ⊢
  by_cases q2:(putTo (newD d s (needN w c:Nat)).1 s (padS body) (needN w c-1)).2=0
  ·rw [if_neg (by omega)];exact ⟨q1,q2,rfl⟩
  ·rw [if_pos q2] at h;exact absurd h q2
 ·rw [if_pos q1] at h;exact absurd h q1
theorem zre {d:D} {s:ByteArray} {w c:Nat} {body:ByteArray} (hR:Right d) (hdn:d.down=false) (hf:d.fuse≤9223372036854775807) (hk:w≤8) (hc:c≤65536) (hb:body.size=eachN w*c) (h:(putP d s w c body).2=0) :
  ∃ z,putP d s w c body=(z,0)∧Right z∧z.down=false∧z.fuse≤9223372036854775807∧z.waits = []∧FileR z s w c body ∧ ∀ o k,o≠s→readO z o k=readO d o k:=by
 obtain ⟨q1,q2,q3⟩:=zmx h
 rw [q3] at h ⊢
 have hn1:=zbl w c
 obtain ⟨hR1,hd1,hf1,_⟩:=(ziv (s:=s) (n:=((needN w c:Nat):Int)) hR hdn).2 q1
 have hf1:(newD d s (needN w c:Nat)).1.fuse≤9223372036854775807:=by rw [hf1];exact hf
 obtain ⟨kR,kf,kd⟩:=zcl hR1 hd1 hf1 s (padS body) (needN w c-1)
 have kd:=kd q2
 obtain ⟨f,f0,f1,e⟩:=zme (s:=s) (all:=padS body) hR hdn hf q1 _ q2
 rw [e] at kR kf kd h ⊢
 obtain ⟨x1,x2⟩:=zoN hR q1
 obtain ⟨z,z1,z2,z3,z4,z5,z6,z7⟩:=sealed (w:=w) (c:=c) (body:=body) kR kd kf (show has (newD d s (needN w c:Nat)).1.ext s=true from x2) (by
  show sec (exOf (newD d s (needN w c:Nat)).1.ext s)=_
  rw [x1];unfold sec;simp only;rw [zec,Int.toNat_natCast];omega) (fun i hi=>by
  rw [zjx hR q1,if_pos ⟨rfl,by omega,by omega⟩]
  rw [show (((i+1:Nat):Int)).toNat-1=i from by omega]) h
 refine ⟨z,z1,z2,z3,z4,z5,z6,fun o k ho=>(z7 o k ho).trans ?_⟩
 rw [zcB kR kd,zcB hR hdn]
 have hp:(placeD (putE' d s (padS body) (needN w c:Nat) (needN w c-1) f) o k).2=(placeD d o k).2:=ziC hR q1 ho k
 rw [hp]
 by_cases hp0:(placeD d o k).2=0
 ·rw [if_neg (by simpa using hp0),if_neg (by simpa using hp0),zjx hR q1,if_neg (fun h=>ho h.1),zky hR q1 ho hp0]
 ·rw [if_pos hp0,if_pos hp0]
theorem zfc (s:ByteArray):(padS s).data.toList=s.data.toList ++ List.replicate ((64-s.size % 64) % 64) 0:=bs_data _
theorem zeg (w c:Nat):(headS w c).data.toList=(preS w c ++ Crc.tailS (sumOf (preS w c))).data.toList ++ List.replicate 52 0:=by
 unfold headS
 have h8:(preS w c).size=8:=by unfold preS;rw [zaD];rfl
 rw [zfc,ByteArray.size_append,h8,Crc.zbF]
theorem zkE (w c:Nat):(headS w c).extract 0 12=preS w c ++ Crc.tailS (sumOf (preS w c)):=by
 have h8:(preS w c).size=8:=by unfold preS;rw [zaD];rfl
 apply zbv
 rw [Lib.extract_data,zeg]
 have hl:(preS w c ++ Crc.tailS (sumOf (preS w c))).data.toList.length=12:=by rw [St.zbe,ByteArray.size_append,h8,Crc.zbF]
 rw [List.drop_zero,List.take_append_of_le_length (by omega),List.take_of_length_le (by omega)]
theorem zmy {w c:Nat} (hk:w≤8) (hc:c≤65536):formP (headS w c)=(w,c,0):=by
 have hl:(headS w c).data.toList = [87,82,UInt8.ofNat w] ++ five c ++ (Crc.tailS (sumOf (preS w c))).data.toList ++ List.replicate 52 0:=by
  rw [zeg]
  have:(preS w c ++ Crc.tailS (sumOf (preS w c))).data.toList=(preS w c).data.toList ++ (Crc.tailS (sumOf (preS w c))).data.toList:=by simp
  rw [this]
  unfold preS
  rw [bs_data]
 have h5:(five c).length=5:=rfl
 have h4:(Crc.tailS (sumOf (preS w c))).data.toList.length=4:=by rw [St.zbe,Crc.zbF]
 have hw:(UInt8.ofNat w).toNat=w:=by rw [UInt8.toNat_ofNat'];omega
 have hop:openS ((headS w c).extract 0 12)=(preS w c,0):=by
  rw [zkE]
  exact Crc.zdt (preS w c) (by unfold preS;rw [zaD];show 8≤65536;decide)
 have g3:(headS w c).data.toList.drop 12=List.replicate 52 0:=by
  rw [hl,List.drop_append,List.drop_of_length_le (by simp only [List.length_append,h4,h5,List.length_cons,List.length_nil];omega)]
  simp only [List.length_append,h4,h5,List.length_cons,List.length_nil]
  rfl
 unfold formP
 rw [if_neg,hop,if_neg (by simp)]
 ·refine Prod.ext ?_ (Prod.ext ?_ rfl)
  ·show ((headS w c).data.toList.getD 2 0).toNat=w
   rw [hl];exact hw
  ·show ofB (((headS w c).data.toList.drop 3).take 5)=c
   rw [hl]
   show ofB ((five c ++ (Crc.tailS (sumOf (preS w c))).data.toList ++ List.replicate 52 0).take 5)=c
   rw [List.append_assoc,List.take_append_of_le_length (by rw [h5];omega),List.take_of_length_le (by rw [h5];omega)]
   exact zgy c (by unfold top;omega)
 ·rintro (h | h | h)
  ·exact h (by rw [hl];rfl)
  ·rw [hl] at h
   have h:8<(UInt8.ofNat w).toNat:=h
   omega
  ·rw [g3] at h;revert h;decide
theorem zhw {z:D} {s:ByteArray} {w c:Nat} {body:ByteArray} (h:FileR z s w c body):(openD z).2=0:=by
 have h:=h.head
 unfold readO at h
 by_cases q:(openD z).2=0
 ·exact q
 ·rw [if_pos q] at h
  exact absurd (congrArg Prod.snd h) q
theorem zfd {z:D} {s:ByteArray} {w c:Nat} {body:ByteArray} (hk:w≤8) (hc:c≤65536) (h:FileR z s w c body):headP z s=(w,c,0):=by
 unfold headP
 rw [h.head,if_neg (by simp),zmy hk hc,if_neg (by simp),h.size,(zeK hk).2 hc,if_neg (by simp)]
theorem zfW {z:D} {s:ByteArray} {w c:Nat} {body:ByteArray} (hb:body.size=eachN w*c) (h:FileR z s w c body):∀ k,k≤needN w c-1→bodyL z s k=(padS body).data.toList.take (64*k)
 | 0,_=>rfl
 | k+1,hk=>by
  have hall:(padS body).size=64*(needN w c-1):=by rw [zcX,hb];unfold needN;omega
  rw [bodyL,zfW hb h k (by omega),h.secs k (by omega)]
  unfold secAt
  show _ ++ ((padS body).extract (64*k) (64*k+64)).data.toList=_
  rw [Lib.extract_data,show 64*(k+1)=64*k+64 from by omega,show 64*k+64-64*k=64 from by omega,List.take_add]
theorem zmz {z:D} {s:ByteArray} {w c:Nat} {body:ByteArray} (hk:w≤8) (hc:c≤65536) (hb:body.size=eachN w*c) (h:FileR z s w c body):bodyP z s (decide (w=0))=(w,body,0):=by
 have hall:(padS body).size=64*(needN w c-1):=by rw [zcX,hb];unfold needN;omega
 have hl:=zfW hb h (needN w c-1) (Nat.le_refl _)
 rw [List.take_of_length_le (by rw [St.zbe,hall];exact Nat.le_refl _),zfc] at hl
 have hbl:body.data.toList.length=eachN w*c:=by rw [St.zbe,hb]
 unfold bodyP
 rw [zfd hk hc h]
 simp only [hl,← hbl,List.drop_left,List.take_left]
 rw [if_neg (by simp),if_neg (by simp),if_neg]
 ·rw [bs_of]
 ·unfold zeroL;simp
end Rec
end
section
open Go.RowKit
open Mv Disk Num
namespace Rec
theorem zfe {w:Nat} {l:List (List Nat)} (h:l.all (rowOK w)=true):∀ x ∈ l,x.length=w ∧ ∀ n ∈ x,n<top:=by
 intro x hx
 have:=List.all_eq_true.1 h x hx
 unfold rowOK at this
 rw [Bool.and_eq_true,decide_eq_true_eq] at this
 exact ⟨this.2,(zma this.1).2.2⟩
theorem zmA {z:D} {s:ByteArray} {w:Nat} {l:List (List Nat)} (h1:1≤w) (h8:w≤8) (hl:l.all (rowOK w)=true) (h:bodyP z s false=(w,bs (recsB l),0)):readRP z s=(w,l,0):=by
 have ha:=zfe hl
 have hsz:(bs (recsB l)).size=l.length*(5*w):=by rw [zaD,zbs l w fun x hx=>(ha x hx).1]
 have e:splitE (bs (recsB l)) (w:Int)=0:=by
  unfold splitE
  rw [if_neg (by omega),if_neg]
  rw [hsz,Int.toNat_natCast]
  simp
 have e2:splitL (bs (recsB l)) (w:Int)=l:=by
  unfold splitL
  rw [if_pos e,rowsOf,bs_data,Int.toNat_natCast,zbs l w fun x hx=>(ha x hx).1,Nat.mul_div_cancel _ (by omega)]
  exact zmb l w (fun x hx=>(ha x hx).1) (fun x hx=>(ha x hx).2)
 unfold readRP
 rw [h]
 simp only
 rw [if_neg (by simp),e,e2]
theorem zmB {z:D} {s:ByteArray} {w:Nat} {l:List (List Nat)} (h1:1≤w) (h8:w≤8) (hc:l.length≤65536) (hl:l.all (rowOK w)=true) (h:FileR z s w l.length (bs (l.flatMap recB))):readRP z s=(w,l,0):=by
 refine zmA h1 h8 hl ?_
 have:=zmz h8 hc (by
  have ha:=zfe hl
  show (bs (recsB l)).size=_
  rw [zaD,zbs l w fun x hx=>(ha x hx).1]
  unfold eachN
  rw [if_neg (by omega),Nat.mul_comm]) h
 rw [decide_eq_false (by omega)] at this
 exact this
theorem zmC {d:D} {s:ByteArray} {w:Int} {l:List (List Nat)} (hf:d.fuse≤9223372036854775807) (h:(writeP d s w l).2=0) :
  ∃ z,writeP d s w l=(z,0)∧Right z∧z.down=false∧z.fuse≤9223372036854775807∧z.waits = []∧1≤w∧w≤8∧l.length≤65536∧l.all (rowOK w.toNat)=true∧FileR z s w.toNat l.length (bs (l.flatMap recB)) ∧ ∀ o k,o≠s→readO z o k=readO d o k:=by
 unfold writeP at h ⊢
 by_cases q1:w<1∨8<w∨65536<l.length
 ·rw [if_pos q1] at h;exact absurd h (by unfold refD;simp)
 rw [if_neg q1] at h ⊢
 by_cases q2:l.all (rowOK w.toNat)=true
 ·rw [if_pos q2] at h ⊢
  unfold opened at h ⊢
  rcases zcz d with ⟨ho,hR⟩ | ⟨ho,hR,hdn⟩ | ⟨ho,hR,hdn⟩ <;> rw [ho] at h ⊢
  ·simp at h
  ·simp at h
  ·rw [if_pos rfl] at h ⊢
   have ha:=zfe q2
   obtain ⟨z,z1,z2,z3,z4,z5,z6,z7⟩:=zre hR hdn hf (by omega) (by omega) (by
    show (bs (recsB l)).size=_
    rw [zaD,zbs l w.toNat fun x hx=>(ha x hx).1]
    unfold eachN
    rw [if_neg (by omega),Nat.mul_comm]) h
   exact ⟨z,z1,z2,z3,z4,z5,by omega,by omega,by omega,q2,z6,z7⟩
 ·rw [if_neg q2] at h;exact absurd h (by unfold refD;simp)
/-! ### What the power leaves -/
end Rec
end
section
open Go.RowKit
open Mv Disk Num
namespace Top
open Rec
theorem zkF {d:D} {s y:ByteArray} {k:Int} (hf:d.fuse = -1) (hp:(placeD d s k).2=0) (hy:y.size=64) (hw:d.waits.length<16384):writeD d s k y=(addW d (s,k,y),0):=by
 unfold writeD
 rw [if_neg (by simpa using hp),if_neg (by simpa using hy),if_neg (by omega)]
 unfold fuseD
 rw [if_neg (show ¬ (addW d (s,k,y)).fuse=0 from by show ¬ d.fuse=0;omega),if_neg (show ¬ 0<(addW d (s,k,y)).fuse from by show ¬ 0<d.fuse;omega)]
theorem zo0 {d:D} {s:ByteArray} {k:Int} (hh:has d.ext s=true) (h0:0≤k) (h1:k<sec (exOf d.ext s)):(placeD d s k).2=0:=by
 unfold placeD
 rw [if_pos hh,if_neg (by omega)]
theorem zfX {e:D} {s all:ByteArray} {n:Nat} (hf:e.fuse = -1) (hw:e.waits = []) (hh:has e.ext s=true) (hs:sec (exOf e.ext s)=n) (hn:n≤16384) (ha:all.size=64*(n-1)) :
  ∀ k,k+1≤n→putTo e s all k=({ e with waits:=secsW s all k },0)
 | 0,_=>by
  obtain ⟨z,x,w,f,b⟩:=e
  obtain rfl:w = []:=hw
  rfl
 | k+1,h=>by
  have ih:=zfX hf hw hh hs hn ha k (by omega)
  rw [putTo,ih,if_pos rfl]
  have hl:(secsW s all k).length=k:=by unfold secsW;simp
  have h1:(placeD { e with waits:=secsW s all k } s ((k+1:Nat):Int)).2=0:=zo0 (d:={ e with waits:=secsW s all k }) hh (by omega) (by rw [show exOf ({ e with waits:=secsW s all k }:D).ext s=exOf e.ext s from rfl,hs];omega)
  have h2:=zkF (d:={ e with waits:=secsW s all k }) (s:=s) (k:=((k+1:Nat):Int)) (y:=secAt all k) hf h1 (zfM (by omega)) (by show (secsW s all k).length<16384;omega)
  rw [h2]
  unfold addW
  simp only
  rw [zed]
theorem zhx (w c:Nat):(headS w c).size=64:=by
 rw [← St.zbe,zeg,List.length_append,List.length_replicate,St.zbe,ByteArray.size_append,Crc.zbF]
 unfold preS
 rw [zaD]
 simp only [List.length_append,zcC,List.length_cons,List.length_nil]
def freshD (n:Int):D:=⟨n,[],[],-1,false⟩
theorem zdz {n:Int} (h0:0≤n) (h1:n≤16384):Right (freshD n):=⟨h0,h1,by show 0≤16384;decide,by show (-1:Int) ≤ -1;decide,⟨fun x h=>(by cases h),List.Pairwise.nil,by show ((0:Nat):Int)≤n;omega⟩,fun w h=>(by cases h)⟩
theorem zkG {n:Int} (h0:0≤n) (h1:n≤16384):makeD n=(freshD n,0):=by
 unfold makeD
 rw [if_neg (by omega)];rfl
/-! ### Records of a list -/
end Top
end
section
open Go.RowKit
open Mv Disk
set_option maxRecDepth 4000
namespace Sto
def ns (d:D) (s:ByteArray):Nat:=if has d.ext s=true then sec (exOf d.ext s) else 0
structure Dw (d:D) (n:Nat):Prop where
  r:Right d
  f:d.fuse = -1
  u:d.down=false
  w:d.waits.length≤n
theorem Dw.mono {d:D} {n m:Nat} (h:Dw d n) (k:n≤m):Dw d m:=⟨h.r,h.f,h.u,Nat.le_trans h.w k⟩
theorem zdR {d:D} {n:Nat} (h:Dw d n) (s:ByteArray):has d.ext s=true ↔ 0<ns d s:=by
 unfold ns
 by_cases q:has d.ext s=true
 ·rw [if_pos q]
  have:=(zcQ (h.r.ex.ok _ (zbk h.r.ex.asc q).1)).1
  exact ⟨fun _=>by omega,fun _=>q⟩
 ·rw [if_neg q];exact ⟨fun e=>absurd e q,fun e=>by omega⟩
theorem zcn {d:D} {s:ByteArray} {k:Nat} (h:k<ns d s):(placeD d s (k:Int)).2=0:=by
 unfold ns at h
 unfold placeD
 by_cases q:has d.ext s=true
 ·rw [if_pos q] at h
  rw [if_pos q,if_neg (by omega)]
 ·rw [if_neg q] at h;omega
theorem zo1 {d:D} {s:ByteArray} {k:Nat} (h:k<ns d s):readD d s (k:Int)=(seen d s (k:Int),0):=by
 rw [zcj,if_neg (by rw [zcn h];simp)]
theorem zhy {d:D} {n:Nat} (hd:Dw d n) {s:ByteArray} {k:Nat} (h:k<ns d s):(seen d s (k:Int)).size=64:=by
 have hp:=zcn h
 obtain ⟨hh,_,h1⟩:=zdN hp
 obtain ⟨hm,hn⟩:=zbk hd.r.ex.asc hh
 have hs:=(zcQ (hd.r.ex.ok _ hm)).2
 unfold seen
 have key:∀ m,m≤d.waits.length→(seeW allK d.waits s (k:Int) ((exOf d.ext s).2.extract (64*(k:Int).toNat) (64*(k:Int).toNat+64)) m).size=64:=by
  intro m
  induction m with
  | zero=>intro _;show (ByteArray.extract _ _ _).size=64;rw [ByteArray.size_extract,Int.toNat_natCast];omega
  | succ m ih =>
   intro hm'
   rw [zbL _ _ _ _ _ (by omega)]
   split
   ·rename_i q
    obtain ⟨x,hx,e,_,_,e3⟩:=hd.r.wr _ (List.getElem_mem (show m<d.waits.length by omega))
    exact e3
   ·exact ih (by omega)
 exact key _ (Nat.le_refl _)
theorem zff {d:D} {n:Nat} (hd:Dw d n) (hn:n<16384) {s data:ByteArray} {k:Nat} (h:k<ns d s) (hs:data.size=64) :
  ∃ d',writeD d s (k:Int) data=(d',0)∧Dw d' (n+1)∧d'.size=d.size∧d'.ext=d.ext∧(∀ o,ns d' o=ns d o) ∧ ∀ o j,seen d' o j=if s=o∧(k:Int)=j then data else seen d o j:=by
 have hw:=hd.w
 have hp:=zcn h
 refine ⟨addW d (s,(k:Int),data),?_,⟨zdP hd.r hp hs (by omega),hd.f,hd.u,by rw [ze1];omega⟩,rfl,rfl,fun o=>rfl,fun o j=>zgr _ _ _ _ _ _⟩
 unfold writeD fuseD
 have hf:(addW d (s,(k:Int),data)).fuse = -1:=hd.f
 rw [if_neg (by rw [hp];simp),if_neg (by rw [hs];simp),if_neg (by omega),hf,if_neg (by decide),if_neg (by decide)]
theorem zfg {d:D} {n:Nat} (hd:Dw d n):Dw (settleD d fun _=>true) 0∧(settleD d fun _=>true).size=d.size∧used (settleD d fun _=>true).ext=used d.ext∧(∀ o,ns (settleD d fun _=>true) o=ns d o) ∧ ∀ o (j:Nat),j<ns d o→seen (settleD d fun _=>true) o (j:Int)=seen d o (j:Int):=by
 have he:(settleD d fun _=>true).ext=d.ext.map (doneX (fun _=>true) d.waits):=rfl
 refine ⟨⟨zb8 hd.r _,hd.f,hd.u,Nat.le_refl _⟩,rfl,?_,fun o=>?_,fun o j h=>?_⟩
 ·rw [he]
  have:∀ l:List Ext,(∀ x ∈ l,x ∈ d.ext)→used (l.map (doneX (fun _=>true) d.waits))=used l:=by
   intro l
   induction l with
   | nil=>intro _;rfl
   | cons x l ih =>
    intro hl
    simp only [List.map_cons,used]
    rw [ih fun y hy=>hl y (List.mem_cons_of_mem _ hy)]
    congr 1
    unfold sec
    rw [zbM hd.r _ (hl x (List.mem_cons_self ..))]
  exact this _ fun _ h=>h
 ·unfold ns
  rw [he,zgp (f:=doneX (fun _=>true) d.waits) (fun _=>rfl)]
  by_cases q:has d.ext o=true
  ·rw [if_pos q,if_pos q,zdM (f:=doneX (fun _=>true) d.waits) (fun _=>rfl) hd.r.ex.asc q]
   unfold sec
   rw [zbM hd.r _ (zbk hd.r.ex.asc q).1]
  ·rw [if_neg q,if_neg q]
 ·rw [zds hd.r (zcn h) (fun _=>true)];rfl
def zs:ByteArray:=bs (List.replicate 64 0)
theorem zhz {kp:Nat→Bool} {l:List Wr} {s:ByteArray} {k:Int} {b:ByteArray} (h:∀ w ∈ l,w.1≠s):∀ m,m≤l.length→seeW kp l s k b m=b
 | 0,_=>rfl
 | m+1,hm=>by
  rw [zbL _ _ _ _ _ (by omega),if_neg (fun q=>h _ (List.getElem_mem _) q.1)]
  exact zhz h m (by omega)
theorem zqn {d:D} {n:Nat} (hd:Dw d n) {s:ByteArray} {m:Nat} (hs:nm s) (h0:ns d s=0) (h1:1≤m) (hr:(used d.ext:Int)+m≤d.size) :
  ∃ d',newD d s (m:Int)=(d',0)∧Dw d' n∧d'.size=d.size∧used d'.ext=used d.ext+m∧(∀ o,ns d' o=if s=o then m else ns d o)∧(∀ j:Nat,j<m→seen d' s (j:Int)=zs) ∧ ∀ o j,s≠o→has d.ext o=true→seen d' o j=seen d o j:=by
 have hnn:has d.ext s=false:=by
  cases e:has d.ext s with
  | false=>rfl
  | true=>have:=(zdR hd s).1 e;omega
 have hz:=zec m
 have hsec:sec (s,zeros m)=m:=by unfold sec;simp only;rw [hz];omega
 have hE:ERight (insAt d.ext (pos d.ext s) (s,zeros m)) d.size:=zfK (size':=d.size) hd.r.ex hnn hs (by rw [hz];omega) (by rw [hz];omega) (by rw [hsec];omega)
 have hRn:Right { d with ext:=insAt d.ext (pos d.ext s) (s,zeros m) }:=⟨hd.r.s0,hd.r.s1,hd.r.wl,hd.r.fu,hE,fun w hw=>by
  obtain ⟨x,hx,h⟩:=hd.r.wr w hw
  exact ⟨x,zbE.2 (.inr hx),h⟩⟩
 have hhas:∀ o,has (insAt d.ext (pos d.ext s) (s,zeros m)) o=true ↔ s=o∨has d.ext o=true:=fun o=>by
  rw [zbd,zbd]
  constructor
  ·rintro ⟨x,hx,rfl⟩
   rcases zbE.1 hx with rfl | hx
   ·exact .inl rfl
   ·exact .inr ⟨x,hx,rfl⟩
  ·rintro (rfl | ⟨x,hx,rfl⟩)
   ·exact ⟨_,zbE.2 (.inl rfl),rfl⟩
   ·exact ⟨x,zbE.2 (.inr hx),rfl⟩
 have hexs:exOf (insAt d.ext (pos d.ext s) (s,zeros m)) s=(s,zeros m):=zbw hE.asc (x:=(s,zeros m)) (zbE.2 (.inl rfl))
 have hexo:∀ o,has d.ext o=true→exOf (insAt d.ext (pos d.ext s) (s,zeros m)) o=exOf d.ext o:=fun o ho=>by
  obtain ⟨hm,hn⟩:=zbk hd.r.ex.asc ho
  have:=zbw hE.asc (zbE.2 (.inr hm):exOf d.ext o ∈ insAt d.ext (pos d.ext s) (s,zeros m))
  rwa [hn] at this
 refine ⟨{ d with ext:=insAt d.ext (pos d.ext s) (s,zeros m) },?_,⟨hRn,hd.f,hd.u,hd.w⟩,rfl,?_,fun o=>?_,fun j hj=>?_,fun o j hne ho=>?_⟩
 ·unfold newD
  rw [if_neg (fun h=>by rcases h with h | h;exact h hs;omega),if_neg (by rw [hnn];simp),if_neg (by omega),Int.toNat_natCast]
 ·show used (insAt _ _ _)=_
  rw [zgv,hsec]
 ·unfold ns
  by_cases e:s=o
  ·subst e
   rw [if_pos rfl,if_pos ((hhas s).2 (.inl rfl))]
   show sec (exOf (insAt _ _ _) s)=m
   rw [hexs,hsec]
  ·rw [if_neg e]
   by_cases q:has d.ext o=true
   ·rw [if_pos q,if_pos ((hhas o).2 (.inr q))]
    show sec (exOf (insAt _ _ _) o)=_
    rw [hexo o q]
   ·rw [if_neg q,if_neg (fun h=>by rcases (hhas o).1 h with h | h;exact e h;exact q h)]
 ·unfold seen
  show seeW allK d.waits s (j:Int) ((exOf (insAt _ _ _) s).2.extract _ _) d.waits.length=zs
  rw [zhz (fun w hw e=>by
   obtain ⟨x,hx,h,_⟩:=hd.r.wr w hw
   have:has d.ext s=true:=zbd.2 ⟨x,hx,h.trans e⟩
   rw [hnn] at this;cases this) _ (Nat.le_refl _),hexs,Int.toNat_natCast]
  apply zbv
  show ((bs (List.replicate (64*m) 0)).extract (64*j) (64*j+64)).data.toList=(bs (List.replicate 64 0)).data.toList
  rw [Lib.extract_data,bs_data,bs_data,List.drop_replicate,List.take_replicate]
  congr 1;omega
 ·unfold seen
  show seeW allK d.waits o j ((exOf (insAt _ _ _) o).2.extract _ _) d.waits.length=_
  rw [hexo o ho]
end Sto
end
section
open Go.RowKit
open Mv Disk
set_option maxRecDepth 20000
structure Fr where
  name:ByteArray
  sector:Int
  data:ByteArray
  pins:Int
  dirty:Bool
  tick:Int
  leased:Bool
def frF (x:Fr):List Value:=[.string x.name,.int .i64 x.sector,.string x.data,.int .i64 x.pins,.bool x.dirty,.int .u64 x.tick,.bool x.leased]
def frV (x:Fr):Value:=.agg #[.string x.name,.int .i64 x.sector,.string x.data,.int .i64 x.pins,.bool x.dirty,.int .u64 x.tick,.bool x.leased]
def F0:Fr:=⟨ByteArray.empty,0,ByteArray.empty,0,false,0,false⟩
def F1:Fr:=⟨ByteArray.empty,0,ByteArray.empty,0,false,0,true⟩
def Fr.holds (x:Fr):Prop:=x.name.size≠0
instance (x:Fr):Decidable x.holds:=by unfold Fr.holds;infer_instance
theorem zjB (x y:Fr):x=y ↔ x.name=y.name∧x.sector=y.sector∧x.data=y.data∧x.pins=y.pins∧x.dirty=y.dirty∧x.tick=y.tick∧x.leased=y.leased:=by
 cases x;cases y;simp
instance : DecidableEq Fr := fun x y => decidable_of_iff _ (zjB x y).symm
theorem zeL (x:Fr) (S:Mem):ACall Tryz.prog 148 #[frV x] S fun r S'=>r = .bool (decide x.holds)∧S'=S:=by
 have e:(!decide (x.name=ByteArray.empty))=decide x.holds:=by
  by_cases h:x.name=ByteArray.empty
  ·rw [decide_eq_true h,decide_eq_false (show ¬ x.holds from fun q=>q ((zif _).1 h))];rfl
  ·rw [decide_eq_false h,decide_eq_true (show x.holds from fun q=>h ((zif _).2 q))];rfl
 unfold frV
 refine k_E1 (rs:=[.tmp 2]) 6 Tryz.func148 rfl rfl rfl ?_
 refine r2_ ?_
 refine k_b7 rfl ?_
 intro b1 f1
 have g1:=f1
 repeat ((with_reducible replace g1:=zaa g1);obtain ⟨g1,_⟩:=g1)
 refine nl_ ?_
 refine r7_ ?_
 refine rC (Calm.bin rfl rfl (zag (zaF _ _) e)) ?_
 refine r4_ ?_
 refine ⟨_,S,⟨_,_,rfl,rfl,rfl⟩,zad,?_⟩
 exact ⟨rfl,rfl⟩
theorem zmD (x y:Fr) (w:World):(binOp .eql 229 (frV x) (frV y)).run Tryz.prog w = .ok (.bool (decide (x=y))) w:=by
 have e:decide (x=y)=((x.name.toList == y.name.toList) && (x.sector == y.sector) && (x.data.toList == y.data.toList) && (x.pins == y.pins) && (x.dirty == y.dirty) && (x.tick == y.tick) && (x.leased == y.leased)):=by
  rw [Bool.eq_iff_iff,decide_eq_true_eq,zjB]
  simp [ze5,and_assoc]
 rw [e]
 unfold frV
 go_simp
 cases h1:(x.name.toList == y.name.toList) <;> cases h2:(x.sector == y.sector) <;> cases h3:(x.data.toList == y.data.toList) <;> cases h4:(x.pins == y.pins) <;> cases h5:(x.dirty == y.dirty) <;> cases h6:(x.tick == y.tick) <;> cases h7:(x.leased == y.leased) <;> simp_all
theorem zgB {p q:Operand} (x y:Fr):Bin Tryz.prog .eql 229 p q (frV x) (frV y) (.bool (decide (x=y))):=fun w=>by
 unfold frV
 rw [Sem.run_bind,run_eqGuard_agg w .eql 229 p q _ _ (by kernel_rfl)]
 exact zmD x y w
theorem zeh (x:Fr) (S:Mem):ACall Tryz.prog 193 #[frV x] S fun r S'=>r = .bool (decide (x=F0))∧S'=S:=by
 unfold frV
 refine k_E1 (rs:=[.tmp 2]) 6 Tryz.func193 rfl rfl rfl ?_
 refine r2_ ?_
 refine k_b7 rfl ?_
 intro b1 f1
 have g1:=f1
 repeat ((with_reducible replace g1:=zaa g1);obtain ⟨g1,_⟩:=g1)
 refine nl_ ?_
 refine r7_ ?_
 refine rC (Calm.bin rfl rfl (zgB x F0)) ?_
 refine r4_ ?_
 refine ⟨_,S,⟨_,_,rfl,rfl,rfl⟩,zad,?_⟩
 exact ⟨rfl,rfl⟩
def Fr.idle (x:Fr):Prop:=x=F0∨x.holds∧x.pins=0
instance (x:Fr):Decidable x.idle:=by unfold Fr.idle;infer_instance
theorem zgC (x:Fr) (S:Mem):ACall Tryz.prog 192 #[frV x] S fun r S'=>r = .bool (decide x.idle)∧S'=S:=by
 have cf:=fun S=>zeh x S
 have ch:=fun S=>zeL x S
 unfold frV at *
 by_cases q1:x=F0
 ·rw [decide_eq_true q1] at cf
  rw [decide_eq_true (show x.idle from .inl q1)]
  refine k_E1 (rs:=[.tmp 2]) 14 Tryz.func192 rfl rfl rfl ?_
  refine r2_ ?_
  refine k_b7 rfl ?_
  intro b1 f1
  have g1:=f1
  repeat ((with_reducible replace g1:=zaa g1);obtain ⟨g1,_⟩:=g1)
  refine nl_ ?_
  refine r6_ ?_
  refine ca_ rfl (cf _) ?_
  rintro _ S1 ⟨rfl,h1⟩
  rw [h1];clear h1 S1
  refine r13_ ?_
  refine ⟨_,S,⟨_,_,rfl,rfl,rfl⟩,zad,?_⟩
  exact ⟨rfl,rfl⟩
 ·rw [decide_eq_false q1] at cf
  by_cases q2:x.holds
  ·rw [decide_eq_true q2] at ch
   have e:decide x.idle=decide (x.pins=0):=by unfold Fr.idle;simp [q1,q2]
   rw [e]
   refine k_E1 (rs:=[.tmp 2]) 14 Tryz.func192 rfl rfl rfl ?_
   refine r2_ ?_
   refine k_b7 rfl ?_
   intro b1 f1
   have g1:=f1
   repeat ((with_reducible replace g1:=zaa g1);obtain ⟨g1,_⟩:=g1)
   refine nl_ ?_
   refine r6_ ?_
   refine ca_ rfl (cf _) ?_
   rintro _ S1 ⟨rfl,h1⟩
   rw [h1];clear h1 S1
   refine r2_ ?_
   refine ARun.callG 2 false 5 rfl (zab rfl) rfl (zab rfl) zlB rfl (ch _) ?_
   rintro _ S1 ⟨rfl,h1⟩
   rw [h1];clear h1 S1
   refine r10_ ?_
   refine ⟨_,S,⟨_,_,rfl,rfl,rfl⟩,zad,?_⟩
   exact ⟨rfl,rfl⟩
  ·rw [decide_eq_false q2] at ch
   rw [decide_eq_false (show ¬ x.idle from fun h=>h.elim q1 (fun h=>q2 h.1))]
   refine k_E1 (rs:=[.tmp 2]) 14 Tryz.func192 rfl rfl rfl ?_
   refine r2_ ?_
   refine k_b7 rfl ?_
   intro b1 f1
   have g1:=f1
   repeat ((with_reducible replace g1:=zaa g1);obtain ⟨g1,_⟩:=g1)
   refine nl_ ?_
   refine r6_ ?_
   refine ca_ rfl (cf _) ?_
   rintro _ S1 ⟨rfl,h1⟩
   rw [h1];clear h1 S1
   refine r2_ ?_
   refine ARun.callG 2 false 5 rfl (zab rfl) rfl (zab rfl) zlB rfl (ch _) ?_
   rintro _ S1 ⟨rfl,h1⟩
   rw [h1];clear h1 S1
   refine r10_ ?_
   refine ⟨_,S,⟨_,_,rfl,rfl,rfl⟩,zad,?_⟩
   exact ⟨rfl,rfl⟩
def like (x y:Fr):Prop:=x.holds∧y.holds∧(x.tick=y.tick∨x.name=y.name∧x.sector=y.sector)
instance (x y:Fr):Decidable (like x y):=by unfold like;infer_instance
end
section
open Go.RowKit
open Mv Disk
set_option maxRecDepth 20000
theorem zfh (x:Fr):(frF x).length=7:=rfl
end
section
open Go.RowKit
open Mv Disk
set_option maxRecDepth 20000
structure Pl where
  d:D
  fr:List Fr
  tick:Int
  reads:Int
  writes:Int
end
section
open Go.RowKit
open Mv Disk
set_option maxRecDepth 20000
theorem zfY {q:Fr→Bool} {l:List Fr} {i:Nat} (h:i<l.length):(l.take (i+1)).countP q=(l.take i).countP q+if q l[i]=true then 1 else 0:=by
 rw [zbI h,List.countP_append,List.countP_singleton]
theorem zjC {q:Fr→Bool} (l:List Fr) (i:Nat):(l.take i).countP q≤l.length:=Nat.le_trans List.countP_le_length (by simp;omega)
end
section
open Go.RowKit
open Mv Disk
set_option maxRecDepth 4000
abbrev frT:TypeId:=229
end
section
open Go.RowKit
open Mv Disk
set_option maxRecDepth 4000
def up1 (x:Int):Int:=IntKind.u64.wrap (x+1)
def setP (p:Pl) (i:Nat) (x:Fr):Pl:={ p with fr:=p.fr.set i x }
def atF (p:Pl) (i:Nat):Fr:=p.fr.getD i F0
def wrP (p:Pl) (i:Nat):Pl × Int :=
  ({ p with d:=(writeD p.d (atF p i).name (atF p i).sector (atF p i).data).1,writes:=up1 p.writes,fr:=if (writeD p.d (atF p i).name (atF p i).sector (atF p i).data).2=0 then p.fr.set i { atF p i with dirty:=false } else p.fr },(writeD p.d (atF p i).name (atF p i).sector (atF p i).data).2)
def bestF (fr:List Fr):Nat→Int
  | 0=>-1
  | i+1=>if (fr.getD i F0).idle∧(bestF fr i<0∨(fr.getD i F0).tick<(fr.getD (bestF fr i).toNat F0).tick) then (i:Nat) else bestF fr i
theorem zdS (fr:List Fr):∀ i,-1≤bestF fr i∧bestF fr i<i
 | 0=>⟨by unfold bestF;omega,by unfold bestF;omega⟩
 | i+1=>by
  have:=zdS fr i
  unfold bestF
  split <;> omega
def takeP (p:Pl):Pl × Nat × Int :=
  if p.fr.findIdx (fun x=>decide (x=F0))<p.fr.length then (p,p.fr.findIdx (fun x=>decide (x=F0)),0)
  else if bestF p.fr p.fr.length<0 then (p,0,9)
  else if (atF p (bestF p.fr p.fr.length).toNat).dirty=true then
    (if (wrP p (bestF p.fr p.fr.length).toNat).2=0 then (setP (wrP p (bestF p.fr p.fr.length).toNat).1 (bestF p.fr p.fr.length).toNat F0,(bestF p.fr p.fr.length).toNat,0)
     else ((wrP p (bestF p.fr p.fr.length).toNat).1,0,(wrP p (bestF p.fr p.fr.length).toNat).2))
  else (setP p (bestF p.fr p.fr.length).toNat F0,(bestF p.fr p.fr.length).toNat,0)
def isF (s:ByteArray) (k:Int) (x:Fr):Bool:=decide (x.holds∧x.sector=k∧x.name=s)
def pin1 (p:Pl) (i:Nat):Pl:={ p with tick:=up1 p.tick,fr:=p.fr.set i { atF p i with tick:=up1 p.tick,pins:=(atF p i).pins+1 } }
def newF (s:ByteArray) (k:Int) (data:ByteArray):Fr:=⟨s,k,data,0,false,0,false⟩
def pinP (p:Pl) (s:ByteArray) (k:Int):Pl × Nat × Int :=
  if p.fr.findIdx (isF s k)<p.fr.length then
    (if (atF p (p.fr.findIdx (isF s k))).pins=256 then (p,0,11) else (pin1 p (p.fr.findIdx (isF s k)),p.fr.findIdx (isF s k),0))
  else if (readD p.d s k).2≠0 then (p,0,(readD p.d s k).2)
  else if (takeP p).2.2≠0 then ((takeP p).1,0,(takeP p).2.2)
  else (pin1 { setP (takeP p).1 (takeP p).2.1 (newF s k (readD p.d s k).1) with reads:=up1 (takeP p).1.reads } (takeP p).2.1,(takeP p).2.1,0)
def zfZ (p:Pl) (i:Int):Pl × Int :=
  if i<0∨(p.fr.length:Int)≤i then (p,1) else if (atF p i.toNat).pins=0 then (p,11) else (setP p i.toNat { atF p i.toNat with pins:=(atF p i.toNat).pins-1 },0)
def ret1 (p:Pl) (i:Int):Pl × Int :=
  if i<0∨(p.fr.length:Int)≤i then (p,1) else if (atF p i.toNat).leased=false then (p,11) else (setP p i.toNat F0,0)
def pinnedP (p:Pl) (i a n:Int):Int:=if i<0∨(p.fr.length:Int)≤i∨a<0∨64<a∨64-a<n then 1 else if (atF p i.toNat).pins=0 then 11 else 0
def fillS (t:ByteArray) (a:Int) (s:ByteArray):ByteArray:=t.extract 0 a.toNat ++ s ++ t.extract (a.toNat+s.size) t.size
def fillP (p:Pl) (i a:Int) (s:ByteArray):Pl × Int:=if pinnedP p i a s.size=0 then (setP p i.toNat { atF p i.toNat with data:=fillS (atF p i.toNat).data a s,dirty:=true },0) else (p,pinnedP p i a s.size)
def leaseN:Nat→Pl→List Int→Pl × List Int × Int
  | 0,p,l=>(p,l,0)
  | n+1,p,l=>if (takeP p).2.2=0 then leaseN n (setP (takeP p).1 (takeP p).2.1 F1) (l ++ [((takeP p).2.1:Int)]) else ((takeP p).1,[],(takeP p).2.2)
def idlesP (p:Pl):Nat:=p.fr.countP fun x=>decide x.idle
def leaseP (p:Pl) (n:Int):Pl × List Int × Int:=if n<0 then (p,[],1) else if (idlesP p:Int)<n then (p,[],9) else leaseN n.toNat p []
def ofN (s:ByteArray) (x:Fr):Bool:=decide (x.holds∧x.name=s)
def dropP (p:Pl) (s:ByteArray):Pl × Int:=if p.fr.any (fun x=>ofN s x && decide (0<x.pins))=true then (p,11) else ({ p with fr:=p.fr.map fun x=>if ofN s x=true then F0 else x },0)
def flushN (p:Pl) (i:Nat):Nat→Pl × Int
  | 0=>(p,0)
  | n+1=>if (atF p i).dirty=true then (if (wrP p i).2=0 then flushN (wrP p i).1 (i+1) n else wrP p i) else flushN p (i+1) n
def flushP (p:Pl):Pl × Int:=if (flushN p 0 p.fr.length).2=0 then ({ (flushN p 0 p.fr.length).1 with d:=settleD (flushN p 0 p.fr.length).1.d fun _=>true },0) else flushN p 0 p.fr.length
/-! ### What holds of a pool at work -/
structure PW (p:Pl):Prop where
  dr:Right p.d
  fu:p.d.fuse≤9223372036854775807
  nd:p.d.down=false
  l1:1≤p.fr.length
  l2:p.fr.length≤256
  pn:∀ x ∈ p.fr,0≤x.pins∧x.pins≤256
theorem zaP {p:Pl} {i:Nat} (h:i<p.fr.length):atF p i=p.fr[i]:=by unfold atF;simp [List.getD,List.getElem?_eq_getElem h]
theorem ziK {p:Pl} {i:Nat} (h:i<p.fr.length):atF p i ∈ p.fr:=by rw [zaP h];exact List.getElem_mem h
abbrev arT:TypeId:=122
def frB (fr:List Fr) (c:Nat):Blk:=⟨frT,fr.flatMap frF,c*7⟩
def arB (p b c:Nat) (x:Pl) (k:Int):Blk:=⟨arT,[.pointer (some ⟨p,0,none⟩),.slice (some ⟨b,0,none⟩) x.fr.length c,.int .u64 x.tick,.int .u64 x.reads,.int .u64 x.writes,.int .i64 k],6⟩
def arM (M:Mem) (a p b c:Nat) (x:Pl) (k:Int):Mem:=(M.set b (frB x.fr c)).set a (arB p b c x k)
structure OkA (S:Mem) (a p b c:Nat) (x:Pl) (oE oW:Option (Nat × Nat)):Prop where
  v:OkV S p x.d oE oW
  fb:Fresh (devM S p x.d oE oW) b
  fa:Fresh (devM S p x.d oE oW) a
  ab:a≠b
  l:x.fr.length≤c
def ArS (S:Mem) (a p b c:Nat) (x:Pl) (S':Mem):Prop:=∃ k oE oW,OkA S a p b c x oE oW∧S'=arM (devM S p x.d oE oW) a p b c x k
theorem zo2 {α : Type} {n:Nat} {f : α→List Value} (hn:∀ x,(f x).length=n) (l:List α) (k:Nat) (y : α) (h:k<l.length):spl (l.flatMap f) (k*n) (f y)=(l.set k y).flatMap f:=by
 have e1:l=l.take k ++ l[k] :: l.drop (k+1):=by rw [← zcA h,List.take_append_drop]
 have e2:l.set k y=l.take k ++ y :: l.drop (k+1):=by rw [List.set_eq_take_append_cons_drop,if_pos h]
 rw [e2]
 conv=>lhs;rw [e1]
 rw [List.flatMap_append,List.flatMap_append,List.flatMap_cons,List.flatMap_cons]
 have hl:=zaq hn (l.take k)
 rw [List.length_take,Nat.min_eq_left (Nat.le_of_lt h)] at hl
 have hk:=hn l[k]
 have hy:=hn y
 generalize List.flatMap f (List.take k l)=A at *
 generalize List.flatMap f (List.drop (k+1) l)=B at *
 generalize f l[k]=C at *
 unfold spl
 rw [List.take_left' hl,← List.append_assoc A C B,List.drop_left' (by rw [List.length_append];omega),List.append_assoc]
theorem zei {S S':Mem} (h:S=S'):S.Less S':=by rw [h];exact Mem.Less.refl _
theorem za3 {M:Mem} {a p b c:Nat} {x:Pl} {k:Int}:(arM M a p b c x k).own a=some (arB p b c x k):=Mem.own_set_same _ _ _
theorem zde {M:Mem} {a p b c:Nat} {x:Pl} {k:Int} (h:a≠b):(arM M a p b c x k).own b=some (frB x.fr c):=(Mem.own_set_other _ _ (Ne.symm h)).trans (Mem.own_set_same _ _ _)
theorem zby {M:Mem} {a p b c:Nat} {x:Pl} {k:Int} (h:a≠b) (fr':List Fr) (hl:fr'.length=x.fr.length):(arM M a p b c x k).set b (frB fr' c)=arM M a p b c { x with fr:=fr' } k:=by
 unfold arM
 rw [← Mem.set_comm _ _ _ (Ne.symm h),Mem.set_set]
 unfold arB;rw [hl]
theorem zej {M:Mem} {a p b c:Nat} {x x':Pl} {k k':Int} (h:x'.fr=x.fr):(arM M a p b c x k).set a (arB p b c x' k')=arM M a p b c x' k':=by
 unfold arM
 rw [Mem.set_set,h]
theorem ziL {M:Mem} {a p b c:Nat} {x:Pl} {k:Int} (h:a≠b) (hl:x.fr.length≤c) (hm:x.fr.length≤256):Sl 7 frF (arM M a p b c x k) (.slice (some ⟨b,0,none⟩) x.fr.length c) x.fr :=
 Sl.own (zde h) zfh List.prefix_rfl rfl hl (Nat.le_trans hm (by decide))
theorem zaQ {M:Mem} {a p b c:Nat} {x:Pl} {k:Int} (fb:Fresh M b) (fa:Fresh M a) (h:a≠b):M.Less (arM M a p b c x k) :=
 (Mem.less_set _ _ _ fb.1).trans (Mem.less_set _ _ _ ((Mem.own_set_other _ _ h).trans fa.1))
theorem OkA.less {S:Mem} {a p b c:Nat} {x:Pl} {oE oW:Option (Nat × Nat)} (h:OkA S a p b c x oE oW) (k:Int):S.Less (arM (devM S p x.d oE oW) a p b c x k) :=
 (h.v.dk.less.trans (Mem.less_set _ _ _ h.v.fr.1)).trans (zaQ h.fb h.fa h.ab)
theorem OkA.rd {S:Mem} {a p b c:Nat} {x:Pl} {oE oW:Option (Nat × Nat)} (h:OkA S a p b c x oE oW) (hw:PW x) (k:Int):RdV (arM (devM S p x.d oE oW) a p b c x k) p x.d :=
 (h.v.rd (zaC hw.dr).1 (zaC hw.dr).2).less (zaQ h.fb h.fa h.ab)
theorem OkA.like {S:Mem} {a p b c:Nat} {x x':Pl} {oE oW:Option (Nat × Nat)} (h:OkA S a p b c x oE oW) (hd:x'.d=x.d) (hl:x'.fr.length=x.fr.length):OkA S a p b c x' oE oW :=
 ⟨by rw [hd];exact h.v,by rw [hd];exact h.fb,by rw [hd];exact h.fa,h.ab,by rw [hl];exact h.l⟩
theorem zgD {S:Mem} {a p b c:Nat} {x:Pl} {oE oW:Option (Nat × Nat)} (h:OkA S a p b c x oE oW) (k:Int) {f:FuncId} {args:Array Value} {R:Value→Mem→Prop} (hc:ACall Tryz.prog f args (devM S p x.d oE oW) R) :
  ACall Tryz.prog f args (arM (devM S p x.d oE oW) a p b c x k) fun r S'=>∃ M,R r M∧Fresh M b∧Fresh M a∧S'=arM M a p b c x k:=by
 have fa':Fresh ((devM S p x.d oE oW).set b (frB x.fr c)) a:=zal h.fa h.ab
 refine ((hc.frame (r:=frB x.fr c) h.fb).frame (r:=arB p b c x k) fa').mono fun r S' ⟨Sa,⟨M,hR,f1,e1⟩,f2,e2⟩=>?_
 subst e1
 exact ⟨M,hR,f1,(zaa f2).1,e2⟩
section
variable {P:Program} {N:Nat} {ops:Array Oper} {E:Env} {S:Mem} {K:Env→Mem→Prop}
variable {ty:TypeId} {pos:String} {aft:Array Edge} {gd:Option (Nat × Bool)}
theorem Mv.ARun.storeFr {os:List Oper} {T:TypeId} {x y:Operand} {b o c i:Nat} {l:List Fr} {u:Fr} {v:Value} (hx:ev E x=some (.pointer (some ⟨b,o,none⟩))) (hy:ev E y=some v) (hv:v=frV u) (ho:o=i*7) (hi:i<l.length) (hs:sizeT P T=some 7) (hb:S.own b=some (frB l c))
  (h:ARun P N ops os K E (S.set b (frB (l.set i u) c))):ARun P N ops (⟨none,.store T x y,ty,pos,aft,none⟩ :: os) K E S:=by
 subst hv ho
 have hl:=zaq zfh l
 have:=Nat.mul_le_mul_right 7 (show i+1≤l.length from hi)
 refine ARun.store hx hy (by unfold frV;exact hs) hb (by unfold frB frV;show i*7+7≤(l.flatMap frF).length;omega) (by unfold frV;simp [Value.cells,Value.oneCell']) ?_
 have e:spl (frB l c).cells (i*7) (frV u).cells.toList=(l.set i u).flatMap frF:=zo2 zfh l i u hi
 rw [e];exact h
theorem Mv.ARun.storeFr1 {os:List Oper} {T:TypeId} {x y:Operand} {b o c i q:Nat} {l:List Fr} {u:Fr} {v:Value} (hx:ev E x=some (.pointer (some ⟨b,o,none⟩))) (hy:ev E y=some v) (hv1:v.cells = #[v]) (hv2:v.oneCell'=true) (ho:o=i*7+q) (hq:q<7) (hi:i<l.length) (hu:(frF l[i]).set q v=frF u) (hs:sizeT P T=some 1) (hb:S.own b=some (frB l c))
  (h:ARun P N ops os K E (S.set b (frB (l.set i u) c))):ARun P N ops (⟨none,.store T x y,ty,pos,aft,none⟩ :: os) K E S:=by
 subst ho
 have hl:=zaq zfh l
 have:=Nat.mul_le_mul_right 7 (show i+1≤l.length from hi)
 refine ARun.store1 hx hy hs hv1 hb (by unfold frB;show i*7+q<(l.flatMap frF).length;omega) hv2 ?_
 have e:(frB l c).cells.set (i*7+q) v=(l.set i u).flatMap frF:=zeC zfh l i u hi q v hq hu
 rw [e];exact h
end
end
section
open Go.RowKit
open Mv Disk
set_option maxRecDepth 4000
namespace Sto
structure Held (d:D) (x:Fr):Prop where
  h:x.holds
  l:x.leased=false
  p0:0≤x.pins
  p1:x.pins≤200
  z:x.data.size=64
  s0:0≤x.sector
  s1:x.sector<(ns d x.name:Int)
  c:x.dirty=false→x.data=seen d x.name x.sector
def FrOk (d:D) (x:Fr):Prop:=x=F0∨x=F1∨Held d x
def same (x y:Fr):Prop:=x.holds∧y.holds∧x.name=y.name∧x.sector=y.sector
structure Ps (p:Pl) (n:Nat):Prop where
  d:Dw p.d n
  ok:∀ i,i<p.fr.length→FrOk p.d (atF p i)
  ap:∀ i j,i<p.fr.length→j<p.fr.length→i≠j → ¬ same (atF p i) (atF p j)
  l1:1≤p.fr.length
  l2:p.fr.length≤256
theorem n0 : ¬ F0.holds:=fun h=>h rfl
theorem n1 : ¬ F1.holds:=fun h=>h rfl
theorem zbT {d:D} {x:Fr} (h:FrOk d x) (hh:x.holds):Held d x:=by
 rcases h with rfl | rfl | h
 ·exact absurd hh n0
 ·exact absurd hh n1
 ·exact h
def vw (p:Pl) (s:ByteArray) (k:Int):ByteArray:=if p.fr.findIdx (isF s k)<p.fr.length then (atF p (p.fr.findIdx (isF s k))).data else seen p.d s k
theorem zan {s:ByteArray} {k:Int} {x:Fr}:isF s k x=true ↔ x.holds∧x.sector=k∧x.name=s:=by unfold isF;simp
theorem zgE {p:Pl} {s:ByteArray} {k:Int} (h:p.fr.findIdx (isF s k)<p.fr.length):isF s k (atF p (p.fr.findIdx (isF s k)))=true:=by
 rw [zaP h];exact List.findIdx_getElem (w:=h)
theorem zrf {p:Pl} {n:Nat} (hp:Ps p n) {s:ByteArray} {k:Int} {i:Nat} (hi:i<p.fr.length) (h:isF s k (atF p i)=true):p.fr.findIdx (isF s k)=i:=by
 have hlt:p.fr.findIdx (isF s k)<p.fr.length:=List.findIdx_lt_length_of_exists ⟨p.fr[i],List.getElem_mem hi,by rw [← zaP hi];exact h⟩
 have h2:=zgE hlt
 by_cases e:p.fr.findIdx (isF s k)=i
 ·exact e
 ·exfalso
  rw [zan] at h h2
  exact hp.ap _ _ hlt hi e ⟨h2.1,h.1,h2.2.2.trans h.2.2.symm,h2.2.1.trans h.2.1.symm⟩
theorem zfv {p:Pl} {n:Nat} (hp:Ps p n) {s:ByteArray} {k:Int} {i:Nat} (hi:i<p.fr.length) (h:isF s k (atF p i)=true):vw p s k=(atF p i).data:=by
 unfold vw
 rw [zrf hp hi h,if_pos hi]
theorem zey {p:Pl} {s:ByteArray} {k:Int} (h:∀ i,i<p.fr.length→isF s k (atF p i)=false):vw p s k=seen p.d s k:=by
 unfold vw
 rw [if_neg (fun q=>by have:=zgE q;rw [h _ q] at this;cases this)]
theorem zrg {p:Pl} (s:ByteArray) (k:Int):(∃ i,i<p.fr.length∧isF s k (atF p i)=true) ∨ ∀ i,i<p.fr.length→isF s k (atF p i)=false:=by
 by_cases q:p.fr.findIdx (isF s k)<p.fr.length
 ·exact .inl ⟨_,q,zgE q⟩
 ·refine .inr fun i hi=>?_
  cases e:isF s k (atF p i) with
  | false=>rfl
  | true=>exact absurd (List.findIdx_lt_length_of_exists ⟨p.fr[i],List.getElem_mem hi,by rw [← zaP hi];exact e⟩) q
theorem ziM {p:Pl} {n:Nat} (hp:Ps p n) {s:ByteArray} {k:Nat} (h:k<ns p.d s):(vw p s (k:Int)).size=64:=by
 rcases zrg (p:=p) s (k:Int) with ⟨i,hi,e⟩ | e
 ·rw [zfv hp hi e]
  exact (zbT (hp.ok i hi) (zan.1 e).1).z
 ·rw [zey e];exact zhy hp.d h
theorem zaR {p:Pl} {i j:Nat} (x:Fr) (hi:i<p.fr.length):atF (setP p i x) j=if i=j then x else atF p j:=by
 unfold atF setP
 simp only [List.getD_eq_getElem?_getD,List.getElem?_set]
 by_cases e:i=j
 ·subst e;rw [if_pos rfl,if_pos rfl,if_pos hi];rfl
 ·rw [if_neg e,if_neg e]
theorem zbG {p:Pl} {i:Nat} (x:Fr):(setP p i x).fr.length=p.fr.length:=by unfold setP;simp
theorem Ps.set {p:Pl} {n:Nat} (hp:Ps p n) {i:Nat} (hi:i<p.fr.length) {x:Fr} (hx:FrOk p.d x) (ha:∀ j,j<p.fr.length→j≠i → ¬ same (atF p j) x):Ps (setP p i x) n where
 d:=hp.d
 ok:=fun j hj=>by
  rw [zbG] at hj
  rw [zaR x hi]
  split
  ·exact hx
  ·exact hp.ok j hj
 ap:=fun a b h1 h2 hne=>by
  rw [zbG] at h1 h2
  rw [zaR x hi,zaR x hi]
  by_cases ea:i=a
  ·rw [if_pos ea,if_neg (fun eb=>hne (ea.symm.trans eb))]
   exact fun h=>ha b h2 (fun e=>hne (by rw [← ea,e])) ⟨h.2.1,h.1,h.2.2.1.symm,h.2.2.2.symm⟩
  ·rw [if_neg ea]
   by_cases eb:i=b
   ·rw [if_pos eb];exact ha a h1 (fun e=>ea e.symm)
   ·rw [if_neg eb];exact hp.ap a b h1 h2 hne
 l1:=by rw [zbG];exact hp.l1
 l2:=by rw [zbG];exact hp.l2
theorem zgF {p q:Pl} {n m:Nat} (hp:Ps p n) (hq:Ps q m) (hl:q.fr.length=p.fr.length) {s:ByteArray} {k:Int}
  (h1:∀ i,i<p.fr.length→isF s k (atF p i)=true→(isF s k (atF q i)=true∧(atF q i).data=(atF p i).data)∨((∀ j,j<p.fr.length→isF s k (atF q j)=false)∧seen q.d s k=(atF p i).data))
  (h2:(∀ i,i<p.fr.length→isF s k (atF p i)=false)→(∃ i,i<p.fr.length∧isF s k (atF q i)=true∧(atF q i).data=seen p.d s k)∨((∀ j,j<p.fr.length→isF s k (atF q j)=false)∧seen q.d s k=seen p.d s k)):vw q s k=vw p s k:=by
 rcases zrg (p:=p) s k with ⟨i,hi,e⟩ | e
 ·rw [zfv hp hi e]
  rcases h1 i hi e with ⟨h3,h4⟩ | ⟨h3,h4⟩
  ·rw [zfv hq (by omega) h3,h4]
  ·rw [zey (fun j hj=>h3 j (by omega)),h4]
 ·rw [zey e]
  rcases h2 e with ⟨i,hi,h3,h4⟩ | ⟨h3,h4⟩
  ·rw [zfv hq (by omega) h3,h4]
  ·rw [zey (fun j hj=>h3 j (by omega)),h4]
def nb (fr:List Fr):Nat:=fr.countP fun x=>!decide x.idle
theorem zmE {fr:List Fr} {i:Nat} (hi:i<fr.length) (x:Fr):nb (fr.set i x)+(if (fr.getD i F0).idle then 0 else 1)=nb fr+(if x.idle then 0 else 1):=by
 unfold nb
 have e:fr.getD i F0=fr[i]:=by simp [List.getD,List.getElem?_eq_getElem hi]
 rw [e]
 have h:=List.countP_set (p:=fun x:Fr=>!decide x.idle) (l:=fr) (a:=x) hi
 rw [h]
 by_cases q1:fr[i].idle
 ·by_cases q2:x.idle
  ·simp [q1,q2]
  ·simp [q1,q2]
 ·have hpos:0<fr.countP fun x=>!decide x.idle:=List.countP_pos_iff.2 ⟨fr[i],List.getElem_mem hi,by simp [q1]⟩
  by_cases q2:x.idle
  ·simp [q1,q2];omega
  ·simp [q1,q2];omega
theorem zkH {fr:List Fr} (h:nb fr<fr.length):∃ i,i<fr.length∧(fr.getD i F0).idle:=by
 by_cases q:∃ i,i<fr.length∧(fr.getD i F0).idle
 ·exact q
 ·exfalso
  have:nb fr=fr.length:=by
   unfold nb
   rw [List.countP_eq_length]
   intro x hx
   obtain ⟨i,hi,rfl⟩:=List.mem_iff_getElem.1 hx
   have e:fr.getD i F0=fr[i]:=by simp [List.getD,List.getElem?_eq_getElem hi]
   have hn : ¬ fr[i].idle:=fun h=>q ⟨i,hi,by rw [e];exact h⟩
   simp [hn]
  omega
theorem zjD {fr:List Fr}:∀ i,(∃ j,j<i∧(fr.getD j F0).idle)→0≤bestF fr i
 | 0,⟨j,hj,_⟩=>absurd hj (Nat.not_lt_zero _)
 | i+1,⟨j,hj,h⟩=>by
  unfold bestF
  split
  ·omega
  ·rename_i q
   rcases Nat.lt_or_ge j i with hl | hl
   ·exact zjD i ⟨j,hl,h⟩
   ·obtain rfl:j=i:=by omega
    have:=zdS fr j
    by_cases hb:bestF fr j<0
    ·exact absurd ⟨h,.inl hb⟩ q
    ·omega
theorem zf0 (fr:List Fr):∀ i,i≤fr.length→0≤bestF fr i→(fr.getD (bestF fr i).toNat F0).idle∧(bestF fr i).toNat<fr.length
 | 0,_,h=>by unfold bestF at h;omega
 | i+1,hi,h=>by
  have ih:=zf0 fr i (by omega)
  unfold bestF at h ⊢
  split
  ·rename_i q;rw [Int.toNat_natCast];exact ⟨q.1,by omega⟩
  ·rename_i q;rw [if_neg q] at h;exact ih h
structure Stays (p q:Pl):Prop where
  l:q.fr.length=p.fr.length
  z:q.d.size=p.d.size
  u:used q.d.ext=used p.d.ext
  n:∀ s,ns q.d s=ns p.d s
  v:∀ s (k:Nat),k<ns p.d s→vw q s (k:Int)=vw p s (k:Int)
theorem Stays.refl (p:Pl):Stays p p:=⟨rfl,rfl,rfl,fun _=>rfl,fun _ _ _=>rfl⟩
theorem Stays.trans {p q r:Pl} (h:Stays p q) (g:Stays q r):Stays p r:=⟨g.l.trans h.l,g.z.trans h.z,g.u.trans h.u,fun s=>(g.n s).trans (h.n s),fun s k hk=>(g.v s k (by rw [h.n];exact hk)).trans (h.v s k hk)⟩
end Sto
end
section
open Go.RowKit
open Mv Disk
set_option maxRecDepth 4000
namespace Sto
theorem zbz {s:ByteArray} {k:Int} {x:Fr} (h : ¬ isF s k x=true):isF s k x=false:=by simpa using h
theorem zeu (s:ByteArray) (k:Int):isF s k F0=false:=zbz fun h=>n0 (zan.1 h).1
theorem zs_ (s:ByteArray) (k:Int):isF s k F1=false:=zbz fun h=>n1 (zan.1 h).1
theorem Held.to {d d':D} {x:Fr} (h:Held d x) (hn:∀ s,ns d' s=ns d s) (hc:seen d' x.name x.sector=seen d x.name x.sector):Held d' x :=
 ⟨h.h,h.l,h.p0,h.p1,h.z,h.s0,by rw [hn];exact h.s1,fun e=>by rw [hc];exact h.c e⟩
theorem zta {p:Pl} {n:Nat} (hp:Ps p n) (hn:n<16384) {i:Nat} (hi:i<p.fr.length) (hh:(atF p i).holds) :
  ∃ q,wrP p i=(q,0)∧Ps q (n+1)∧Stays p q∧q.fr=p.fr.set i { atF p i with dirty:=false }∧seen q.d (atF p i).name (atF p i).sector=(atF p i).data∧(∀ s k,¬ isF s k (atF p i)=true→seen q.d s k=seen p.d s k):=by
 have hx:=zbT (hp.ok i hi) hh
 obtain ⟨k,hk⟩:=Int.eq_ofNat_of_zero_le hx.s0
 have hs1:=hx.s1
 rw [hk] at hs1
 obtain ⟨d',h1,h2,h3,h4,h5,h6⟩:=zff hp.d hn (s:=(atF p i).name) (k:=k) (by omega) hx.z
 have hne:∀ s j,¬ isF s j (atF p i)=true→seen d' s j=seen p.d s j:=fun s j h=>by
  rw [h6,if_neg]
  rintro ⟨a,b⟩
  exact h (zan.2 ⟨hh,by rw [hk];exact b,a⟩)
 have hsee:seen d' (atF p i).name (atF p i).sector=(atF p i).data:=by rw [h6,if_pos ⟨rfl,hk.symm⟩]
 have hwr:wrP p i=({ p with d:=d',writes:=up1 p.writes,fr:=p.fr.set i { atF p i with dirty:=false } },0):=by
  unfold wrP
  rw [hk,h1];simp
 obtain ⟨q,hq⟩ : ∃ q:Pl,q = { p with d:=d',writes:=up1 p.writes,fr:=p.fr.set i { atF p i with dirty:=false } }:=⟨_,rfl⟩
 rw [← hq] at hwr
 have qd:q.d=d':=by rw [hq]
 have qf:q.fr=p.fr.set i { atF p i with dirty:=false }:=by rw [hq]
 have ql:q.fr.length=p.fr.length:=by rw [qf,List.length_set]
 have qa:∀ j,atF q j=if i=j then { atF p i with dirty:=false } else atF p j:=fun j=>by
  have:=zaR (p:=p) (i:=i) (j:=j) { atF p i with dirty:=false } hi
  unfold atF setP at this
  unfold atF
  rw [qf];exact this
 have hsm:∀ j,j<p.fr.length→i≠j→(atF p j).holds → ¬ isF (atF p j).name (atF p j).sector (atF p i)=true:=fun j hj hij hjh h=>by
  obtain ⟨_,b,c⟩:=zan.1 h
  exact hp.ap i j hi hj hij ⟨hh,hjh,c,b⟩
 have hps:Ps q (n+1):=by
  refine ⟨by rw [qd];exact h2,fun j hj=>?_,fun a b ha hb hab=>?_,by rw [ql];exact hp.l1,by rw [ql];exact hp.l2⟩
  ·rw [qa,qd]
   by_cases e:i=j
   ·rw [if_pos e]
    exact .inr (.inr ⟨hh,hx.l,hx.p0,hx.p1,hx.z,hx.s0,by show _<((ns d' (atF p i).name:Nat):Int);rw [h5];exact hx.s1,fun _=>hsee.symm⟩)
   ·rw [if_neg e]
    rcases hp.ok j (by omega) with h | h | h
    ·exact .inl h
    ·exact .inr (.inl h)
    ·exact .inr (.inr (h.to h5 (hne _ _ (hsm j (by omega) e h.h))))
  ·rw [qa,qa]
   have hap:=hp.ap a b (by omega) (by omega) hab
   by_cases ea:i=a
   ·rw [if_pos ea]
    by_cases eb:i=b
    ·exact absurd (ea.symm.trans eb) hab
    ·rw [if_neg eb];subst ea;exact hap
   ·rw [if_neg ea]
    by_cases eb:i=b
    ·rw [if_pos eb];subst eb;exact hap
    ·rw [if_neg eb];exact hap
 refine ⟨q,hwr,hps,⟨ql,by rw [qd,h3],by rw [qd,h4],fun s=>by rw [qd,h5],fun s j hj=>?_⟩,qf,by rw [qd];exact hsee,fun s j h=>by rw [qd];exact hne s j h⟩
 refine zgF hp hps ql (fun j hj h=>.inl ?_) (fun h=>.inr ⟨fun j hj=>?_,?_⟩)
 ·rw [qa]
  by_cases e:i=j
  ·rw [if_pos e];subst e;exact ⟨h,rfl⟩
  ·rw [if_neg e];exact ⟨h,rfl⟩
 ·rw [qa]
  by_cases e:i=j
  ·rw [if_pos e];exact h i hi
  ·rw [if_neg e];exact h j hj
 ·rw [qd];exact hne _ _ (by rw [h i hi];simp)
theorem zfi {p:Pl} {n:Nat} (hp:Ps p n) {i:Nat} (hi:i<p.fr.length) (hc:(atF p i).holds→seen p.d (atF p i).name (atF p i).sector=(atF p i).data):Ps (setP p i F0) n∧Stays p (setP p i F0):=by
 have hps:Ps (setP p i F0) n:=hp.set hi (.inl rfl) fun j hj hne h=>n0 h.2.1
 refine ⟨hps,⟨zbG _,rfl,rfl,fun _=>rfl,fun s j hj=>?_⟩⟩
 refine zgF hp hps (zbG _) (fun a ha h=>?_) (fun h=>.inr ⟨fun a ha=>?_,rfl⟩)
 ·by_cases e:i=a
  ·subst e
   obtain ⟨b1,b2,b3⟩:=zan.1 h
   refine .inr ⟨fun b hb=>?_,?_⟩
   ·rw [zaR _ hi]
    by_cases eb:i=b
    ·rw [if_pos eb];exact zeu _ _
    ·rw [if_neg eb]
     refine zbz fun hb2=>?_
     obtain ⟨c1,c2,c3⟩:=zan.1 hb2
     exact hp.ap i b hi hb eb ⟨b1,c1,b3.trans c3.symm,b2.trans c2.symm⟩
   ·have:=hc b1
    rw [b2,b3] at this
    exact this
  ·exact .inl (by rw [zaR _ hi,if_neg e];exact ⟨h,rfl⟩)
 ·rw [zaR _ hi]
  by_cases e:i=a
  ·rw [if_pos e];exact zeu _ _
  ·rw [if_neg e];exact h a ha
theorem zrh {p:Pl} {n:Nat} (hp:Ps p n) (hn:n<16384) (hb:nb p.fr<p.fr.length) :
  ∃ q i,takeP p=(q,i,0)∧i<p.fr.length∧Ps q (n+1)∧Stays p q∧(atF p i).idle∧q.fr=p.fr.set i F0:=by
 obtain ⟨i0,hi0,hid0⟩:=zkH hb
 unfold takeP
 by_cases q1:p.fr.findIdx (fun x=>decide (x=F0))<p.fr.length
 ·rw [if_pos q1]
  have he:=List.findIdx_getElem (w:=q1)
  simp only [decide_eq_true_eq] at he
  refine ⟨p,_,rfl,q1,⟨hp.d.mono (by omega),hp.ok,hp.ap,hp.l1,hp.l2⟩,Stays.refl p,.inl (by rw [zaP q1];exact he),?_⟩
  have hs:=List.set_getElem_self q1
  rw [he] at hs
  exact hs.symm
 ·rw [if_neg q1]
  have hbp:0≤bestF p.fr p.fr.length:=zjD _ ⟨i0,hi0,hid0⟩
  obtain ⟨hid,hlt⟩:=zf0 p.fr p.fr.length (Nat.le_refl _) hbp
  rw [if_neg (by omega)]
  generalize (bestF p.fr p.fr.length).toNat=m at *
  have hid':(atF p m).idle:=hid
  have hh:(atF p m).holds:=by
   rcases hid' with h | h
   ·exfalso
    exact q1 (List.findIdx_lt_length_of_exists ⟨p.fr[m],List.getElem_mem hlt,by rw [← zaP hlt,h];simp⟩)
   ·exact h.1
  by_cases q3:(atF p m).dirty=true
  ·rw [if_pos q3]
   obtain ⟨q,h1,h2,h3,h4,h5,_⟩:=zta hp hn hlt hh
   rw [h1,if_pos rfl]
   have hml:m<q.fr.length:=by rw [h3.l];exact hlt
   have hqa:atF q m = { atF p m with dirty:=false }:=by
    show q.fr.getD m F0=_
    rw [h4,List.getD_eq_getElem?_getD,List.getElem?_set,if_pos rfl,if_pos hlt];rfl
   obtain ⟨g1,g2⟩:=zfi h2 hml (fun _=>by rw [hqa];exact h5)
   exact ⟨_,m,rfl,hlt,g1,h3.trans g2,hid',by unfold setP;simp only [h4,List.set_set]⟩
  ·rw [if_neg q3]
   obtain ⟨g1,g2⟩:=zfi hp hlt (fun _=>((zbT (hp.ok m hlt) hh).c (by simpa using q3)).symm)
   exact ⟨_,m,rfl,hlt,⟨g1.d.mono (by omega),g1.ok,g1.ap,g1.l1,g1.l2⟩,g2,hid',rfl⟩
theorem zri {s:ByteArray} {k:Int} {data:ByteArray} (h:s.size≠0):isF s k (newF s k data)=true:=zan.2 ⟨h,rfl,rfl⟩
theorem zhA {x:Fr} (h:x.idle):x.pins=0:=by
 rcases h with rfl | h
 ·rfl
 ·exact h.2
theorem zrj {x:Fr} (h:0<x.pins) : ¬ x.idle:=fun e=>by have:=zhA e;omega
theorem zrk {p:Pl} {n:Nat} (hp:Ps p n) {s:ByteArray} (h:0<ns p.d s):s.size≠0:=by
 have hh:=(zdR hp.d s).2 h
 obtain ⟨hm,hn⟩:=zbk hp.d.r.ex.asc hh
 have:=(hp.d.r.ex.ok _ hm).1.1
 rwa [hn] at this
theorem zmF {p:Pl} {n:Nat} (hp:Ps p n) {i:Nat} (hi:i<p.fr.length) (hh:(atF p i).holds) (hb:(atF p i).pins<200) :
  Ps (pin1 p i) n∧Stays p (pin1 p i)∧(∀ j,atF (pin1 p i) j=if i=j then { atF p i with tick:=up1 p.tick,pins:=(atF p i).pins+1 } else atF p j):=by
 have hx:=zbT (hp.ok i hi) hh
 obtain ⟨x,hxe⟩ : ∃ x:Fr,x = { atF p i with tick:=up1 p.tick,pins:=(atF p i).pins+1 }:=⟨_,rfl⟩
 have hxh:Held p.d x:=by
  rw [hxe]
  exact ⟨hx.h,hx.l,by have:=hx.p0;show 0≤_+1;omega,by show _+1≤(200:Int);omega,hx.z,hx.s0,hx.s1,hx.c⟩
 have hsm:∀ j,j<p.fr.length→j≠i → ¬ same (atF p j) x:=fun j hj hne h=>by
  rw [hxe] at h
  exact hp.ap j i hj hi hne ⟨h.1,hh,h.2.2.1,h.2.2.2⟩
 have hps:=hp.set hi (.inr (.inr hxh)) hsm
 have he:pin1 p i = { setP p i x with tick:=up1 p.tick }:=by unfold pin1 setP;rw [hxe]
 have ha:∀ j,atF (pin1 p i) j=if i=j then x else atF p j:=fun j=>by rw [he];exact zaR x hi
 have hps':Ps (pin1 p i) n:=by rw [he];exact ⟨hps.d,hps.ok,hps.ap,hps.l1,hps.l2⟩
 have hl:(pin1 p i).fr.length=p.fr.length:=by rw [he];exact zbG x
 refine ⟨hps',⟨hl,by rw [he];rfl,by rw [he];rfl,fun s=>by rw [he];rfl,fun s k hk=>?_⟩,fun j=>by rw [ha,hxe]⟩
 refine zgF hp hps' hl (fun j hj h=>.inl ?_) (fun h=>.inr ⟨fun j hj=>?_,by rw [he];rfl⟩)
 ·rw [ha]
  by_cases e:i=j
  ·rw [if_pos e];subst e;rw [hxe];exact ⟨h,rfl⟩
  ·rw [if_neg e];exact ⟨h,rfl⟩
 ·rw [ha]
  by_cases e:i=j
  ·rw [if_pos e,hxe];subst e;exact h i hi
  ·rw [if_neg e];exact h j hj
theorem ztb {p:Pl} {n:Nat} (hp:Ps p n) (hn:n<16384) (hb:nb p.fr<p.fr.length) {s:ByteArray} {k:Nat} (hk:k<ns p.d s) (hpn:∀ i,i<p.fr.length→isF s (k:Int) (atF p i)=true→(atF p i).pins<200) :
  ∃ q i,pinP p s (k:Int)=(q,i,0)∧i<p.fr.length∧Ps q (n+1)∧Stays p q∧isF s (k:Int) (atF q i)=true∧(atF q i).data=vw p s (k:Int)∧(atF q i).pins=(if isF s (k:Int) (atF p i)=true then (atF p i).pins else 0)+1∧(∀ j,j≠i→atF q j=atF p j)∧nb q.fr≤nb p.fr+1∧(isF s (k:Int) (atF p i)=true∨(atF p i).idle):=by
 have hs0:=zrk hp (show 0<ns p.d s by omega)
 have hone:∀ {fr:List Fr} {j:Nat} (hj:j<fr.length) (x:Fr),nb (fr.set j x)≤nb fr+1:=fun hj x=>by
  have:=zmE hj x
  split at this <;> split at this <;> omega
 unfold pinP
 by_cases q1:p.fr.findIdx (isF s (k:Int))<p.fr.length
 ·rw [if_pos q1]
  have hf:=zgE q1
  generalize p.fr.findIdx (isF s (k:Int))=i at *
  have hlt:=hpn i q1 hf
  rw [if_neg (by omega)]
  obtain ⟨g1,g2,g3⟩:=zmF hp q1 (zan.1 hf).1 hlt
  refine ⟨_,i,rfl,q1,⟨g1.d.mono (by omega),g1.ok,g1.ap,g1.l1,g1.l2⟩,g2,by rw [g3,if_pos rfl];exact hf,by rw [g3,if_pos rfl,zfv hp q1 hf],by rw [g3,if_pos rfl,if_pos hf],fun j hne=>by rw [g3,if_neg (fun e=>hne e.symm)],?_,.inl hf⟩
  exact hone q1 _
 ·rw [if_neg q1,zo1 hk,if_neg (by simp)]
  obtain ⟨q,i,h1,h2,h3,h4,h5,h6⟩:=zrh hp hn hb
  have hno:∀ j,j<p.fr.length→isF s (k:Int) (atF p j)=false:=fun j hj=>by
   cases e:isF s (k:Int) (atF p j) with
   | false=>rfl
   | true=>exact absurd (List.findIdx_lt_length_of_exists ⟨p.fr[j],List.getElem_mem hj,by rw [← zaP hj];exact e⟩) q1
  have hqa:∀ j,atF q j=if i=j then F0 else atF p j:=fun j=>by
   have:=zaR (p:=p) (i:=i) (j:=j) F0 h2
   unfold atF setP at this
   unfold atF
   rw [h6];exact this
  have hqno:∀ j,j<q.fr.length→isF s (k:Int) (atF q j)=false:=fun j hj=>by
   rw [hqa]
   by_cases e:i=j
   ·rw [if_pos e];exact zeu _ _
   ·rw [if_neg e];exact hno j (by rw [h4.l] at hj;exact hj)
  have hsee:seen q.d s (k:Int)=seen p.d s (k:Int):=by
   have:=h4.v s k hk
   rwa [zey hqno,zey hno] at this
  rw [h1]
  simp only
  rw [if_neg (by simp)]
  have hil:i<q.fr.length:=by rw [h4.l];exact h2
  have hnf:Held q.d (newF s (k:Int) (seen p.d s (k:Int))):=⟨hs0,rfl,Int.le_refl _,(show (0:Int)≤200 by decide),zhy hp.d hk,by show (0:Int)≤(k:Int);omega,by show (k:Int)<((ns q.d s:Nat):Int);rw [h4.n];omega,fun _=>hsee.symm⟩
  have hsm:∀ j,j<q.fr.length→j≠i → ¬ same (atF q j) (newF s (k:Int) (seen p.d s (k:Int))):=fun j hj hne h=>by
   have:=hqno j hj
   have h':isF s (k:Int) (atF q j)=true:=zan.2 ⟨h.1,h.2.2.2,h.2.2.1⟩
   rw [h'] at this;cases this
  have hps:=h3.set hil (.inr (.inr hnf)) hsm
  have hsa:∀ j,atF (setP q i (newF s (k:Int) (seen p.d s (k:Int)))) j=if i=j then newF s (k:Int) (seen p.d s (k:Int)) else atF q j:=fun j=>zaR _ hil
  have hst:Stays q (setP q i (newF s (k:Int) (seen p.d s (k:Int)))):=by
   refine ⟨zbG _,rfl,rfl,fun _=>rfl,fun o j hj=>?_⟩
   refine zgF h3 hps (zbG _) (fun a ha h=>.inl ?_) (fun h=>?_)
   ·rw [hsa]
    by_cases e:i=a
    ·exfalso
     subst e
     rw [hqa,if_pos rfl,zeu] at h;cases h
    ·rw [if_neg e];exact ⟨h,rfl⟩
   ·by_cases e:s=o∧(k:Int)=(j:Int)
    ·obtain ⟨rfl,e2⟩:=e
     refine .inl ⟨i,hil,?_,?_⟩
     ·rw [hsa,if_pos rfl,← e2];exact zri hs0
     ·rw [hsa,if_pos rfl,← e2,hsee];rfl
    ·refine .inr ⟨fun a ha=>?_,rfl⟩
     rw [hsa]
     by_cases e2:i=a
     ·rw [if_pos e2]
      exact zbz fun h=>e ⟨(zan.1 h).2.2,(zan.1 h).2.1⟩
     ·rw [if_neg e2];exact h a ha
  obtain ⟨r,hr⟩ : ∃ r:Pl,r = { setP q i (newF s (k:Int) (seen p.d s (k:Int))) with reads:=up1 q.reads }:=⟨_,rfl⟩
  rw [← hr]
  have hra:∀ j,atF r j=if i=j then newF s (k:Int) (seen p.d s (k:Int)) else atF q j:=fun j=>by rw [hr];exact hsa j
  have hrp:Ps r (n+1):=by rw [hr];exact ⟨hps.d,hps.ok,hps.ap,hps.l1,hps.l2⟩
  have hrs:Stays q r:=by rw [hr];exact ⟨hst.l,hst.z,hst.u,hst.n,hst.v⟩
  have hrl:i<r.fr.length:=by rw [hrs.l];exact hil
  obtain ⟨g1,g2,g3⟩:=zmF hrp hrl (by rw [hra,if_pos rfl];exact hs0) (by rw [hra,if_pos rfl];exact (show (0:Int)<200 by decide))
  have hrf:r.fr=p.fr.set i (newF s (k:Int) (seen p.d s (k:Int))):=by rw [hr];show q.fr.set i _=_;rw [h6,List.set_set]
  refine ⟨_,i,rfl,h2,g1,(h4.trans hrs).trans g2,?_,?_,?_,fun j hne=>?_,?_,.inr h5⟩
  ·rw [g3,if_pos rfl,hra,if_pos rfl];exact zan.2 ⟨hs0,rfl,rfl⟩
  ·rw [g3,if_pos rfl,hra,if_pos rfl,zey hno];rfl
  ·rw [g3,if_pos rfl,hra,if_pos rfl,hno i h2];rfl
  ·rw [g3,if_neg (fun e=>hne e.symm),hra,if_neg (fun e=>hne e.symm),hqa,if_neg (fun e=>hne e.symm)]
  ·have:(pin1 r i).fr=p.fr.set i { atF r i with tick:=up1 r.tick,pins:=(atF r i).pins+1 }:=by unfold pin1;simp only [hrf,List.set_set]
   rw [this];exact hone h2 _
theorem zqo {p:Pl} {n:Nat} (hp:Ps p n) {i:Nat} (hi:i<p.fr.length) {x:Fr} (hx:Held p.d x) (hh:(atF p i).holds) (hn:x.name=(atF p i).name) (hs:x.sector=(atF p i).sector) :
  Ps (setP p i x) n ∧ ∀ s (k:Nat),k<ns p.d s→vw (setP p i x) s (k:Int)=if isF s (k:Int) x=true then x.data else vw p s (k:Int):=by
 have hsm:∀ j,j<p.fr.length→j≠i → ¬ same (atF p j) x:=fun j hj hne h=>hp.ap j i hj hi hne ⟨h.1,hh,h.2.2.1.trans hn,h.2.2.2.trans hs⟩
 have hps:=hp.set hi (.inr (.inr hx)) hsm
 refine ⟨hps,fun s k hk=>?_⟩
 by_cases e:isF s (k:Int) x=true
 ·rw [if_pos e,zfv hps (i:=i) (by rw [zbG];exact hi) (by rw [zaR x hi,if_pos rfl];exact e),zaR x hi,if_pos rfl]
 ·rw [if_neg e]
  have hne : ¬ isF s (k:Int) (atF p i)=true:=fun h=>e (by
   obtain ⟨_,b,c⟩:=zan.1 h
   exact zan.2 ⟨hx.h,by rw [hs];exact b,by rw [hn];exact c⟩)
  refine zgF hp hps (zbG _) (fun j hj h=>.inl ?_) (fun h=>.inr ⟨fun j hj=>?_,rfl⟩)
  ·rw [zaR x hi]
   by_cases e2:i=j
   ·subst e2;exact absurd h hne
   ·rw [if_neg e2];exact ⟨h,rfl⟩
  ·rw [zaR x hi]
   by_cases e2:i=j
   ·rw [if_pos e2];exact zbz e
   ·rw [if_neg e2];exact h j hj
end Sto
end
section
open Go.RowKit
open Mv Disk
set_option maxRecDepth 4000
namespace Sto
theorem zda {x:Fr} (h:x.holds):x.idle ↔ x.pins=0:=⟨zhA,fun e=>.inr ⟨h,e⟩⟩
theorem zjE (p:Pl) (i:Nat):p.fr.getD i F0=atF p i:=rfl
theorem zo3 {p:Pl} {n:Nat} (hp:Ps p n) {i:Nat} (hi:i<p.fr.length) {s:ByteArray} {k:Int} (hf:isF s k (atF p i)=true) (h1:1≤(atF p i).pins) :
  ∃ q,zfZ p (i:Int)=(q,0)∧Ps q n∧Stays p q∧isF s k (atF q i)=true∧(atF q i).pins=(atF p i).pins-1∧(∀ j,j≠i→atF q j=atF p j)∧nb q.fr≤nb p.fr∧((atF p i).pins=1→nb q.fr+1=nb p.fr):=by
 obtain ⟨hh,hk,hn⟩:=zan.1 hf
 have hx:=zbT (hp.ok i hi) hh
 obtain ⟨x,hxe⟩ : ∃ x:Fr,x = { atF p i with pins:=(atF p i).pins-1 }:=⟨_,rfl⟩
 have hxh:Held p.d x:=by rw [hxe];exact ⟨hx.h,hx.l,by show 0≤_-1;omega,by have:=hx.p1;show _-1≤(200:Int);omega,hx.z,hx.s0,hx.s1,hx.c⟩
 have hxf:isF s k x=true:=by rw [hxe];exact hf
 obtain ⟨g1,g2⟩:=zqo hp hi hxh hh (by rw [hxe]) (by rw [hxe])
 have hu:zfZ p (i:Int)=(setP p i x,0):=by
  unfold zfZ
  rw [if_neg (by omega),Int.toNat_natCast,if_neg (by omega),hxe]
 have hst:Stays p (setP p i x):=⟨zbG _,rfl,rfl,fun _=>rfl,fun o j hj=>by
  rw [g2 o j hj]
  by_cases e:isF o (j:Int) x=true
  ·rw [if_pos e,zfv hp hi (s:=o) (k:=(j:Int)) (by rw [hxe] at e;exact e),hxe]
  ·rw [if_neg e]⟩
 have hnb:=zmE hi x
 rw [zjE] at hnb
 have e1:=zda hh
 have e2:=zda hxh.h
 have hxp:x.pins=(atF p i).pins-1:=by rw [hxe]
 refine ⟨setP p i x,hu,g1,hst,by rw [zaR x hi,if_pos rfl];exact hxf,by rw [zaR x hi,if_pos rfl,hxp],fun j hj=>by rw [zaR x hi,if_neg (fun e=>hj e.symm)],?_,fun hp1=>?_⟩
 ·show nb (p.fr.set i x)≤_
  rw [if_neg (fun e=>by have:=e1.1 e;omega)] at hnb
  split at hnb <;> omega
 ·show nb (p.fr.set i x)+1=_
  rw [if_neg (fun e=>by have:=e1.1 e;omega),if_pos (e2.2 (by omega))] at hnb
  omega
theorem zkI {t u:ByteArray} {a:Nat} (ht:t.size=64) (ha:a+u.size≤64):(fillS t (a:Int) u).size=64:=by
 unfold fillS
 rw [ByteArray.size_append,ByteArray.size_append,ByteArray.size_extract,ByteArray.size_extract,Int.toNat_natCast]
 omega
theorem zrl {p:Pl} {n:Nat} (hp:Ps p n) {i:Nat} (hi:i<p.fr.length) {s:ByteArray} {k:Nat} (hf:isF s (k:Int) (atF p i)=true) (h1:1≤(atF p i).pins) {u:ByteArray} {a:Nat} (ha:a+u.size≤64) :
  ∃ q,fillP p (i:Int) (a:Int) u=(q,0)∧Ps q n∧q.fr.length=p.fr.length∧q.d=p.d∧isF s (k:Int) (atF q i)=true∧(atF q i).pins=(atF p i).pins∧(∀ j,j≠i→atF q j=atF p j)∧nb q.fr=nb p.fr∧(∀ o (j:Nat),j<ns p.d o→vw q o (j:Int)=if s=o∧k=j then fillS (vw p s (k:Int)) (a:Int) u else vw p o (j:Int)):=by
 obtain ⟨hh,hk,hn⟩:=zan.1 hf
 have hx:=zbT (hp.ok i hi) hh
 obtain ⟨x,hxe⟩ : ∃ x:Fr,x = { atF p i with data:=fillS (atF p i).data (a:Int) u,dirty:=true }:=⟨_,rfl⟩
 have hxh:Held p.d x:=by rw [hxe];exact ⟨hx.h,hx.l,hx.p0,hx.p1,zkI hx.z ha,hx.s0,hx.s1,fun e=>by cases e⟩
 have hxf:isF s (k:Int) x=true:=by rw [hxe];exact hf
 obtain ⟨g1,g2⟩:=zqo hp hi hxh hh (by rw [hxe]) (by rw [hxe])
 have hu:fillP p (i:Int) (a:Int) u=(setP p i x,0):=by
  have h0:pinnedP p (i:Int) (a:Int) (u.size:Int)=0:=by
   unfold pinnedP
   rw [if_neg (by omega),Int.toNat_natCast,if_neg (by omega)]
  unfold fillP
  rw [if_pos h0,Int.toNat_natCast,hxe]
 have hnb:=zmE hi x
 rw [zjE] at hnb
 have e1:=zda hh
 have e2:=zda hxh.h
 have hxp:x.pins=(atF p i).pins:=by rw [hxe]
 refine ⟨setP p i x,hu,g1,zbG _,rfl,by rw [zaR x hi,if_pos rfl];exact hxf,by rw [zaR x hi,if_pos rfl,hxp],fun j hj=>by rw [zaR x hi,if_neg (fun e=>hj e.symm)],?_,fun o j hj=>?_⟩
 ·show nb (p.fr.set i x)=_
  rw [if_neg (fun e=>by have:=e1.1 e;omega),if_neg (fun e=>by have:=e2.1 e;omega)] at hnb
  omega
 ·rw [g2 o j hj]
  by_cases e:s=o∧k=j
  ·obtain ⟨rfl,rfl⟩:=e
   rw [if_pos hxf,if_pos ⟨rfl,rfl⟩,zfv hp hi hf,hxe]
  ·rw [if_neg e,if_neg (fun h=>e ?_)]
   obtain ⟨_,b,c⟩:=zan.1 h
   obtain ⟨_,b',c'⟩:=zan.1 hxf
   exact ⟨c'.symm.trans c,by have:=b'.symm.trans b;omega⟩
theorem ztc : ¬ F1.idle:=fun h=>by
 rcases h with h | h
 ·cases h
 ·exact h.1 rfl
theorem ztd {p:Pl} {n:Nat} (hp:Ps p n) (i:Int):∃ q e,ret1 p i=(q,e)∧Ps q n∧Stays p q:=by
 unfold ret1
 by_cases q1:i<0∨(p.fr.length:Int)≤i
 ·rw [if_pos q1];exact ⟨p,1,rfl,hp,Stays.refl p⟩
 ·rw [if_neg q1]
  obtain ⟨j,rfl⟩:=Int.eq_ofNat_of_zero_le (show 0≤i by omega)
  rw [Int.toNat_natCast]
  by_cases q2:(atF p j).leased=false
  ·rw [if_pos q2];exact ⟨p,11,rfl,hp,Stays.refl p⟩
  ·rw [if_neg q2]
   have hi:j<p.fr.length:=by omega
   obtain ⟨g1,g2⟩:=zfi hp hi (fun hh=>absurd (zbT (hp.ok j hi) hh).l q2)
   exact ⟨_,0,rfl,g1,g2⟩
end Sto
end
section
open Go.RowKit
open Mv Disk
set_option maxRecDepth 4000
namespace Sto
def Alike (p q:Pl):Prop:=∀ j,j<p.fr.length→(atF q j).name=(atF p j).name∧(atF q j).sector=(atF p j).sector∧(atF q j).pins=(atF p j).pins∧(atF q j).leased=(atF p j).leased∧(atF q j).data=(atF p j).data
theorem Alike.refl (p:Pl):Alike p p:=fun _ _=>⟨rfl,rfl,rfl,rfl,rfl⟩
theorem Alike.trans {p q r:Pl} (h:Alike p q) (g:Alike q r) (hl:q.fr.length=p.fr.length):Alike p r:=fun j hj=>by
 obtain ⟨a1,a2,a3,a4,a5⟩:=h j hj
 obtain ⟨b1,b2,b3,b4,b5⟩:=g j (by omega)
 exact ⟨b1.trans a1,b2.trans a2,b3.trans a3,b4.trans a4,b5.trans a5⟩
theorem zfj:∀ (m i:Nat) {p:Pl} {n:Nat},Ps p n→n+m≤16384→i+m=p.fr.length →
  ∃ q,flushN p i m=(q,0)∧Ps q (n+m)∧Stays p q∧Alike p q∧(∀ j,i≤j→j<p.fr.length→(atF q j).dirty=false) ∧ ∀ j,j<i→(atF q j).dirty=(atF p j).dirty
 | 0,i,p,n,hp,_,hi=>⟨p,rfl,hp,Stays.refl p,Alike.refl p,fun j h1 h2=>by omega,fun _ _=>rfl⟩
 | m+1,i,p,n,hp,hn,hi=>by
  unfold flushN
  by_cases q1:(atF p i).dirty=true
  ·rw [if_pos q1]
   have hlt:i<p.fr.length:=by omega
   have hh:(atF p i).holds:=by
    rcases hp.ok i hlt with h | h | h
    ·rw [h] at q1;cases q1
    ·rw [h] at q1;cases q1
    ·exact h.h
   obtain ⟨q,h1,h2,h3,h4,_,_⟩:=zta hp (by omega) hlt hh
   rw [h1,if_pos rfl]
   have hqa:∀ j,atF q j=if i=j then { atF p i with dirty:=false } else atF p j:=fun j=>by
    have:=zaR (p:=p) (i:=i) (j:=j) { atF p i with dirty:=false } hlt
    unfold atF setP at this
    unfold atF
    rw [h4];exact this
   obtain ⟨r,g1,g2,g3,g4,g5,g6⟩:=zfj m (i+1) h2 (by omega) (by rw [h3.l];omega)
   refine ⟨r,g1,by rw [show n+(m+1)=n+1+m by omega];exact g2,h3.trans g3,Alike.trans (fun j hj=>?_) g4 h3.l,fun j hj hj2=>?_,fun j hj=>?_⟩
   ·rw [hqa]
    by_cases e:i=j
    ·rw [if_pos e];subst e;exact ⟨rfl,rfl,rfl,rfl,rfl⟩
    ·rw [if_neg e];exact ⟨rfl,rfl,rfl,rfl,rfl⟩
   ·by_cases e:i=j
    ·rw [g6 j (by omega),hqa,if_pos e]
    ·exact g5 j (by omega) (by rw [h3.l];exact hj2)
   ·rw [g6 j (by omega),hqa,if_neg (by omega)]
  ·rw [if_neg q1]
   obtain ⟨r,g1,g2,g3,g4,g5,g6⟩:=zfj m (i+1) (p:=p) (n:=n) hp (by omega) (by omega)
   refine ⟨r,g1,⟨g2.d.mono (by omega),g2.ok,g2.ap,g2.l1,g2.l2⟩,g3,g4,fun j hj hj2=>?_,fun j hj=>g6 j (by omega)⟩
   by_cases e:i=j
   ·rw [g6 j (by omega),← e];simpa using q1
   ·exact g5 j (by omega) hj2
theorem zmG {p:Pl} {n:Nat} (hp:Ps p n):Ps { p with d:=settleD p.d fun _=>true } 0∧Stays p { p with d:=settleD p.d fun _=>true }:=by
 obtain ⟨h1,h2,h3,h4,h5⟩:=zfg hp.d
 have hat:∀ j,atF { p with d:=settleD p.d fun _=>true } j=atF p j:=fun _=>rfl
 have hps:Ps { p with d:=settleD p.d fun _=>true } 0:=⟨h1,fun i hi=>by
  rcases hp.ok i hi with h | h | h
  ·exact .inl h
  ·exact .inr (.inl h)
  ·refine .inr (.inr (h.to h4 ?_))
   obtain ⟨k,hk⟩:=Int.eq_ofNat_of_zero_le h.s0
   have:=h.s1
   rw [hk] at this ⊢
   exact h5 _ k (by omega),hp.ap,hp.l1,hp.l2⟩
 exact ⟨hps,⟨rfl,h2,h3,h4,fun s k hk=>zgF hp hps rfl (fun i hi h=>.inl ⟨h,rfl⟩) (fun h=>.inr ⟨h,h5 s k hk⟩)⟩⟩
theorem zo4 {p:Pl} {n:Nat} (hp:Ps p n) (hn:n+p.fr.length≤16384) :
  ∃ q,flushP p=(q,0)∧Ps q 0∧Stays p q∧Alike p q ∧ ∀ j,j<p.fr.length→(atF q j).dirty=false:=by
 obtain ⟨q,h1,h2,h3,h4,h5,_⟩:=zfj p.fr.length 0 hp hn (Nat.zero_add _)
 obtain ⟨g1,g2⟩:=zmG h2
 refine ⟨{ q with d:=settleD q.d fun _=>true },?_,g1,h3.trans g2,h4,fun j hj=>h5 j (Nat.zero_le _) hj⟩
 unfold flushP
 rw [h1,if_pos rfl]
theorem zo5 {p q:Pl} (h:Alike p q) (hl:q.fr.length=p.fr.length) {n m:Nat} (hp:Ps p n) (hq:Ps q m):nb q.fr=nb p.fr:=by
 have key:∀ j,j<p.fr.length→((atF q j).idle ↔ (atF p j).idle):=fun j hj=>by
  obtain ⟨a1,a2,a3,a4,_⟩:=h j hj
  have h1:=hp.ok j hj
  have h2:=hq.ok j (by omega)
  by_cases hh:(atF p j).holds
  ·have hh2:(atF q j).holds:=by unfold Fr.holds at hh ⊢;rw [a1];exact hh
   rw [zda hh,zda hh2,a3]
  ·have hh2 : ¬ (atF q j).holds:=by unfold Fr.holds at hh ⊢;rw [a1];exact hh
   rcases h1 with h1 | h1 | h1
   ·rcases h2 with h2 | h2 | h2
    ·rw [h1,h2]
    ·rw [h1,h2] at a4;cases a4
    ·exact absurd h2.h hh2
   ·rcases h2 with h2 | h2 | h2
    ·rw [h1,h2] at a4;cases a4
    ·rw [h1,h2]
    ·exact absurd h2.h hh2
   ·exact absurd h1.h hh
 unfold nb
 have e1:q.fr.countP (fun x=>!decide x.idle)=(List.range q.fr.length).countP (fun j=>!decide (atF q j).idle):=by
  conv=>lhs;rw [show q.fr=(List.range q.fr.length).map (fun j=>atF q j) from List.ext_getElem (by simp) fun i h1 h2=>by simp [zaP h1]]
  rw [List.countP_map];rfl
 have e2:p.fr.countP (fun x=>!decide x.idle)=(List.range p.fr.length).countP (fun j=>!decide (atF p j).idle):=by
  conv=>lhs;rw [show p.fr=(List.range p.fr.length).map (fun j=>atF p j) from List.ext_getElem (by simp) fun i h1 h2=>by simp [zaP h1]]
  rw [List.countP_map];rfl
 rw [e1,e2,hl]
 refine List.countP_congr fun j hj=>?_
 have:=key j (List.mem_range.1 hj)
 simp [this]
theorem zo6 {p:Pl} {n:Nat} (hp:Ps p n) (hn:n<16384) {s u:ByteArray} {k:Nat} (hk:k<ns p.d s) (hu:u.size=64) (hf:∀ i,i<p.fr.length→isF s (k:Int) (atF p i)=false) :
  ∃ d',writeD p.d s (k:Int) u=(d',0)∧Ps { p with d:=d' } (n+1)∧d'.size=p.d.size∧used d'.ext=used p.d.ext∧(∀ o,ns d' o=ns p.d o) ∧ ∀ o (j:Nat),j<ns p.d o→vw { p with d:=d' } o (j:Int)=if s=o∧k=j then u else vw p o (j:Int):=by
 obtain ⟨d',h1,h2,h3,h4,h5,h6⟩:=zff hp.d hn hk hu
 have hps:Ps { p with d:=d' } (n+1):=⟨h2,fun i hi=>by
  rcases hp.ok i hi with h | h | h
  ·exact .inl h
  ·exact .inr (.inl h)
  ·refine .inr (.inr (h.to h5 ?_))
   rw [h6,if_neg]
   rintro ⟨a,b⟩
   have g:isF s (k:Int) (atF p i)=true:=zan.2 ⟨h.h,b.symm,a.symm⟩
   have:=hf i hi
   rw [g] at this
   exact absurd this (by simp),hp.ap,hp.l1,hp.l2⟩
 refine ⟨d',h1,hps,h3,by rw [h4],h5,fun o j hj=>?_⟩
 by_cases e:s=o∧k=j
 ·obtain ⟨rfl,rfl⟩:=e
  rw [if_pos ⟨rfl,rfl⟩,zey (p:={ p with d:=d' }) hf]
  show seen d' s (k:Int)=u
  rw [h6,if_pos ⟨rfl,rfl⟩]
 ·rw [if_neg e]
  refine zgF hp hps rfl (fun i hi h=>.inl ⟨h,rfl⟩) (fun h=>.inr ⟨h,?_⟩)
  show seen d' o (j:Int)=_
  rw [h6,if_neg (fun h=>e ⟨h.1,by omega⟩)]
theorem zmH {p:Pl} {n:Nat} (hp:Ps p n) {s:ByteArray} (h:∀ i,i<p.fr.length→ofN s (atF p i)=true→(atF p i).pins=0∧(atF p i).dirty=false) :
  ∃ q,dropP p s=(q,0)∧Ps q n∧Stays p q∧q.d=p.d∧(∀ j,j<p.fr.length→atF q j=if ofN s (atF p j)=true then F0 else atF p j):=by
 have h0 : ¬ p.fr.any (fun x=>ofN s x && decide (0<x.pins))=true:=fun e=>by
  obtain ⟨x,hx,e2⟩:=List.any_eq_true.1 e
  obtain ⟨i,hi,rfl⟩:=List.mem_iff_getElem.1 hx
  simp only [Bool.and_eq_true,decide_eq_true_eq] at e2
  have:=(h i hi (by rw [zaP hi];exact e2.1)).1
  rw [zaP hi] at this
  omega
 obtain ⟨q,hq⟩ : ∃ q:Pl,q = { p with fr:=p.fr.map fun x=>if ofN s x=true then F0 else x }:=⟨_,rfl⟩
 have hl:q.fr.length=p.fr.length:=by rw [hq];simp
 have ha:∀ j,j<p.fr.length→atF q j=if ofN s (atF p j)=true then F0 else atF p j:=fun j hj=>by
  rw [zaP (p:=q) (by omega),zaP hj]
  simp only [hq,List.getElem_map]
 have hps:Ps q n:=by
  refine ⟨by rw [hq];exact hp.d,fun i hi=>?_,fun i j hi hj hne=>?_,by rw [hl];exact hp.l1,by rw [hl];exact hp.l2⟩
  ·rw [hl] at hi
   rw [ha i hi]
   by_cases e:ofN s (atF p i)=true
   ·rw [if_pos e];exact .inl rfl
   ·rw [if_neg e,show q.d=p.d by rw [hq]];exact hp.ok i hi
  ·rw [hl] at hi hj
   rw [ha i hi,ha j hj]
   split
   ·exact fun g=>n0 g.1
   ·split
    ·exact fun g=>n0 g.2.1
    ·exact hp.ap i j hi hj hne
 refine ⟨q,by unfold dropP;rw [if_neg h0,hq],hps,⟨hl,by rw [hq],by rw [hq],fun o=>by rw [hq],fun o k hk=>?_⟩,by rw [hq],ha⟩
 refine zgF hp hps hl (fun i hi g=>?_) (fun g=>.inr ⟨fun j hj=>?_,by rw [hq]⟩)
 ·by_cases e:ofN s (atF p i)=true
  ·obtain ⟨b1,b2,b3⟩:=zan.1 g
   refine .inr ⟨fun j hj=>?_,?_⟩
   ·rw [ha j hj]
    by_cases ej:ofN s (atF p j)=true
    ·rw [if_pos ej];exact zeu _ _
    ·rw [if_neg ej]
     refine zbz fun g2=>?_
     obtain ⟨c1,c2,c3⟩:=zan.1 g2
     by_cases eij:i=j
     ·subst eij;exact ej e
     ·exact hp.ap i j hi hj eij ⟨b1,c1,b3.trans c3.symm,b2.trans c2.symm⟩
   ·have:=(zbT (hp.ok i hi) b1).c (h i hi e).2
    rw [show q.d=p.d by rw [hq],this,b2,b3]
  ·exact .inl (by rw [ha i hi,if_neg e];exact ⟨g,rfl⟩)
 ·rw [ha j hj]
  split
  ·exact zeu _ _
  ·exact g j hj
theorem zte {p:Pl} {n:Nat} (hp:Ps p n) {s:ByteArray} {m:Nat} (hs:nm s) (h0:ns p.d s=0) (h1:1≤m) (hr:(used p.d.ext:Int)+m≤p.d.size) :
  ∃ d',newD p.d s (m:Int)=(d',0)∧Ps { p with d:=d' } n∧d'.size=p.d.size∧used d'.ext=used p.d.ext+m∧(∀ o,ns d' o=if s=o then m else ns p.d o)∧(∀ j:Nat,j<m→vw { p with d:=d' } s (j:Int)=zs) ∧ ∀ o (j:Nat),j<ns p.d o→vw { p with d:=d' } o (j:Int)=vw p o (j:Int):=by
 obtain ⟨d',g1,g2,g3,g4,g5,g6,g7⟩:=zqn hp.d hs h0 h1 hr
 have hne:∀ i,i<p.fr.length→(atF p i).holds→s≠(atF p i).name:=fun i hi hh e=>by
  have hx:=zbT (hp.ok i hi) hh
  have a:=hx.s0
  have b:=hx.s1
  rw [← e,h0] at b
  omega
 have hps:Ps { p with d:=d' } n:=⟨g2,fun i hi=>by
  rcases hp.ok i hi with h | h | h
  ·exact .inl h
  ·exact .inr (.inl h)
  ·have hn:=hne i hi h.h
   have hh:has p.d.ext (atF p i).name=true:=(zdR hp.d _).2 (by have a:=h.s0;have b:=h.s1;omega)
   exact .inr (.inr ⟨h.h,h.l,h.p0,h.p1,h.z,h.s0,by show (atF p i).sector<((ns d' (atF p i).name:Nat):Int);rw [g5,if_neg hn];exact h.s1,fun e=>by show (atF p i).data=seen d' (atF p i).name (atF p i).sector;rw [g7 _ _ hn hh];exact h.c e⟩),hp.ap,hp.l1,hp.l2⟩
 refine ⟨d',g1,hps,g3,g4,g5,fun j hj=>?_,fun o j hj=>?_⟩
 ·rw [zey (p:={ p with d:=d' }) (fun i hi=>zbz fun h=>by
   obtain ⟨a,_,b⟩:=zan.1 h
   exact hne i hi a b.symm)]
  exact g6 j hj
 ·refine zgF hp hps rfl (fun i hi h=>.inl ⟨h,rfl⟩) (fun h=>.inr ⟨h,?_⟩)
  have hh:has p.d.ext o=true:=(zdR hp.d _).2 (by omega)
  exact g7 o _ (fun e=>by rw [← e,h0] at hj;omega) hh
end Sto
end
section
open Go.RowKit
open Mv Disk
set_option maxRecDepth 4000
theorem Mv.Calm.maxE {P:Program} {N:Nat} {E:Env} {S:Mem} {dst:Option Nat} {ty:TypeId} {pos:String} {aft:Array Edge} {gd:Option (Nat × Bool)} {x y:Operand} {k k':IntKind} {a b c:Int} {ats:Array TypeId} (h:c=max a b) (hx:ev E x=some (.int k a)) (hy:ev E y=some (.int k' b)):ACalm P N ⟨dst,.call ⟨.builtin .max,#[x,y],ats⟩,ty,pos,aft,gd⟩ E S (.int k c):=by
 by_cases hab:a≤b
 ·rw [show c=b from by omega];exact Calm.maxR hx hy hab
 ·rw [show c=a from by omega];exact Calm.maxL hx hy (by omega)
theorem zgG {α : Type} {n:Nat} {f : α→List Value} {S:Mem} {b:Nat} {len cap:Nat} {l:List α} (h:Sl n f S (.slice (some ⟨b,0,none⟩) len cap) l) (i:Nat) (hi:i<l.length):S.Knows ⟨b,0+i*n,none⟩ (f l[i]):=h.at1 i hi
theorem zgH {M:Mem} {a p b c:Nat} {x:Pl} {k:Int} (h:a≠b) (hl:x.fr.length≤c) (hm:x.fr.length≤256) {i:Nat} (hi:i<x.fr.length):(arM M a p b c x k).Knows ⟨b,0+i*7,none⟩ (frF (atF x i)):=by
 rw [zaP hi];exact zgG (ziL h hl hm) i hi
set_option maxHeartbeats 2000000 in
theorem zrm (a p b c:Nat) (x:Pl) (k:Int) (S:Mem) (hA:S.own a=some (arB p b c x k)) (hF:Sl 7 frF S (.slice (some ⟨b,0,none⟩) x.fr.length c) x.fr) (h256:x.fr.length≤256) :
  ACall Tryz.prog 194 #[.pointer (some ⟨a,0,none⟩)] S fun r S'=>(∃ n:Nat,n≤256∧r = .int .i64 n)∧S'=S:=by
 unfold arB at hA
 refine k_E1 (rs:=[.tmp 2]) 22 Tryz.func194 rfl rfl rfl ?_
 refine r22_ ?_
 refine AWP.loop (X:=Nat) (fun y=>[(0,.pointer (some ⟨a,0,none⟩)),(3,.int .i64 ((x.fr.take y).countP (fun z=>!decide (z=F0)):Nat)),(9,.slice (some ⟨b,0,none⟩) x.fr.length c),(10,.int .i64 x.fr.length),(11,.int .i64 y)]) (fun _=>S) (fun y=>y≤x.fr.length) (fun y=>x.fr.length-y) (0) ⟨rfl,zai (by simp),rfl,rfl,rfl,trivial⟩ zad (Nat.zero_le _) ?_
 rintro i hi
 (try dsimp only at *)
 refine r6_ ?_
 refine AWP.condB rfl (fun hc=>?_) (fun hc=>?_)
 ·have hc:i<x.fr.length:=by have:=of_decide_eq_true hc;omega
  have hki:=zgG hF i hc
  have t1:=zfY (q:=fun z=>!decide (z=F0)) hc
  have u1:=zjC (q:=fun z=>!decide (z=F0)) x.fr (i+1)
  generalize x.fr[i]=y at *
  have cf:=fun S=>zeh y S
  unfold frV at cf
  unfold frF at hki
  by_cases q:y=F0
  ·simp only [q,decide_true,Bool.not_true,Bool.false_eq_true,if_false,Nat.add_zero] at t1
   rw [decide_eq_true q] at cf
   refine r8_ ?_
   refine ARun.alloc (zab rfl) zax ?_
   intro b5 f5
   have g5:=f5
   repeat ((with_reducible replace g5:=zaa g5);obtain ⟨g5,_⟩:=g5)
   have:=g5.ne hA;have:=g5.ne' hA
   refine nl_ ?_
   refine r6_ ?_
   refine ca_ rfl (cf _) ?_
   rintro _ S1 ⟨rfl,h1⟩
   rw [h1];clear h1 S1
   refine r3_ ?_
   refine cF_ ?_
   refine r8_ ?_
   refine ⟨i+1,?_,?_,?_,?_⟩
   all_goals (try dsimp only)
   ·exact ⟨rfl,zai (by omega),rfl,rfl,rfl,trivial⟩
   ·exact zad
   ·exact hc
   ·omega
  ·simp only [q,decide_false,Bool.not_false,if_true] at t1
   rw [decide_eq_false q] at cf
   refine r8_ ?_
   refine ARun.alloc (zab rfl) zax ?_
   intro b5 f5
   have g5:=f5
   repeat ((with_reducible replace g5:=zaa g5);obtain ⟨g5,_⟩:=g5)
   have:=g5.ne hA;have:=g5.ne' hA
   refine nl_ ?_
   refine r6_ ?_
   refine ca_ rfl (cf _) ?_
   rintro _ S1 ⟨rfl,h1⟩
   rw [h1];clear h1 S1
   refine r3_ ?_
   refine k_v8 0 3 9 10 11 12 5 17 ?_
   refine cT_ ?_
   refine r12_ ?_
   refine ⟨i+1,?_,?_,?_,?_⟩
   all_goals (try dsimp only)
   ·exact ⟨rfl,zai (by omega),rfl,rfl,rfl,trivial⟩
   ·exact zad
   ·exact hc
   ·omega
 ·have hcn:x.fr.countP (fun z=>!decide (z=F0))≤x.fr.length:=List.countP_le_length
  have hc:i=x.fr.length:=by have:=of_decide_eq_false hc;omega
  subst hc
  rw [List.take_length]
  refine r12_ ?_
  refine ⟨_,S,⟨_,_,rfl,rfl,rfl⟩,zad,?_⟩
  exact ⟨⟨_,by omega,rfl⟩,rfl⟩
set_option maxHeartbeats 2000000 in
theorem zo7 (a p b c:Nat) (x:Pl) (k:Int) (S:Mem) (hA:S.own a=some (arB p b c x k)) (hF:Sl 7 frF S (.slice (some ⟨b,0,none⟩) x.fr.length c) x.fr) (h256:x.fr.length≤256) :
  ACall Tryz.prog 139 #[.pointer (some ⟨a,0,none⟩)] S fun r S'=>r = .int .i64 (idlesP x:Nat)∧S'=S:=by
 unfold arB at hA
 unfold idlesP
 refine k_E1 (rs:=[.tmp 2]) 21 Tryz.func139 rfl rfl rfl ?_
 refine r22_ ?_
 refine AWP.loop (X:=Nat) (fun y=>[(0,.pointer (some ⟨a,0,none⟩)),(3,.int .i64 ((x.fr.take y).countP (fun z=>decide z.idle):Nat)),(9,.slice (some ⟨b,0,none⟩) x.fr.length c),(10,.int .i64 x.fr.length),(11,.int .i64 y)]) (fun _=>S) (fun y=>y≤x.fr.length) (fun y=>x.fr.length-y) (0) ⟨rfl,zai (by simp),rfl,rfl,rfl,trivial⟩ zad (Nat.zero_le _) ?_
 rintro i hi
 (try dsimp only at *)
 refine r6_ ?_
 refine AWP.condB rfl (fun hc=>?_) (fun hc=>?_)
 ·have hc:i<x.fr.length:=by have:=of_decide_eq_true hc;omega
  have hki:=zgG hF i hc
  have t1:=zfY (q:=fun z=>decide z.idle) hc
  have u1:=zjC (q:=fun z=>decide z.idle) x.fr (i+1)
  generalize x.fr[i]=y at *
  have cf:=fun S=>zgC y S
  unfold frV at cf
  unfold frF at hki
  by_cases q:y.idle
  ·simp only [q,decide_true,if_true] at t1
   rw [decide_eq_true q] at cf
   refine r8_ ?_
   refine ARun.alloc (zab rfl) zax ?_
   intro b5 f5
   have g5:=f5
   repeat ((with_reducible replace g5:=zaa g5);obtain ⟨g5,_⟩:=g5)
   have:=g5.ne hA;have:=g5.ne' hA
   refine nl_ ?_
   refine r6_ ?_
   refine ca_ rfl (cf _) ?_
   rintro _ S1 ⟨rfl,h1⟩
   rw [h1];clear h1 S1
   refine r2_ ?_
   refine cT_ ?_
   refine r12_ ?_
   refine ⟨i+1,?_,?_,?_,?_⟩
   all_goals (try dsimp only)
   ·exact ⟨rfl,zai (by omega),rfl,rfl,rfl,trivial⟩
   ·exact zad
   ·exact hc
   ·omega
  ·simp only [q,decide_false,Bool.false_eq_true,if_false,Nat.add_zero] at t1
   rw [decide_eq_false q] at cf
   refine r8_ ?_
   refine ARun.alloc (zab rfl) zax ?_
   intro b5 f5
   have g5:=f5
   repeat ((with_reducible replace g5:=zaa g5);obtain ⟨g5,_⟩:=g5)
   have:=g5.ne hA;have:=g5.ne' hA
   refine nl_ ?_
   refine r3_ ?_
   refine k_v7 0 3 9 10 11 12 5 ?_
   refine r3_ ?_
   refine ca_ rfl (cf _) ?_
   rintro _ S1 ⟨rfl,h1⟩
   rw [h1];clear h1 S1
   refine r2_ ?_
   refine cF_ ?_
   refine r8_ ?_
   refine ⟨i+1,?_,?_,?_,?_⟩
   all_goals (try dsimp only)
   ·exact ⟨rfl,zai (by omega),rfl,rfl,rfl,trivial⟩
   ·exact zad
   ·exact hc
   ·omega
 ·have hc:i=x.fr.length:=by have:=of_decide_eq_false hc;omega
  subst hc
  rw [List.take_length]
  refine r12_ ?_
  refine ⟨_,S,⟨_,_,rfl,rfl,rfl⟩,zad,?_⟩
  exact ⟨rfl,rfl⟩
theorem ztf {M:Mem} {a p b c:Nat} {x x':Pl} {k:Int} (h1:x.fr=x'.fr) (h2:x.tick=x'.tick) (h3:x.reads=x'.reads) (h4:x.writes=x'.writes):arM M a p b c x k=arM M a p b c x' k:=by
 unfold arM arB;rw [h1,h2,h3,h4]
theorem zez {S:Mem} {b o:Nat} {y:Fr} (h:S.Knows ⟨b,o,none⟩ (frF y)):S.Knows ⟨b,o+0,none⟩ [.string y.name]∧S.Knows ⟨b,o+1,none⟩ [.int .i64 y.sector]∧S.Knows ⟨b,o+2,none⟩ [.string y.data]∧S.Knows ⟨b,o+3,none⟩ [.int .i64 y.pins]∧S.Knows ⟨b,o+4,none⟩ [.bool y.dirty]∧S.Knows ⟨b,o+5,none⟩ [.int .u64 y.tick]∧S.Knows ⟨b,o+6,none⟩ [.bool y.leased] :=
 ⟨zgm h 0 rfl,zgm h 1 rfl,zgm h 2 rfl,zgm h 3 rfl,zgm h 4 rfl,zgm h 5 rfl,zgm h 6 rfl⟩
theorem ziN {S:Mem} {b o:Nat} {cs:List Value} (h:S.Knows ⟨b,0+o,none⟩ cs):S.Knows ⟨b,o,none⟩ cs:=by rw [Nat.zero_add] at h;exact h
def ArR (S:Mem) (a p b c:Nat) (q:Pl × Int) (r:Value) (S':Mem):Prop:=r = .int .i64 q.2∧ArS S a p b c q.1 S'
set_option maxHeartbeats 2000000 in
theorem zjF (a p b c:Nat) (x:Pl) (i:Nat) (k:Int) (S:Mem) (oE oW:Option (Nat × Nat)) (hok:OkA S a p b c x oE oW) (hw:PW x) (hi:i<x.fr.length) :
  ACall Tryz.prog 147 #[.pointer (some ⟨a,0,none⟩),.int .i64 (i:Nat)] (arM (devM S p x.d oE oW) a p b c x k) (ArR S a p b c (wrP x i)):=by
 have hi2:=Nat.le_trans (Nat.le_of_lt hi) hw.l2
 have hA:=za3 (M:=devM S p x.d oE oW) (a:=a) (p:=p) (b:=b) (c:=c) (x:=x) (k:=k)
 have hok1:OkA S a p b c { x with writes:=up1 x.writes } oE oW:=hok.like rfl rfl
 have hcall:=zgD hok1 k (zdJ p x.d (atF x i).name (atF x i).sector (atF x i).data S oE oW hok1.v hw.dr hw.fu)
 have hsA:=zej (M:=devM S p x.d oE oW) (a:=a) (p:=p) (b:=b) (c:=c) (x:=x) (x':={ x with writes:=up1 x.writes }) (k:=k) (k':=k) rfl
 have hA1:=za3 (M:=devM S p x.d oE oW) (a:=a) (p:=p) (b:=b) (c:=c) (x:={ x with writes:=up1 x.writes }) (k:=k)
 have hK:=zgH (M:=devM S p x.d oE oW) (p:=p) (x:={ x with writes:=up1 x.writes }) (k:=k) hok1.ab hok1.l hw.l2 hi
 obtain ⟨k0,k1,k2,k3,k4,k5,k6⟩:=zez (ziN hK)
 have hat:atF { x with writes:=up1 x.writes } i=atF x i:=rfl
 rw [hat] at k0 k1 k2 k3 k4 k5 k6
 unfold wrP
 generalize hy:atF x i=y at *
 generalize hq:writeD x.d y.name y.sector y.data=q at *
 generalize hT:arM (devM S p x.d oE oW) a p b c x k=T at *
 generalize hT1:arM (devM S p x.d oE oW) a p b c { x with writes:=up1 x.writes } k=T1 at *
 unfold arB at hA hA1
 refine k_E2 (rs:=[.tmp 4]) 43 Tryz.func147 rfl rfl rfl ?_
 refine r25_ ?_
 refine ARun.store1 rfl rfl zah rfl hA (show 4<6 from by decide) rfl ?_
 try simp only [k_ms,k_sz,k_ss,k_za,Nat.reduceAdd]
 refine r2_ ?_
 refine AWP.less T1 (by rw [← hsA];exact Mem.Less.refl _) ?_
 refine s1_ ?_
 refine AWP.draw [(0,true),(1,true),(2,true),(3,true),(4,true),(5,true),(6,true),(7,true),(8,true),(9,true),(10,true),(11,true),(12,true),(13,true),(14,true),(15,true),(16,false),(17,true)] [16] mixed (by kernel_rfl) ?_
 refine r16_ ?_
 refine zac rfl ?_
 refine ca_ rfl (hcall) ?_
 rintro _ S1 ⟨M,⟨oE',oW',hok',rfl,hM⟩,fb,fa,h1⟩
 rw [h1];clear h1 S1;rw [hM] at fb fa ⊢
 refine zae ⟨fun h=>absurd h (by decide),?_⟩
 refine r3_ ?_
 by_cases e0:q.2=0
 ·refine r7_ ?_
  refine cT_ ?_
  refine r4_ ?_
  refine ARun.storeFr1 (c:=c) (i:=i) (l:=x.fr) (q:=4) (u:={ y with dirty:=false }) rfl rfl rfl rfl (by omega) (by decide) hi (by rw [← hy,zaP hi];rfl) zeV (zde hok.ab) ?_
  try simp only [k_ms,k_sz,k_ss,k_za,Nat.reduceAdd]
  refine r2_ ?_
  refine k_v6 0 1 4 5 6 38 ?_
  rw [show ∀ u,(arM (devM S p q.1 oE' oW') a p b c { x with writes:=up1 x.writes } k).set b (frB (x.fr.set i u) c)=arM (devM S p q.1 oE' oW') a p b c { x with writes:=up1 x.writes,fr:=x.fr.set i u } k from fun u=>zby hok.ab _ (by simp)]
  refine r7_ ?_
  refine ⟨_,arM (devM S p q.1 oE' oW') a p b c { x with writes:=up1 x.writes,fr:=x.fr.set i { y with dirty:=false } } k,⟨_,_,rfl,rfl,rfl⟩,Mem.Less.refl _,?_⟩
  exact ⟨rfl,k,oE',oW',⟨hok',fb,fa,hok.ab,by simp only [if_pos e0,List.length_set];exact hok.l⟩,by simp only [if_pos e0];exact ztf rfl rfl rfl rfl⟩
 ·refine r7_ ?_
  refine cF_ ?_
  refine r9_ ?_
  refine ⟨_,arM (devM S p q.1 oE' oW') a p b c { x with writes:=up1 x.writes } k,⟨_,_,rfl,rfl,rfl⟩,Mem.Less.refl _,?_⟩
  exact ⟨rfl,k,oE',oW',⟨hok',fb,fa,hok.ab,by simp only [if_neg e0];exact hok.l⟩,by simp only [if_neg e0];exact ztf rfl rfl rfl rfl⟩
end
end Go.Proofs.YtoaoibeobhcgmaaGreatDoor
