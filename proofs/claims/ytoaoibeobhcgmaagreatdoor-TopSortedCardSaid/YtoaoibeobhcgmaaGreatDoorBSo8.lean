/-
  Texts that belong together: Srt4, VBitsAdd, SBW, SB1, SB2, TlB, VLos11, SoL1, LaidM.
-/
import Derived.Test.YtoaoibeobhcgmaaGreatDoorBSo7
import Derived.Test.YtoaoibeobhcgmaaGreatDoorBitsWrite
import Derived.Test.YtoaoibeobhcgmaaGreatDoorBitsCheck
import Derived.Test.YtoaoibeobhcgmaaGreatDoorSBLib
import Derived.Test.YtoaoibeobhcgmaaGreatDoorBitsGet
import Derived.Test.YtoaoibeobhcgmaaGreatDoorRows
import Derived.LaidLaws
import Derived.LaidMore
import Derived.LaidHandle
import Derived.MakeChecks
import Derived.LaidByTextLater
import Derived.Stop.Joined
import Derived.ProofKit
set_option linter.unusedVariables false
set_option linter.unusedSimpArgs false
set_option linter.unusedSectionVars false
namespace Go.Proofs.YtoaoibeobhcgmaaGreatDoor
section
open Go.RowKit
open Mv Disk Num
set_option maxRecDepth 4000
namespace Sto
open Run (nameS sizeN)
set_option maxHeartbeats 8000000 in
theorem zsn (v:Value) (d:D) (fn s:ByteArray) (w m:Nat) (rows:List (List Nat)) (S:Mem) (eu:TypeId) (ev:Value) (hdk:DkR S v d) (hz:Dz d) (ho:openD d=(d,0)) (hd:Dw d 0) (hF:Rec.FileR d fn w rows.length (bs (rows.flatMap recB))) (hm1:24≤m) (hm2:m≤256) (h1:1≤w) (h8:w≤8) (hr:RowsOK w rows) (hc:rows.length≤sizeN m w) (hsm:5*w*rows.length+5*w*rows.length+512≤16384) (hnn:5*w*(1+2*rows.length+2)+512≤16384) (hfn:fn.size<5) (hss:s.size<5) (hne:fn≠s) (hsn:nm s) (hs0:ns d s=0) (hext:∀ o,5≤o.size→ns d o=0) (hroom:(used d.ext:Int)+(Rec.needN w rows.length:Nat)+rows.length+4≤d.size) (hE:S.Knows ⟨0,0,none⟩ [.iface eu ev]) :
  ACall Tryz.prog 7 #[v,.int .i64 (m:Nat),.string fn,.string s] S fun r T=>∃ dv y out c1 c2 c3,r = .tuple #[dv,.agg #[.int .u64 c1,.int .u64 c2,.int .i64 c3],.int .i64 0]∧S.Less T∧DkR T dv (Pl.d y)∧Dw y.d 0∧out.Perm rows∧SortedR out∧Rec.FileR y.d s w out.length (bs (out.flatMap recB)):=by
 have hH:=zrA (m:=m) hd hF (by rw [zaD,zeO h1 hr])
 rw [bs_data] at hH
 have hb:=fun M h=>zpn v d m M (DkR.less hdk h) hz ho hm1 hm2
 obtain ⟨pe,ce,pw,cw,rfl,_,_⟩:=id hdk
 refine k_E4 (rs:=[.cell 8 29,.cell 9 35,.tmp 10]) 31 Tryz.func7 rfl rfl rfl ?_
 refine r2_ ?_
 refine k_b5 rfl ?_
 intro b4 f4
 have g4:=f4
 repeat ((with_reducible replace g4:=zaa g4);obtain ⟨g4,_⟩:=g4)
 refine nl_ ?_
 refine ARun.box1 (zab rfl) rfl rfl ?_
 intro b7 f7
 have g7:=f7
 repeat ((with_reducible replace g7:=zaa g7);obtain ⟨g7,_⟩:=g7)
 refine nl_ ?_
 refine ARun.alloc (zab rfl) zay ?_
 intro b8 f8
 have g8:=f8
 repeat ((with_reducible replace g8:=zaa g8);obtain ⟨g8,_⟩:=g8)
 refine nl_ ?_
 refine ARun.alloc (zab rfl) zc3 ?_
 intro b9 f9
 have g9:=f9
 repeat ((with_reducible replace g9:=zaa g9);obtain ⟨g9,_⟩:=g9)
 refine nl_ ?_
 refine r7_ ?_
 refine ca_ rfl (((hb _ ((Mem.less_set S b4 _ f4.1).trans (Mem.less_set _ b7 _ f7.1))).frame (r:=⟨29,[.int .i64 0,.slice none 0 0,.slice none 0 0,.int .i64 0,.bool false],5⟩) f8).frame (r:=⟨35,[.int .u64 0,.int .u64 0,.int .i64 0],3⟩) f9) ?_
 rintro _ S1 ⟨Sa,⟨T1,⟨S0,wk,a,p,b,u,rfl,hS0,hw0,hA⟩,f8a,hSa⟩,f9a,h1'⟩
 rw [h1',hSa];rw [hSa] at f9a;clear h1' S1 hSa Sa
 refine r3_ ?_
 refine ARun.alloc (zab rfl) zkg ?_
 intro b11 f11
 have g11:=f11
 repeat ((with_reducible replace g11:=zaa g11);obtain ⟨g11,_⟩:=g11)
 refine nl_ ?_
 refine r4_ ?_
 obtain ⟨hk1,hn9⟩:=zaa f11
 obtain ⟨hk2,hn8⟩:=zaa hk1
 obtain ⟨j1,j2⟩:=zdU hA hk2 ⟨63,[self wk],1⟩
 have f8b:Fresh (T1.set b11 ⟨63,[self wk],1⟩) b8:=zal f8a (Ne.symm hn8)
 obtain ⟨f9c,n98⟩:=zaa f9a
 have f9b:Fresh ((T1.set b11 ⟨63,[self wk],1⟩).set b8 ⟨29,[.int .i64 0,.slice none 0 0,.slice none 0 0,.int .i64 0,.bool false],5⟩) b9:=zal (zal f9c (Ne.symm hn9)) n98
 refine AWP.less (((T1.set b11 ⟨63,[self wk],1⟩).set b8 ⟨29,[.int .i64 0,.slice none 0 0,.slice none 0 0,.int .i64 0,.bool false],5⟩).set b9 ⟨35,[.int .u64 0,.int .u64 0,.int .i64 0],3⟩) (by rw [Mem.set_comm _ _ _ hn8,Mem.set_comm _ _ _ hn9];exact Mem.Less.refl _) ?_
 have hwkw:wk≠b11:=j1.ne (Mem.own_set_same S0 wk (wkB a u (.slice none 0 0)))
 have hS:=((Mem.less_set S b4 _ f4.1).trans (Mem.less_set _ b7 _ f7.1)).trans hS0
 have hSw:=hS.trans (Mem.less_set S0 wk (wkB a u (.slice none 0 0)) hw0.1)
 have hS11:S.own b11=none:=by
  cases e:S.own b11 with
  | none=>rfl
  | some k=>have:=hSw.own e;rw [j1.1] at this;cases this
 have hSwk:S.own wk=none:=by
  cases e:S.own wk with
  | none=>rfl
  | some k=>have:=hS.own e;rw [hw0.1] at this;cases this
 have hK0:=Mem.less_set S b11 ⟨63,[self wk],1⟩ hS11
 have hb7:=((hS0.trans (Mem.less_set _ wk (wkB a u (.slice none 0 0)) hw0.1)).trans (Mem.less_set _ b11 ⟨63,[self wk],1⟩ j1.1)).own (Mem.own_set_same (S.set b4 _) b7 _)
 have hin:=((zsm _ (S.set b11 ⟨63,[self wk],1⟩) a p b m wk b11 b7 u fn s w m rows (newP d m) _ eu ev j2 ⟨(Mem.own_set_other _ _ hwkw).trans (Mem.own_set_same _ _ _),Gro.empty _ _⟩ (Mem.own_set_same _ _ _) hb7 rfl hd hF hH hm1 hm2 h1 h8 hr hc hsm hnn hfn hss hne hsn hs0 hext hroom (Mv.Less.set hSw b11 _) ((Mem.own_set_other _ _ hwkw).trans hSwk) (hE.less hK0)).frame (r:=⟨29,[.int .i64 0,.slice none 0 0,.slice none 0 0,.int .i64 0,.bool false],5⟩) f8b).frame (r:=⟨35,[.int .u64 0,.int .u64 0,.int .i64 0],3⟩) f9b
 refine r4_ ?_
 refine rC (Calm.bin rfl rfl Er.eqNil) ?_
 refine r2_ ?_
 refine cT_ ?_
 refine r4_ ?_
 refine ca_ rfl (hin) ?_
 rintro _ S1 ⟨Sa,⟨T2,⟨rfl,Z,y,tm,out,hR⟩,f8c,hSa⟩,f9d,h1'⟩
 rw [h1',hSa];rw [hSa] at f9d;clear h1' S1 hSa Sa
 have o11:=zaj hR.ar (hR.kb.own (Mem.own_set_same S b11 ⟨63,[self wk],1⟩))
 obtain ⟨g9d,h98⟩:=zaa f9d
 have o11a:=(Mem.own_set_other (T2.set b8 ⟨29,[.int .i64 0,.slice none 0 0,.slice none 0 0,.int .i64 0,.bool false],5⟩) ⟨35,[.int .u64 0,.int .u64 0,.int .i64 0],3⟩ (f9d.ne ((Mem.own_set_other T2 _ (f8c.ne o11)).trans o11))).trans ((Mem.own_set_other T2 _ (f8c.ne o11)).trans o11)
 refine r7_ ?_
 refine ca_ rfl (((ztQ Z a p b m wk u tm y 0 T2 hR.ar hR.wk hR.ps).frame (r:=⟨29,[.int .i64 0,.slice none 0 0,.slice none 0 0,.int .i64 0,.bool false],5⟩) f8c).frame (r:=⟨35,[.int .u64 0,.int .u64 0,.int .i64 0],3⟩) f9d) ?_
 rintro _ S1 ⟨Sa,⟨T3,⟨dv,c1,c2,c3,rfl,hdk3,hT3⟩,f8d,hSa⟩,f9e,h1'⟩
 rw [h1',hSa];rw [hSa] at f9e;clear h1' S1 hSa Sa
 obtain ⟨pe3,ce3,pw3,cw3,rfl,_,_⟩:=id hdk3
 obtain ⟨g9,_⟩:=zaa f9e
 refine r9_ ?_
 refine ⟨_,_,⟨_,_,_,rfl,.inr ⟨zas,[_,_,_,_,_],zao,rds_,rfl⟩,⟨_,_,_,rfl,.inr ⟨zeW,[_,_,_],zd8,rds_,rfl⟩,⟨_,_,rfl,rfl,rfl⟩,rfl⟩,rfl⟩,Mem.Less.refl _,?_⟩
 exact ⟨_,y,out,c1,c2,c3,rfl,(((hK0.trans hR.kb).trans (zaQ hR.ar)).trans hT3).trans zad,hdk3.less zad,hR.ps.d,hR.pm,hR.so,hR.fi⟩
end Sto
end
section
open Go.RowKit
open Bits Mv
set_option maxRecDepth 20000
namespace Bits
theorem znF (L:List Bool) (v r k:Nat) (hv:v≤18446744073709551615) (hk:L.length % 8+k≤8) (hr:k≤r) :
  bits .or .u64 (IntKind.u64.wrap (((num (rest L):Nat):Int)*2 ^ ((k:Int)).toNat)) (bits .and .u64 ((v:Int) / 2 ^ ((r:Int)-(k:Int)).toNat) (IntKind.u64.wrap (IntKind.u64.wrap (1*2 ^ ((k:Int)).toNat)-1)))=((num (rest L ++ numB (v / 2 ^ (r-k)) k):Nat):Int) ∧
   num (rest L ++ numB (v / 2 ^ (r-k)) k)<256:=by
 obtain ⟨A,B,h1,h2,h3,h4,h5⟩:=add_part L v (r-k) k hv hk
 rw [show ((r:Int)-(k:Int)).toNat=r-k from by omega,Int.toNat_natCast,Int.one_mul,h1,h2,h3]
 exact ⟨rfl,by omega⟩
def wrM (S:Mem) (p:Nat) (o:Option (Nat × Nat)) (L:List Bool):Mem :=
  (outM S o 5 (bytesV L)).set p ⟨83,[outV o (L.length / 8),.int .u64 (num (rest L):Nat),.int .i64 (L.length % 8:Nat)],3⟩
theorem zhW (S:Mem) (p b c:Nat) (M C:List Bool) (h:M.length % 8+C.length=8):wrM S p (some (b,c)) (M ++ C) =
  (S.set b ⟨5,bytesV M ++ [.int .u8 (num (rest M ++ C):Nat)],c⟩).set p ⟨83,[.slice (some ⟨b,0,none⟩) (M.length / 8+1) c,.int .u64 0,.int .i64 0],3⟩:=by
 unfold wrM outM outV
 have e:(M ++ C).length / 8=M.length / 8+1:=by rw [List.length_append];omega
 have e9:(((M ++ C).length % 8:Nat):Int)=0:=by rw [List.length_append];omega
 simp only [bytesV_eight M C h,(rest_eight M C h).2,e,e9]
 rfl
theorem zso (S:Mem) (p:Nat) (o:Option (Nat × Nat)) (M C:List Bool) (h:M.length % 8+C.length<8):wrM S p o (M ++ C) =
  (outM S o 5 (bytesV M)).set p ⟨83,[outV o (M.length / 8),.int .u64 (num (rest M ++ C):Nat),.int .i64 ((M.length % 8:Nat)+(C.length:Nat))],3⟩:=by
 unfold wrM
 have e:(M ++ C).length / 8=M.length / 8:=by rw [List.length_append];omega
 have e9:(((M ++ C).length % 8:Nat):Int)=(M.length % 8:Nat)+(C.length:Nat):=by rw [List.length_append];omega
 rw [bytesV_few M C h,(rest_few M C h).2,e,e9]
structure OkW (S:Mem) (p:Nat) (o:Option (Nat × Nat)) (L:List Bool):Prop where
  fp:Fresh S p
  nil:o=none→L.length<8
  own:∀ b c,o=some (b,c)→Fresh S b∧b≠p∧L.length / 8≤c
end Bits
set_option maxHeartbeats 1000000 in
theorem znG (p v width:Nat) (L:List Bool) (o:Option (Nat × Nat)) (S:Mem) (h3:width≤64) (h5:v≤18446744073709551615) (hlen:L.length≤1048576+64) (hok:OkW S p o L) :
  ACall Tryz.prog 30 #[.pointer (some ⟨p,0,none⟩),.int .u64 v,.int .i64 width] (wrM S p o L) fun r S'=>r = .tuple #[] ∧ ∃ o',OkW S p o' (L ++ numB v width)∧S'=wrM S p o' (L ++ numB v width):=by
 refine k_E3 (rs:=[]) 74 Tryz.func30 rfl rfl rfl ?_
 refine s1_ ?_
 refine AWP.loop (X:=Nat × List Bool × Option (Nat × Nat)) (fun x=>[(0,.pointer (some ⟨p,0,none⟩)),(1,.int .u64 v),(2,.int .i64 x.1)]) (fun x=>wrM S p x.2.2 x.2.1) (fun x=>x.1≤width∧x.2.1 ++ numB v x.1=L ++ numB v width∧OkW S p x.2.2 x.2.1) (fun x=>x.1) ((width,L,o)) ⟨rfl,rfl,rfl,trivial⟩ zad (⟨Nat.le_refl _,rfl,hok⟩) ?_
 rintro ⟨r,M,ov⟩ ⟨hr,hM,hok⟩
 (try dsimp only at *)
 have hMl:M.length≤1048576+128:=by have:=congrArg List.length hM;simp [numB_length] at this;omega
 obtain ⟨k,hk⟩ : ∃ k:Nat,(k:Int)=min (r:Int) (8-(M.length % 8:Nat)):=⟨(min (r:Int) (8-(M.length % 8:Nat))).toNat,by omega⟩
 have hk1:k≤r∧M.length % 8+k≤8∧(r=k∨M.length % 8+k=8):=by omega
 obtain ⟨hkr,hk8,hke⟩:=hk1
 obtain ⟨hR,hRb⟩:=znF M v r k h5 hk8 hkr
 have hfp:=hok.fp
 unfold wrM
 refine r7_ ?_
 refine AWP.condB rfl (fun hc=>?_) (fun hc=>?_)
 ·have hr0:0<r:=by simpa using hc
  refine r11_ ?_
  refine rC (Calm.minE hk rfl rfl) ?_
  refine r4_ ?_
  refine AWP.draw [(0,true),(1,true),(2,true),(3,true),(4,true),(5,true),(6,true),(7,true),(8,true),(9,true)] [] mixed (by kernel_rfl) ?_
  refine r13_ ?_
  refine AWP.draw [(0,true),(1,true),(2,true),(3,true),(4,true),(5,true),(6,true),(7,true),(8,true),(9,true),(10,true),(11,true),(12,true),(13,true),(14,true),(15,true),(16,true),(17,true),(18,false),(19,true),(20,true),(21,false)] [18,21] mixed (by kernel_rfl) ?_
  refine r18_ ?_
  refine zac rfl ?_
  refine s1_ ?_
  refine zae ⟨fun h=>absurd h (by decide),?_⟩
  refine r2_ ?_
  refine zac rfl ?_
  refine s1_ ?_
  refine zae ⟨fun h=>absurd h (by decide),?_⟩
  refine r2_ ?_
  rw [hR]
  refine r8_ ?_
  refine k_v6 0 1 2 9 6 7 ?_
  refine r9_ ?_
  refine AWP.condB rfl (fun hc8=>?_) (fun hc8=>?_)
  ·have he8:M.length % 8+k=8:=by have:=of_decide_eq_true hc8;omega
   rcases ov with _ | ⟨b,c⟩
   ·simp only [outM,outV]
    have hM8:=hok.nil rfl
    have hb0:bytesV M = []:=List.eq_nil_of_length_eq_zero (by rw [bytesV_length];omega)
    refine AWP.draw [(0,true),(1,true),(2,true),(3,true),(4,true),(5,true),(6,true),(7,true),(8,true),(9,true),(10,true),(11,true),(12,false),(13,false),(14,true),(15,true),(16,false),(17,true),(18,true),(19,false),(20,true),(21,true),(22,false)] [13,16,19,22] mixed (by kernel_rfl) ?_
    refine r12_ ?_
    refine zac rfl ?_
    refine ARun.build1s (zab rfl) zaE rfl rfl ?_
    intro b66 f66
    have g66:=f66
    repeat ((with_reducible replace g66:=zaa g66);obtain ⟨g66,_⟩:=g66)
    refine zae ⟨fun _=>zad,?_⟩
    refine zac rfl ?_
    refine ARun.appendNil1 (zab rfl) zaE rfl rfl (news:=[_]) (zf8 ((zdk _ _ _ _).trans rfl) (zhY _ _)) rfl (by omega) (by omega) (by omega) ?_
    intro bn cn fbn hcn
    have gbn:=fbn
    repeat ((with_reducible replace gbn:=zaa gbn);obtain ⟨gbn,_⟩:=gbn)
    refine zae ⟨fun h=>absurd h (by decide),?_⟩
    refine r2_ ?_
    refine zac rfl ?_
    refine s1_ ?_
    refine zae ⟨fun h=>absurd h (by decide),?_⟩
    refine r2_ ?_
    refine zac rfl ?_
    refine s1_ ?_
    refine zae ⟨fun h=>absurd h (by decide),?_⟩
    refine r2_ ?_
    refine zac rfl ?_
    refine s1_ ?_
    refine zae ⟨fun h=>absurd h (by decide),?_⟩
    refine r3_ ?_
    refine ⟨(r-k,M ++ numB (v / 2 ^ (r-k)) k,some (bn,cn)),?_,?_,?_,?_⟩
    all_goals (try dsimp only)
    ·exact ⟨rfl,rfl,zai (by omega),trivial⟩
    ·show (wrM S p (some (bn,cn)) (M ++ numB (v / 2 ^ (r-k)) k)).Less _;rw [zhW _ _ _ _ _ _ (by rw [numB_length];exact he8),hb0,List.nil_append,show M.length / 8=0 from by omega];exact zad
    ·exact ⟨by omega,by rw [List.append_assoc,← numB_split,show k+(r-k)=r from by omega];exact hM,hok.fp,(fun h=>by cases h),fun b2 c2 h2=>by cases h2;exact ⟨gbn,by assumption,by rw [List.length_append,numB_length];omega⟩⟩
    ·omega
   ·simp only [outM,outV]
    obtain ⟨ho1,ho2,ho3⟩:=hok.own b c rfl
    refine AWP.draw [(0,true),(1,true),(2,true),(3,true),(4,true),(5,true),(6,true),(7,true),(8,true),(9,true),(10,true),(11,true),(12,false),(13,false),(14,true),(15,true),(16,false),(17,true),(18,true),(19,false),(20,true),(21,true),(22,false)] [13,16,19,22] mixed (by kernel_rfl) ?_
    refine r12_ ?_
    refine zac rfl ?_
    refine ARun.build1s (zab rfl) zaE rfl rfl ?_
    intro b66 f66
    have g66:=f66
    repeat ((with_reducible replace g66:=zaa g66);obtain ⟨g66,_⟩:=g66)
    refine zae ⟨fun _=>zad,?_⟩
    refine zac rfl ?_
    refine ARun.append1 (zab rfl) zaE rfl own_ (bytesV_length M) rfl (news:=[_]) rds_ rfl (by simp [Value.oneCell']) (by omega) (by omega) del_ ?_
    intro bn cn fbn hcn
    have gbn:=fbn
    repeat ((with_reducible replace gbn:=zaa gbn);obtain ⟨gbn,_⟩:=gbn)
    refine zae ⟨fun h=>absurd h (by decide),?_⟩
    refine r2_ ?_
    refine zac rfl ?_
    refine s1_ ?_
    refine zae ⟨fun h=>absurd h (by decide),?_⟩
    refine r2_ ?_
    refine zac rfl ?_
    refine s1_ ?_
    refine zae ⟨fun h=>absurd h (by decide),?_⟩
    refine r2_ ?_
    refine zac rfl ?_
    refine s1_ ?_
    refine zae ⟨fun h=>absurd h (by decide),?_⟩
    refine r3_ ?_
    refine ⟨(r-k,M ++ numB (v / 2 ^ (r-k)) k,some (bn,cn)),?_,?_,?_,?_⟩
    all_goals (try dsimp only)
    ·exact ⟨rfl,rfl,zai (by omega),trivial⟩
    ·show (wrM S p (some (bn,cn)) (M ++ numB (v / 2 ^ (r-k)) k)).Less _;rw [zhW _ _ _ _ _ _ (by rw [numB_length];exact he8)];exact zad
    ·exact ⟨by omega,by rw [List.append_assoc,← numB_split,show k+(r-k)=r from by omega];exact hM,hok.fp,(fun h=>by cases h),fun b2 c2 h2=>by cases h2;exact ⟨gbn,by assumption,by rw [List.length_append,numB_length];omega⟩⟩
    ·omega
  ·have he8 : ¬ M.length % 8+k=8:=by have:=of_decide_eq_false hc8;omega
   refine r3_ ?_
   refine ⟨(r-k,M ++ numB (v / 2 ^ (r-k)) k,ov),?_,?_,?_,?_⟩
   all_goals (try dsimp only)
   ·exact ⟨rfl,rfl,zai (by omega),trivial⟩
   ·show (wrM S p ov (M ++ numB (v / 2 ^ (r-k)) k)).Less _;rw [zso _ _ _ _ _ (by rw [numB_length];omega),numB_length];exact zad
   ·exact ⟨by omega,by rw [List.append_assoc,← numB_split,show k+(r-k)=r from by omega];exact hM,hok.fp,fun h=>by have:=hok.nil h;rw [List.length_append,numB_length];omega,fun b2 c2 h2=>by obtain ⟨q1,q2,q3⟩:=hok.own b2 c2 h2;exact ⟨q1,q2,by rw [List.length_append,numB_length];omega⟩⟩
   ·omega
 ·have hr0:r=0:=by have:=of_decide_eq_false hc;omega
  subst hr0
  refine r4_ ?_
  refine ⟨_,_,rfl,zad,?_⟩
  exact ⟨rfl,ov,by rw [numB_zero,List.append_nil] at hM;rw [← hM];exact hok,by rw [numB_zero,List.append_nil] at hM;rw [← hM]⟩
end
section
open Go.RowKit
open Bits Mv
set_option maxRecDepth 20000
namespace Bits
theorem znH {S:Mem} {p:Nat} {o:Option (Nat × Nat)} {L:List Bool} {b:Nat} (h:Fresh (wrM S p o L) b):Fresh S b∧b≠p ∧ ∀ q c,o=some (q,c)→b≠q:=by
 unfold wrM at h
 obtain ⟨h1,h2⟩:=zaa h
 cases o with
 | none=>exact ⟨h1,h2,fun q c e=>by cases e⟩
 | some qc =>
  obtain ⟨q,c⟩:=qc
  obtain ⟨h3,h4⟩:=zaa h1
  exact ⟨h3,h2,fun q' c' e=>by cases e;exact h4⟩
theorem zsp (S:Mem) (p:Nat) (o:Option (Nat × Nat)) (L:List Bool) (b:Nat) (r:Blk) (hp:b≠p) (ho:∀ q c,o=some (q,c)→b≠q) (h:S.own b=some r):(wrM S p o L).own b=some r:=by
 unfold wrM
 rw [Mem.own_set_other _ _ hp]
 cases o with
 | none=>exact h
 | some qc =>
  obtain ⟨q,c⟩:=qc
  exact (Mem.own_set_other _ _ (ho q c rfl)).trans h
def lastB (L:List Bool):UInt8:=UInt8.ofNat (num (rest L)*2 ^ (8-L.length % 8))
theorem lastI (L:List Bool):IntKind.u8.wrap (IntKind.u64.wrap (((num (rest L):Nat):Int)*2 ^ ((8:Int)-(L.length % 8:Nat)).toNat))=nb (lastB L):=by
 obtain ⟨R,h1,h2,h3⟩:=last_byte L
 rw [show ((8:Int)-(L.length % 8:Nat)).toNat=8-L.length % 8 from by omega,h1,h2,h3];rfl
theorem zp0 (L:List Bool) (h:L.length<8) (hn:L.length % 8≠0):pack L = [lastB L]:=by
 rw [pack_last L hn]
 have:whole L = []:=by unfold whole;rw [show L.length / 8=0 from by omega];rfl
 rw [this];rfl
theorem zgO {S:Mem} {b:Nat} {r:Blk} {cs:List Value} (h:S.own b=some r) (e:r.cells=cs):S.rds ⟨b,0,none⟩ cs:=by rw [← e];exact zbA h
end Bits
theorem zk0 (p:Nat) (v width:Int) (L:List Bool) (o:Option (Nat × Nat)) (S:Mem) (h0:0≤width) (h3:width≤64) (h4:0≤v) (h5:v≤18446744073709551615) (hlen:L.length≤1048576+64) (hok:OkW S p o L) :
  ACall Tryz.prog 30 #[.pointer (some ⟨p,0,none⟩),.int .u64 v,.int .i64 width] (wrM S p o L) fun r S'=>r = .tuple #[] ∧ ∃ o',OkW S p o' (L ++ numB v.toNat width.toNat)∧S'=wrM S p o' (L ++ numB v.toNat width.toNat):=by
 have:=znG p v.toNat width.toNat L o S (by omega) (by omega) hlen hok
 rwa [Int.toNat_of_nonneg h4,Int.toNat_of_nonneg h0] at this
set_option maxHeartbeats 400000 in
theorem znI (p:Nat) (L:List Bool) (o:Option (Nat × Nat)) (S:Mem) (hlen:L.length≤2000000) (hok:OkW S p o L) :
  ACall Tryz.prog 71 #[.pointer (some ⟨p,0,none⟩)] (wrM S p o L) fun r S'=>r = .int .i64 (L.length:Nat)∧S'=wrM S p o L:=by
 refine k_E1 (rs:=[.tmp 2]) 14 Tryz.func71 rfl rfl rfl ?_
 rcases o with _ | ⟨b,c⟩
 ·unfold wrM outM outV
  refine r6_ ?_
  refine AWP.draw [(0,true),(1,true),(2,true),(3,true),(4,true),(5,true),(6,true),(7,true),(8,true),(9,true),(10,true),(11,true)] [] mixed (by kernel_rfl) ?_
  refine r15_ ?_
  refine ⟨_,_,⟨_,_,rfl,rfl,rfl⟩,zad,?_⟩
  exact ⟨val_int (by have:=hok.nil rfl;omega),rfl⟩
 ·unfold wrM outM outV
  refine r6_ ?_
  refine AWP.draw [(0,true),(1,true),(2,true),(3,true),(4,true),(5,true),(6,true),(7,true),(8,true),(9,true),(10,true),(11,true)] [] mixed (by kernel_rfl) ?_
  refine r15_ ?_
  refine ⟨_,_,⟨_,_,rfl,rfl,rfl⟩,zad,?_⟩
  exact ⟨val_int (by omega),rfl⟩
set_option maxHeartbeats 1000000 in
theorem zk1 (p:Nat) (L:List Bool) (o:Option (Nat × Nat)) (S:Mem) (hlen:L.length≤1048576) (hok:OkW S p o L) :
  ACall Tryz.prog 31 #[.pointer (some ⟨p,0,none⟩)] (wrM S p o L) fun r S'=>r = .agg #[.string (bs (pack L)),.int .i64 (L.length:Nat)]∧S'=S:=by
 refine k_E1 (rs:=[.cell 2 45]) 37 Tryz.func31 rfl rfl rfl ?_
 have hfp:=hok.fp
 have hLen:=znI p L o S (by omega) hok
 have hq8:L.length / 8≤200000:=by omega
 have hlb:=lastI L
 refine r2_ ?_
 refine ARun.alloc (zab rfl) zd9 ?_
 intro b2 f2
 have g2:=f2
 repeat ((with_reducible replace g2:=zaa g2);obtain ⟨g2,_⟩:=g2)
 refine nl_ ?_
 refine r2_ ?_
 obtain ⟨q1,q2,q3⟩:=znH g2
 have q2':=Ne.symm q2
 rcases o with _ | ⟨b,c⟩
 ·have hM8:=hok.nil rfl
  simp only [wrM,outM,outV] at hLen ⊢
  refine r19_ ?_
  refine AWP.condB rfl (fun hc=>?_) (fun hc=>?_)
  ·have hn:L.length % 8≠0:=by have:=of_decide_eq_true hc;omega
   refine AWP.draw [(0,true),(1,true),(2,true),(3,true),(4,true),(5,true),(6,true),(7,true),(8,true),(9,true),(10,true),(11,true),(12,true),(13,true),(14,true),(15,true),(16,true),(17,false),(18,false),(19,true)] [18] mixed (by kernel_rfl) ?_
   refine r16_ ?_
   refine dC (hc:=Calm.conv rfl (zbf Tryz.underlying24 Tryz.underlying5 hlb)) (h:=?_)
   refine zac rfl ?_
   refine ARun.build1s (zab rfl) zaE rfl rfl ?_
   intro b30 f30
   have g30:=f30
   repeat ((with_reducible replace g30:=zaa g30);obtain ⟨g30,_⟩:=g30)
   refine zae ⟨fun _=>zad,?_⟩
   refine zac rfl ?_
   refine ARun.appendNil1 (zab rfl) zaE rfl rfl (news:=[_]) rds_ rfl (by omega) (by omega) (by omega) ?_
   intro bn cn fbn hcn
   have gbn:=fbn
   repeat ((with_reducible replace gbn:=zaa gbn);obtain ⟨gbn,_⟩:=gbn)
   refine zae ⟨fun h=>absurd h (by decide),?_⟩
   refine r3_ ?_
   have hbs:pack L = [lastB L]:=zp0 L hM8 hn
   refine s1_ ?_
   refine AWP.draw [(0,true),(1,true),(2,true),(3,false),(4,true),(5,false)] [5] mixed (by kernel_rfl) ?_
   refine s1_ ?_
   refine dC (hc:=Calm.toStr zaM zaA rfl (l:=[lastB L]) rfl rds_) (h:=?_)
   refine s1_ ?_
   refine zac rfl ?_
   refine ca_ rfl (ACall.pure_more zad hLen) ?_
   rintro _ _ ⟨rfl,rfl⟩
   refine zae ⟨fun _=>zad,?_⟩
   refine s1_ ?_
   refine zac rfl ?_
   refine s1_ ?_
   refine zae ⟨fun h=>absurd h (by decide),?_⟩
   refine r3_ ?_
   refine ⟨_,S,⟨_,_,_,rfl,.inr ⟨zch,[_,_],zbX,rds_,rfl⟩,rfl,rfl⟩,zad,?_⟩
   exact ⟨by rw [hbs];rfl,rfl⟩
  ·have hn:L = []:=List.eq_nil_of_length_eq_zero (by have:=of_decide_eq_false hc;omega)
   refine r3_ ?_
   refine AWP.draw [(0,true),(1,true),(2,true),(3,false),(4,true),(5,false)] [5] mixed (by kernel_rfl) ?_
   refine r3_ ?_
   refine zac rfl ?_
   refine ca_ rfl (ACall.pure_more zad hLen) ?_
   rintro _ _ ⟨rfl,rfl⟩
   refine zae ⟨fun _=>zad,?_⟩
   refine s1_ ?_
   refine zac rfl ?_
   refine s1_ ?_
   refine zae ⟨fun h=>absurd h (by decide),?_⟩
   refine r2_ ?_
   refine k_v4 0 2 3 12 ?_
   refine s1_ ?_
   refine ⟨_,S,⟨_,_,_,rfl,.inr ⟨zch,[_,_],zbX,rds_,rfl⟩,rfl,rfl⟩,zad,?_⟩
   exact ⟨by rw [hn];rfl,rfl⟩
 ·simp only [wrM,outM,outV] at hLen ⊢
  obtain ⟨ho1,ho2,ho3⟩:=hok.own b c rfl
  have hb2:=q3 b c rfl
  refine r19_ ?_
  refine AWP.condB rfl (fun hc=>?_) (fun hc=>?_)
  ·have hn:L.length % 8≠0:=by have:=of_decide_eq_true hc;omega
   refine AWP.draw [(0,true),(1,true),(2,true),(3,true),(4,true),(5,true),(6,true),(7,true),(8,true),(9,true),(10,true),(11,true),(12,true),(13,true),(14,true),(15,true),(16,true),(17,false),(18,false),(19,true)] [18] mixed (by kernel_rfl) ?_
   refine r16_ ?_
   refine dC (hc:=Calm.conv rfl (zbf Tryz.underlying24 Tryz.underlying5 hlb)) (h:=?_)
   refine zac rfl ?_
   refine ARun.build1s (zab rfl) zaE rfl rfl ?_
   intro b30 f30
   have g30:=f30
   repeat ((with_reducible replace g30:=zaa g30);obtain ⟨g30,_⟩:=g30)
   refine zae ⟨fun _=>zad,?_⟩
   refine zac rfl ?_
   refine ARun.appendCopy1 (zab rfl) zaE rfl (xs:=bytesV L) (zgO own_ rfl) (bytesV_length L) rfl (news:=[_]) rds_ rfl (by omega) (by omega) (by omega) ?_
   intro bn cn fbn hcn
   have gbn:=fbn
   repeat ((with_reducible replace gbn:=zaa gbn);obtain ⟨gbn,_⟩:=gbn)
   refine zae ⟨fun h=>absurd h (by decide),?_⟩
   refine r3_ ?_
   have hbs:cellsB (pack L)=bytesV L ++ [.int .u8 (nb (lastB L))]:=by rw [pack_last L hn];simp [cellsB,bytesV,lastB]
   refine s1_ ?_
   refine AWP.draw [(0,true),(1,true),(2,true),(3,false),(4,true),(5,false)] [5] mixed (by kernel_rfl) ?_
   refine s1_ ?_
   refine dC (hc:=Calm.toStr zaM zaA rfl (l:=pack L) (by rw [pack_length];omega) (by rw [hbs];exact zgO own_ rfl)) (h:=?_)
   refine s1_ ?_
   refine zac rfl ?_
   refine ca_ rfl (ACall.pure_more zad hLen) ?_
   rintro _ _ ⟨rfl,rfl⟩
   refine zae ⟨fun _=>zad,?_⟩
   refine s1_ ?_
   refine zac rfl ?_
   refine s1_ ?_
   refine zae ⟨fun h=>absurd h (by decide),?_⟩
   refine r3_ ?_
   refine ⟨_,S,⟨_,_,_,rfl,.inr ⟨zch,[_,_],zbX,rds_,rfl⟩,rfl,rfl⟩,zad,?_⟩
   exact ⟨rfl,rfl⟩
  ·have hn:L.length % 8=0:=by have:=of_decide_eq_false hc;omega
   have hbs:cellsB (pack L)=bytesV L:=by unfold bytesV;rw [pack_whole L hn];rfl
   refine r3_ ?_
   refine AWP.draw [(0,true),(1,true),(2,true),(3,false),(4,true),(5,false)] [5] mixed (by kernel_rfl) ?_
   refine s1_ ?_
   refine dC (hc:=Calm.toStr zaM zaA rfl (l:=pack L) (by rw [pack_length];omega) (by rw [hbs];exact zgO own_ rfl)) (h:=?_)
   refine s1_ ?_
   refine zac rfl ?_
   refine ca_ rfl (ACall.pure_more zad hLen) ?_
   rintro _ _ ⟨rfl,rfl⟩
   refine zae ⟨fun _=>zad,?_⟩
   refine s1_ ?_
   refine zac rfl ?_
   refine s1_ ?_
   refine zae ⟨fun h=>absurd h (by decide),?_⟩
   refine r2_ ?_
   refine k_v4 0 2 3 12 ?_
   refine s1_ ?_
   refine ⟨_,S,⟨_,_,_,rfl,.inr ⟨zch,[_,_],zbX,rds_,rfl⟩,rfl,rfl⟩,zad,?_⟩
   exact ⟨rfl,rfl⟩
end
section
open Go.RowKit
open Bits Mv
set_option maxRecDepth 20000
namespace Bits
def two (a:Value) (e:Int):Value:=.tuple #[a,.int .i64 e]
noncomputable def getP (s:ByteArray) (N at_ width:Int):Value :=
  if chk s.data.toList N≠0 then two (.int .u64 0) 2
  else if ¬ (0≤width∧width≤64)∨at_<0∨N<at_ then two (.int .u64 0) 1
  else if N-at_<width then two (.int .u64 0) 5
  else two (.int .u64 (num (slc s.data.toList at_.toNat width.toNat):Nat)) 0
theorem znJ {B:List UInt8} {N:Int} (h:chk B N=0):right B N:=by
 unfold chk at h
 split at h
 ·assumption
 ·cases h
theorem zsq {B:List UInt8} {N:Int} (h : ¬ chk B N=0):chk B N=2:=by
 unfold chk at h ⊢
 split at h
 ·exact absurd rfl h
 ·rename_i hn;rw [if_neg hn]
theorem zqA {p:Prop} [Decidable p] (h:(!decide p)=true) : ¬ p:=by simpa using h
theorem zqB {p:Prop} [Decidable p] (h:(!decide p)=false):p:=by simpa using h
theorem zsr (S:Mem) (p:Nat):wrM S p none []=S.set p ⟨83,[.slice none 0 0,.int .u64 0,.int .i64 0],3⟩:=rfl
theorem znK {S:Mem} {p:Nat} (h:Fresh S p):OkW S p none []:=⟨h,fun _=>by simp,fun b c e=>by cases e⟩
theorem zk2 {S:Mem} {p b:Nat} {o:Option (Nat × Nat)} {L:List Bool} {r:Blk} (hk:OkW S p o L) (h:S.own b=some r):(wrM S p o L).own b=some r :=
 zsp S p o L b r (hk.fp.ne h) (fun q c e=>(hk.own q c e).1.ne h) h
theorem zj0 {B:List UInt8} {N:Int} (h : ¬ right B N):chk B N=2:=if_neg h
theorem zgP {B:List UInt8} {N:Int} (h:right B N):chk B N=0:=if_pos h
theorem znL (B:List UInt8) (N:Int) (h0:0≤N) (h1:N≤1048576) (h2:B.length=(N.toNat+7) / 8):right B N ↔ (N % 8=0∨IntKind.u8.wrap (nb (at8 B (N.toNat / 8))*2 ^ (N % 8).toNat)=0):=by
 unfold right
 rw [right_last B N.toNat h2]
 have e:(N % 8).toNat=N.toNat % 8:=by omega
 have hz:=shl_zero (at8 B (N.toNat / 8)) (N.toNat % 8) (by omega)
 rw [IntKind.wrap_u8,e,hz]
 constructor
 ·rintro ⟨_,_,h | h⟩
  ·exact .inl (by omega)
  ·exact .inr h
 ·rintro (h | h)
  ·exact ⟨h0,h1,.inl (by omega)⟩
  ·exact ⟨h0,h1,.inr h⟩
end Bits
theorem zcZ (x:Int) (S:Mem):ACall Tryz.prog 27 #[.int .i64 x] S fun r S'=>r = .bool (decide (0≤x∧x≤64))∧S'=S:=by
 by_cases h0:0≤x
 ·by_cases h1:x≤64
  ·rw [decide_eq_true (⟨h0,h1⟩ : 0≤x∧x≤64)]
   refine k_E1 (rs:=[.tmp 2]) 9 Tryz.func27 rfl rfl rfl ?_
   refine r17_ ?_
   refine ⟨_,_,⟨_,_,rfl,rfl,rfl⟩,zad,?_⟩
   exact ⟨rfl,rfl⟩
  ·rw [decide_eq_false (fun h=>h1 h.2 : ¬ (0≤x∧x≤64))]
   refine k_E1 (rs:=[.tmp 2]) 9 Tryz.func27 rfl rfl rfl ?_
   refine r17_ ?_
   refine ⟨_,_,⟨_,_,rfl,rfl,rfl⟩,zad,?_⟩
   exact ⟨rfl,rfl⟩
 ·rw [decide_eq_false (fun h=>h0 h.1 : ¬ (0≤x∧x≤64))]
  refine k_E1 (rs:=[.tmp 2]) 9 Tryz.func27 rfl rfl rfl ?_
  refine r17_ ?_
  refine ⟨_,_,⟨_,_,rfl,rfl,rfl⟩,zad,?_⟩
  exact ⟨rfl,rfl⟩
set_option maxHeartbeats 1000000 in
theorem zft (s:ByteArray) (N:Int) (S:Mem) (hs:s.size≤9223372036854775807) :
  ACall Tryz.prog 26 #[.agg #[.string s,.int .i64 N]] S fun r S'=>r = .int .i64 (chk s.data.toList N)∧S'=S:=by
 by_cases h1:N<0
 ·rw [zj0 (fun h=>by have:=h.1;omega)]
  refine k_E1 (rs:=[.tmp 2]) 40 Tryz.func26 rfl rfl rfl ?_
  refine r2_ ?_
  refine ARun.boxA (cs:=[_,_]) (zab rfl) rfl ?_
  intro b1 f1
  have g1:=f1
  repeat ((with_reducible replace g1:=zaa g1);obtain ⟨g1,_⟩:=g1)
  refine nl_ ?_
  refine r27_ ?_
  refine cT_ ?_
  refine r7_ ?_
  refine ⟨_,S,⟨_,_,rfl,rfl,rfl⟩,zad,?_⟩
  exact ⟨rfl,rfl⟩
 by_cases h2:1048576<N
 ·rw [zj0 (fun h=>by have:=h.2.1;omega)]
  refine k_E1 (rs:=[.tmp 2]) 40 Tryz.func26 rfl rfl rfl ?_
  refine r2_ ?_
  refine ARun.boxA (cs:=[_,_]) (zab rfl) rfl ?_
  intro b1 f1
  have g1:=f1
  repeat ((with_reducible replace g1:=zaa g1);obtain ⟨g1,_⟩:=g1)
  refine nl_ ?_
  refine r27_ ?_
  refine cT_ ?_
  refine r7_ ?_
  refine ⟨_,S,⟨_,_,rfl,rfl,rfl⟩,zad,?_⟩
  exact ⟨rfl,rfl⟩
 have hsz:s.size=s.data.toList.length:=(Array.length_toList (xs:=s.data)).symm
 by_cases h3:(s.size:Int)=(N+7) / 8
 ·have hR:=Bits.znL s.data.toList N (by omega) (by omega) (by omega)
  by_cases h4:N % 8=0
  ·rw [zgP (hR.2 (.inl h4))]
   refine k_E1 (rs:=[.tmp 2]) 40 Tryz.func26 rfl rfl rfl ?_
   refine r2_ ?_
   refine ARun.boxA (cs:=[_,_]) (zab rfl) rfl ?_
   intro b1 f1
   have g1:=f1
   repeat ((with_reducible replace g1:=zaa g1);obtain ⟨g1,_⟩:=g1)
   refine nl_ ?_
   refine r27_ ?_
   refine cF_ ?_
   refine r29_ ?_
   refine k_v6 0 1 2 22 3 39 ?_
   refine cF_ ?_
   refine r8_ ?_
   refine ⟨_,S,⟨_,_,rfl,rfl,rfl⟩,zad,?_⟩
   exact ⟨rfl,rfl⟩
  ·have e1:((s.size:Int)-1).toNat=N.toNat / 8:=by omega
   refine k_E1 (rs:=[.tmp 2]) 40 Tryz.func26 rfl rfl rfl ?_
   refine r2_ ?_
   refine ARun.boxA (cs:=[_,_]) (zab rfl) rfl ?_
   intro b1 f1
   have g1:=f1
   repeat ((with_reducible replace g1:=zaa g1);obtain ⟨g1,_⟩:=g1)
   refine nl_ ?_
   refine r27_ ?_
   refine cF_ ?_
   rw [← e1] at hR
   refine r29_ ?_
   refine AWP.condB rfl (fun hc=>?_) (fun hc=>?_)
   ·refine r7_ ?_
    refine ⟨_,S,⟨_,_,rfl,rfl,rfl⟩,zad,?_⟩
    exact ⟨by rw [zj0 (fun h=>by rcases hR.1 h with h | h;exact h4 h;exact zqA hc h)];rfl,rfl⟩
   ·refine r8_ ?_
    refine ⟨_,S,⟨_,_,rfl,rfl,rfl⟩,zad,?_⟩
    exact ⟨by rw [zgP (hR.2 (.inr (zqB hc)))];rfl,rfl⟩
 ·rw [zj0 (fun h=>h3 (by have:=h.2.2.1;omega))]
  refine k_E1 (rs:=[.tmp 2]) 40 Tryz.func26 rfl rfl rfl ?_
  refine r2_ ?_
  refine ARun.boxA (cs:=[_,_]) (zab rfl) rfl ?_
  intro b1 f1
  have g1:=f1
  repeat ((with_reducible replace g1:=zaa g1);obtain ⟨g1,_⟩:=g1)
  refine nl_ ?_
  refine r27_ ?_
  refine cT_ ?_
  refine r7_ ?_
  refine ⟨_,S,⟨_,_,rfl,rfl,rfl⟩,zad,?_⟩
  exact ⟨rfl,rfl⟩
end
section
open Go.RowKit
open Bits Mv
set_option maxRecDepth 20000
namespace Bits
theorem zcW (s:ByteArray):s.size=s.data.toList.length:=(Array.length_toList (xs:=s.data)).symm
end Bits
set_option maxHeartbeats 1000000 in
theorem znM (s:ByteArray) (N at_ wd:Int) (S:Mem) (hs:s.size≤9223372036854775807) (hw0 : -9223372036854775808≤wd) (hw1:wd≤9223372036854775807) :
  ACall Tryz.prog 11 #[.agg #[.string s,.int .i64 N],.int .i64 at_,.int .i64 wd] S fun r S'=>r=getP s N at_ wd∧S'=S:=by
 unfold getP
 refine k_E3 (rs:=[.tmp 6,.tmp 7]) 39 Tryz.func11 rfl rfl rfl ?_
 refine r2_ ?_
 refine ARun.boxA (cs:=[_,_]) (zab rfl) rfl ?_
 intro b3 f3
 have g3:=f3
 repeat ((with_reducible replace g3:=zaa g3);obtain ⟨g3,_⟩:=g3)
 refine nl_ ?_
 refine r8_ ?_
 refine ca_ rfl (zft s N _ hs) ?_
 rintro _ _ ⟨rfl,rfl⟩
 refine r9_ ?_
 refine AWP.condB rfl (fun hc=>?_) (fun hc=>?_)
 ·have hc:=zqA hc
  refine r9_ ?_
  refine ⟨_,S,⟨_,_,rfl,⟨_,_,rfl,rfl,rfl⟩,rfl⟩,zad,?_⟩
  exact ⟨by rw [if_pos hc,zsq hc];rfl,rfl⟩
 ·have hc:=zqB hc
  rw [if_neg (fun h=>h hc)]
  obtain ⟨hN0,hN1,hR⟩:=znJ hc
  by_cases hw:0≤wd∧wd≤64
  ·by_cases ha:at_<0
   ·refine r7_ ?_
    refine ca_ rfl (zcZ wd _) ?_
    rintro _ _ ⟨rfl,rfl⟩
    rw [decide_eq_true hw]
    refine r14_ ?_
    refine cT_ ?_
    refine r9_ ?_
    refine ⟨_,S,⟨_,_,rfl,⟨_,_,rfl,rfl,rfl⟩,rfl⟩,zad,?_⟩
    exact ⟨by rw [if_pos (.inr (.inl ha))];rfl,rfl⟩
   ·by_cases hb:N<at_
    ·refine r7_ ?_
     refine ca_ rfl (zcZ wd _) ?_
     rintro _ _ ⟨rfl,rfl⟩
     rw [decide_eq_true hw]
     refine r14_ ?_
     refine k_v9 0 1 2 3 6 7 8 12 14 ?_
     refine cT_ ?_
     refine r9_ ?_
     refine ⟨_,S,⟨_,_,rfl,⟨_,_,rfl,rfl,rfl⟩,rfl⟩,zad,?_⟩
     exact ⟨by rw [if_pos (.inr (.inr hb))];rfl,rfl⟩
    ·rw [if_neg (fun h=>by rcases h with h | h | h;exact h hw;exact ha h;exact hb h)]
     refine r7_ ?_
     refine ca_ rfl (zcZ wd _) ?_
     rintro _ _ ⟨rfl,rfl⟩
     rw [decide_eq_true hw]
     refine r14_ ?_
     refine cF_ ?_
     refine r11_ ?_
     refine AWP.condB rfl (fun hf=>?_) (fun hf=>?_)
     ·have hf:=of_decide_eq_true hf
      refine r9_ ?_
      refine ⟨_,S,⟨_,_,rfl,⟨_,_,rfl,rfl,rfl⟩,rfl⟩,zad,?_⟩
      exact ⟨by rw [if_pos hf];rfl,rfl⟩
     ·have hf:=of_decide_eq_false hf
      rw [if_neg hf]
      have hs1:s.size=(N.toNat+7) / 8:=by rw [← hR.1];exact zcW s
      refine r8_ ?_
      refine ca_ rfl (ACall.of_calls fun w=>bits_At s (by omega) N at_ wd w (by omega) (by omega) (by omega) (by omega)) ?_
      rintro _ _ ⟨rfl,rfl⟩
      refine r5_ ?_
      refine ⟨_,S,⟨_,_,rfl,⟨_,_,rfl,rfl,rfl⟩,rfl⟩,zad,?_⟩
      exact ⟨rfl,rfl⟩
  ·refine r7_ ?_
   refine ca_ rfl (zcZ wd _) ?_
   rintro _ _ ⟨rfl,rfl⟩
   rw [decide_eq_false hw]
   refine r14_ ?_
   refine cT_ ?_
   refine r9_ ?_
   refine ⟨_,S,⟨_,_,rfl,⟨_,_,rfl,rfl,rfl⟩,rfl⟩,zad,?_⟩
   exact ⟨by rw [if_pos (.inl hw)];rfl,rfl⟩
end
section
open Go.RowKit
open Mv Bits
set_option maxRecDepth 4000
namespace Top
theorem len5 (S:Mem):ACall Tryz.prog 28 #[.int .u64 5] S fun r S'=>r = .int .i64 3∧S'=S:=by
 refine k_E1 (rs:=[.tmp 2]) 25 Tryz.func28 rfl rfl rfl ?_
 refine r12_ ?_
 refine cF_ ?_
 refine r9_ ?_
 refine cF_ ?_
 refine r9_ ?_
 refine cF_ ?_
 refine r6_ ?_
 refine rC (Calm.conv rfl (zbf Tryz.underlying24 Tryz.underlying5 (show IntKind.u8.wrap 5=5 from by decide))) ?_
 refine rC (Calm.as (v':=.int .u8 3) (show Value.int .u8 (nb (at8 _ 5))=Value.int .u8 3 from rfl) (Calm.indexStrN (j:=5) (zau zaA) rfl rfl (by decide +kernel))) ?_
 refine r6_ ?_
 refine ⟨_,S,⟨_,_,rfl,rfl,rfl⟩,zad,?_⟩
 exact ⟨rfl,rfl⟩
theorem zun (p:Nat) (s:ByteArray) (S:Mem) (hp:Fresh S p) :
  ACall Tryz.prog 29 #[.pointer (some ⟨p,0,none⟩),.agg #[.string s,.int .i64 0]] (Bits.wrM S p none []) fun r S'=>r = .tuple #[]∧S'=Bits.wrM S p none []:=by
 refine k_E2 (rs:=[]) 27 Tryz.func29 rfl rfl rfl ?_
 refine r2_ ?_
 refine ARun.boxA (cs:=[_,_]) (zab rfl) rfl ?_
 intro b3 f3
 have g3:=f3
 repeat ((with_reducible replace g3:=zaa g3);obtain ⟨g3,_⟩:=g3)
 refine nl_ ?_
 refine r6_ ?_
 refine ARun.alloc (zab rfl) zic ?_
 intro b4 f4
 have g4:=f4
 repeat ((with_reducible replace g4:=zaa g4);obtain ⟨g4,_⟩:=g4)
 refine nl_ ?_
 refine r9_ ?_
 refine AWP.loop (X:=Unit) (fun x=>[(0,.pointer (some ⟨p,0,none⟩)),(3,.pointer (some ⟨b3,0,none⟩)),(4,.pointer (some ⟨b4,0,none⟩)),(5,.int .i64 0)]) (fun x=>((Bits.wrM S p none []).set b3 ⟨45,[.string s,.int .i64 0],2⟩).set b4 ⟨144,[.string s,.int .i64 0],2⟩) (fun x=>True) (fun x=>0) (()) ⟨rfl,rfl,rfl,rfl,trivial⟩ zad (trivial) ?_
 rintro x _
 (try dsimp only at *)
 refine r9_ ?_
 refine cF_ ?_
 refine r4_ ?_
 refine ⟨_,Bits.wrM S p none [],rfl,zad,?_⟩
 exact ⟨rfl,rfl⟩
def five:ByteArray:=bs (Bits.pack (Bits.numB 5 3))
theorem zk3:Bits.right five.data.toList 3:=⟨by decide,by decide,Bits.right_pack [true,false,true]⟩
theorem zp1:Bits.getP five 3 0 3=Bits.two (.int .u64 5) 0:=by
 unfold Bits.getP
 rw [if_neg (by rw [Bits.zgP zk3];simp),if_neg (by decide),if_neg (by decide)]
 rfl
theorem put5 (S:Mem):ACall Tryz.prog 10 #[.agg #[.string ByteArray.empty,.int .i64 0],.int .u64 5,.int .i64 3] S fun r S'=>r = .tuple #[.agg #[.string five,.int .i64 3],.int .i64 0]∧S'=S:=by
 have hck:=fun S=>zft ByteArray.empty 0 S (by decide)
 rw [Bits.zgP (show Bits.right ByteArray.empty.data.toList 0 from ⟨by decide,by decide,by decide,fun i h1 h2=>by simp at h2⟩)] at hck
 refine k_E3 (rs:=[.cell 6 45,.tmp 7]) 45 Tryz.func10 rfl rfl rfl ?_
 refine r2_ ?_
 refine ARun.boxA (cs:=[_,_]) (zab rfl) rfl ?_
 intro b3 f3
 have g3:=f3
 repeat ((with_reducible replace g3:=zaa g3);obtain ⟨g3,_⟩:=g3)
 refine nl_ ?_
 refine ARun.alloc (zab rfl) zd9 ?_
 intro b6 f6
 have g6:=f6
 repeat ((with_reducible replace g6:=zaa g6);obtain ⟨g6,_⟩:=g6)
 refine nl_ ?_
 refine r7_ ?_
 refine ca_ rfl (hck _) ?_
 rintro _ _ ⟨rfl,rfl⟩
 refine r9_ ?_
 refine cF_ ?_
 refine r7_ ?_
 refine ca_ rfl (zcZ 3 _) ?_
 rintro _ _ ⟨rfl,rfl⟩
 refine r3_ ?_
 refine ARun.callG 3 false 20 rfl (zab rfl) rfl (zab rfl) ztV rfl (len5 _) ?_
 rintro _ _ ⟨rfl,rfl⟩
 refine r6_ ?_
 refine cF_ ?_
 refine r10_ ?_
 refine cF_ ?_
 refine r6_ ?_
 refine ARun.boxA (cs:=[_,_,_]) (zab rfl) rfl ?_
 intro b35 f35
 have g35:=f35
 repeat ((with_reducible replace g35:=zaa g35);obtain ⟨g35,_⟩:=g35)
 refine nl_ ?_
 refine r3_ ?_
 refine zd5 0 1 2 3 6 7 8 13 16 27 9 ?_
 rw [← zsr]
 have hm3:=zk2 (znK f35) (b:=b3) (r:=⟨45,[.string ByteArray.empty,.int .i64 0],2⟩) own_
 refine r4_ ?_
 refine ca_ rfl (zun b35 _ _ f35) ?_
 rintro _ _ ⟨rfl,rfl⟩
 refine r7_ ?_
 refine ca_ rfl (zk0 b35 5 3 _ none _ (by decide) (by decide) (by decide) (by decide) (by decide) (znK f35)) ?_
 rintro _ _ ⟨rfl,o2,hk2,rfl⟩
 refine r5_ ?_
 refine ca_ rfl (zk1 b35 _ o2 _ (by decide) hk2) ?_
 rintro _ _ ⟨rfl,rfl⟩
 refine r5_ ?_
 refine ⟨_,S,⟨_,_,_,rfl,.inr ⟨zch,[_,_],zbX,rds_,rfl⟩,⟨_,_,rfl,rfl,rfl⟩,rfl⟩,zad,?_⟩
 exact ⟨rfl,rfl⟩
theorem zk4 (S:Mem):ACall Tryz.prog 4 #[] S fun r S'=>r = .bool true∧S'=S:=by
 have c2:=fun S=>znM five 3 0 3 S (by decide) (by decide) (by decide)
 rw [zp1] at c2
 unfold Bits.two at c2
 refine ACall.enter (rs:=[.tmp 0]) 30 [] Tryz.func4 rfl rfl (Nat.le_of_ble_eq_true rfl) rfl trivial ?_
 refine r8_ ?_
 refine ca_ rfl (put5 _) ?_
 rintro _ Sx ⟨rfl,h1⟩
 rw [h1];clear h1 Sx
 refine r3_ ?_
 refine ARun.alloc (zab rfl) zd9 ?_
 intro b1 f1
 have g1:=f1
 repeat ((with_reducible replace g1:=zaa g1);obtain ⟨g1,_⟩:=g1)
 refine nl_ ?_
 refine r7_ ?_
 refine ca_ rfl (c2 _) ?_
 rintro _ Sx ⟨rfl,h1⟩
 rw [h1];clear h1 Sx
 refine r28_ ?_
 refine ⟨_,S,⟨_,_,rfl,rfl,rfl⟩,zad,?_⟩
 exact ⟨rfl,rfl⟩
end Top
end
section
open Go.RowKit
open Mv Num Loser
set_option maxRecDepth 4000
theorem zss {S:Mem} {pa:Option Addr} {n ca:Nat} {ks:List (List Nat)} (h:SlOf RowR S (.slice pa n ca) ks) (j:Nat) (hj:j<ks.length):∃ b off g,pa=some ⟨b,off,none⟩∧S.Knows ⟨b,off+j*1,none⟩ [g]∧RowR S g (key ks j):=by
 obtain ⟨gs,hgl,⟨pa',ca',e,a1,a2,a3⟩,hge⟩:=h
 cases e
 obtain ⟨b,off,rfl,hkn⟩:=a3.resolve_left (by intro h;rw [h] at hgl;simp at hgl;omega)
 exact ⟨b,off,gs[j]'(by omega),rfl,hkn j (by omega),by rw [zcf ks j hj];exact hge j hj (by omega)⟩
end
section
open Go.RowKit
open Mv Disk Num Sto Run
set_option maxRecDepth 4000
namespace Top
structure KX where
  i:Nat
  o:Option (Nat × Nat)
  k:List Nat
structure YX where
  M:Mem
  i:Nat
  o:Option (Nat × Nat)
  hs:List Value
set_option maxHeartbeats 8000000 in
theorem zgQ (v:Value) (l:List Nat) (S:Mem) (hl:RowR S v l) (hll:l.length≤17592186043904) (hlb:∀ n ∈ l,n<18446744073709551616) (hEO:ErrO S) :
  ACall Tryz.prog 3 #[v] S fun r S'=>r = .bool true:=by
 obtain ⟨pk,ck,rfl,l1,l2,l3⟩:=id hl
 obtain ⟨eu,ex,hE⟩:=hEO
 refine k_E1 (rs:=[.tmp 2]) 151 Tryz.func3 rfl rfl rfl ?_
 refine r8_ ?_
 refine ca_ rfl (zk4 _) ?_
 rintro _ Sx ⟨rfl,h1⟩
 rw [h1];clear h1 Sx
 refine r3_ ?_
 refine cF_ ?_
 refine r16_ ?_
 refine AWP.loop (X:=KX) (fun X=>[(3,outV X.o X.k.length),(26,.slice pk l.length ck),(27,.int .i64 (l.length:Int)),(28,.int .i64 (X.i:Int))]) (fun X=>outM S X.o 24 (X.k.map nU)) (fun X=>X.i≤l.length∧OkO S X.o X.k.length∧Kp X.k) (fun X=>l.length-X.i) (⟨0,none,[]⟩) ⟨rfl,rfl,rfl,rfl,trivial⟩ (Mem.Less.refl _) (⟨Nat.zero_le _,zbR _,⟨List.Pairwise.nil,fun n h=>(by cases h),Nat.zero_le _⟩⟩) ?_
 rintro ⟨i,o,k⟩ ⟨hi,ho,hk⟩
 (try dsimp only at *)
 replace hi:i≤l.length:=hi
 replace ho:OkO S o k.length:=ho
 replace hk:Kp k:=hk
 have hkn:=hk.n
 obtain ⟨oa,oc,hqo⟩:=za6 ho
 by_cases q:i<l.length
 ·refine r6_ ?_
  refine cT_ ?_
  obtain ⟨b0,off,rfl,hkk⟩:=l3.resolve_left (fun e=>by rw [e] at q;exact absurd q (Nat.not_lt_zero _))
  have hki:=(hkk i q).less (zbu (e:=24) (cs:=k.map nU) ho)
  have hsk:Sl 1 (fun x=>[nU x]) (outM S o 24 (k.map nU)) (outV o k.length) k:=zh4 (g:=nU) ho rfl (by omega)
  have hnb:=hlb _ (List.getElem_mem q)
  generalize l[i]=n at *
  rw [hqo] at hsk ⊢
  refine r12_ ?_
  refine AWP.join (X:=Bool) (fun x=>[(3,.slice oa k.length oc),(5,.int .u64 (n:Int)),(6,.bool x),(26,.slice (some ⟨b0,off,none⟩) l.length ck),(27,.int .i64 (l.length:Int)),(28,.int .i64 (i:Int))]) (fun _=>outM S o 24 (k.map nU)) (fun x=>x=true∨(n<1099511627776∧k.length<60)) ?_ ?_
  ·rcases (show 1099511627776≤n∨(¬ 1099511627776≤n∧k.length=60)∨(¬ 1099511627776≤n∧k.length≠60) from by omega) with q1 | ⟨q1,q2⟩ | ⟨q1,q2⟩
   ·refine r2_ ?_
    refine rC (Calm.bin rfl rfl (zag (zct _ _) (decide_eq_true (by omega)))) ?_
    refine r7_ ?_
    refine ⟨true,?_,?_,?_⟩
    all_goals (try dsimp only)
    ·exact .inl rfl
    ·exact ⟨rfl,rfl,rfl,rfl,rfl,rfl,trivial⟩
    ·exact Mem.Less.refl _
   ·refine r2_ ?_
    refine rC (Calm.bin rfl rfl (zag (zct _ _) (decide_eq_false (by omega)))) ?_
    refine r3_ ?_
    first|refine k_q 34 ?_|refine rG 34 (Calm.bin rfl rfl (zag (zaY _ _) (decide_eq_true (by omega)))) ?_
    refine r3_ ?_
    refine ⟨true,?_,?_,?_⟩
    all_goals (try dsimp only)
    ·exact .inl rfl
    ·exact ⟨rfl,rfl,rfl,rfl,rfl,rfl,trivial⟩
    ·exact Mem.Less.refl _
   ·refine r2_ ?_
    refine rC (Calm.bin rfl rfl (zag (zct _ _) (decide_eq_false (by omega)))) ?_
    refine r3_ ?_
    first|refine k_q 34 ?_|refine rG 34 (Calm.bin rfl rfl (zag (zaY _ _) (decide_eq_false (by omega)))) ?_
    refine r3_ ?_
    refine ⟨false,?_,?_,?_⟩
    all_goals (try dsimp only)
    ·exact .inr ⟨by omega,by omega⟩
    ·exact ⟨rfl,rfl,rfl,rfl,rfl,rfl,trivial⟩
    ·exact Mem.Less.refl _
  rintro is0 his
  intro _ _ hs_ hl_
  (try dsimp only at *)
  refine za1 ?_
  refine AWP.sub _ hs_ (AWP.less _ hl_ ?_)
  clear hs_ hl_
  replace his:is0=true∨(n<1099511627776∧k.length<60):=his
  refine r9_ ?_
  refine AWP.loop (X:=Nat × Bool) (fun x=>[(3,.slice oa k.length oc),(5,.int .u64 (n:Int)),(6,.bool x.2),(26,.slice (some ⟨b0,off,none⟩) l.length ck),(27,.int .i64 (l.length:Int)),(28,.int .i64 (i:Int)),(39,.slice oa k.length oc),(40,.int .i64 (k.length:Int)),(41,.int .i64 (x.1:Int))]) (fun _=>outM S o 24 (k.map nU)) (fun x=>x.1≤k.length∧(x.2=true∨((n<1099511627776∧k.length<60)∧n ∉ k.take x.1))) (fun x=>k.length-x.1) ((0,is0)) ⟨rfl,rfl,rfl,rfl,rfl,rfl,rfl,rfl,rfl,trivial⟩ (Mem.Less.refl _) (⟨Nat.zero_le _,his.imp (fun h=>h) (fun h=>⟨h,by simp⟩)⟩) ?_
  rintro ⟨j,is⟩ ⟨hj,hjs⟩
  (try dsimp only at *)
  replace hj:j≤k.length:=hj
  replace hjs:is=true∨((n<1099511627776∧k.length<60)∧n ∉ k.take j):=hjs
  by_cases qj:j<k.length
  ·refine r6_ ?_
   refine cT_ ?_
   obtain ⟨_,_,e0,_,_,s3⟩:=id hsk
   cases e0
   obtain ⟨b1,o1,rfl,hk1⟩:=s3.resolve_left (fun e=>by rw [e] at qj;exact absurd qj (Nat.not_lt_zero _))
   have hkj:=hk1 j qj
   have htk:=List.take_succ_eq_append_getElem qj
   generalize k[j]=z at *
   unfold nU at hkj
   cases is
   ·by_cases qz:z=n
    ·refine r11_ ?_
     refine r5_ ?_
     first|refine k_q 46 ?_|refine rG 46 (Calm.bin rfl rfl (zag (zaY _ _) (decide_eq_true (by omega)))) ?_
     refine r10_ ?_
     refine ⟨(j+1,true),?_,?_,?_,?_⟩
     all_goals (try dsimp only)
     ·exact ⟨rfl,rfl,rfl,rfl,rfl,rfl,rfl,rfl,rfl,trivial⟩
     ·exact Mem.Less.refl _
     ·exact ⟨qj,.inl rfl⟩
     ·omega
    ·refine r11_ ?_
     refine zd5 3 5 6 26 27 28 39 40 41 42 8 ?_
     refine r5_ ?_
     first|refine k_q 46 ?_|refine rG 46 (Calm.bin rfl rfl (zag (zaY _ _) (decide_eq_false (by omega)))) ?_
     refine r10_ ?_
     refine ⟨(j+1,false),?_,?_,?_,?_⟩
     all_goals (try dsimp only)
     ·exact ⟨rfl,rfl,rfl,rfl,rfl,rfl,rfl,rfl,rfl,trivial⟩
     ·exact Mem.Less.refl _
     ·exact ⟨qj,.inr ((hjs.resolve_left (by decide)).imp (fun h=>h) fun h=>by rw [htk];simp only [List.mem_append,List.mem_singleton];exact fun hh=>hh.elim h (fun e=>qz e.symm))⟩
     ·omega
   ·refine r11_ ?_
    refine r16_ ?_
    refine ⟨(j+1,true),?_,?_,?_,?_⟩
    all_goals (try dsimp only)
    ·exact ⟨rfl,rfl,rfl,rfl,rfl,rfl,rfl,rfl,rfl,trivial⟩
    ·exact Mem.Less.refl _
    ·exact ⟨qj,.inl rfl⟩
    ·omega
  ·obtain rfl:j=k.length:=by omega
   refine r6_ ?_
   refine cF_ ?_
   cases is
   ·obtain ⟨⟨g1,g2⟩,g3⟩:=hjs.resolve_left (by decide)
    rw [List.take_length] at g3
    refine r11_ ?_
    refine cT_ ?_
    rw [← hqo]
    refine r3_ ?_
    refine ARun.build1s (zab rfl) zcw rfl rfl ?_
    intro b56 f56
    have g56:=f56
    repeat ((with_reducible replace g56:=zaa g56);obtain ⟨g56,_⟩:=g56)
    refine ARun.appendO (zab rfl) zcw rfl (by rw [List.length_map]) (zd4 ho (by rw [List.length_map]) f56) rfl (news:=[nU n]) rds_ rfl (by omega) (by simp [Value.oneCell',nU]) (by omega) (by omega) ?_
    intro b57 c57 hoo
    refine r4_ ?_
    refine zd5 3 5 6 26 27 28 39 40 41 42 53 ?_
    refine r5_ ?_
    refine ⟨⟨i+1,some (b57,c57),k ++ [n]⟩,?_,?_,?_,?_⟩
    all_goals (try dsimp only)
    ·exact ⟨congrArg (fun q=>some (Value.slice (some ⟨b57,0,none⟩) q c57)) (by simp),rfl,rfl,rfl,trivial⟩
    ·show Mem.Less (outM _ _ _ _) _;rw [List.map_append];exact Mem.Less.refl _
    ·exact ⟨q,by rw [List.length_append];exact hoo,hk.snoc g1 g2 g3⟩
    ·omega
   ·refine r11_ ?_
    refine cF_ ?_
    rw [← hqo]
    refine r8_ ?_
    refine ⟨⟨i+1,o,k⟩,?_,?_,?_,?_⟩
    all_goals (try dsimp only)
    ·exact ⟨rfl,rfl,rfl,rfl,trivial⟩
    ·exact Mem.Less.refl _
    ·exact ⟨q,ho,hk⟩
    ·omega
 ·refine r6_ ?_
  refine cF_ ?_
  have hS0:S.Less (outM S o 24 (k.map nU)):=zbu ho
  have hsk:Sl 1 u64s (outM S o 24 (k.map nU)) (outV o k.length) k:=zh4 (g:=nU) ho rfl (by omega)
  rw [hqo] at hsk ⊢
  generalize outM S o 24 (k.map nU)=M0 at *
  refine r19_ ?_
  refine AWP.loop (X:=YX) (fun X=>[(3,.slice oa k.length oc),(9,outV X.o X.hs.length),(59,.slice oa k.length oc),(60,.int .i64 (k.length:Int)),(61,.int .i64 (X.i:Int))]) (fun X=>outM X.M X.o 22 X.hs) (fun X=>X.i≤k.length∧X.hs.length=X.i∧GrowI RowR M0 X.M X.o X.hs (rwL k X.i)) (fun X=>k.length-X.i) (⟨M0,0,none,[]⟩) ⟨rfl,rfl,rfl,rfl,rfl,trivial⟩ (Mem.Less.refl _) (⟨Nat.zero_le _,rfl,GrowI.nil _ _⟩) ?_
  rintro ⟨M,i2,o2,hs⟩ ⟨hi2,hhs,hI⟩
  (try dsimp only at *)
  replace hi2:i2≤k.length:=hi2
  replace hhs:hs.length=i2:=hhs
  replace hI:GrowI RowR M0 M o2 hs (rwL k i2):=hI
  by_cases q2:i2<k.length
  ·refine r6_ ?_
   refine cT_ ?_
   obtain ⟨_,_,e0,_,_,s3⟩:=id hsk
   cases e0
   obtain ⟨b1,o1,rfl,hk1⟩:=s3.resolve_left (fun e=>by rw [e] at q2;exact absurd q2 (Nat.not_lt_zero _))
   have hki:=(hk1 i2 q2).less (hI.less.trans (zbu (e:=22) (cs:=hs) hI.ok))
   have hre:rw1 k i2 = [k[i2],i2]:=by unfold rw1;rw [Oe.zaJ k i2 0 q2]
   generalize k[i2]=z at *
   unfold u64s at hki
   refine r18_ ?_
   refine ARun.buildN (cs:=[_,_]) (zab rfl) zcw rfl rfl rfl rfl ?_
   intro b70 f70
   have g70:=f70
   repeat ((with_reducible replace g70:=zaa g70);obtain ⟨g70,_⟩:=g70)
   rw [zjd _ _ _ _ _ _ (zcg f70).2]
   refine ARun.build1s (zab rfl) zcx rfl rfl ?_
   intro b71 f71
   have g71:=f71
   repeat ((with_reducible replace g71:=zaa g71);obtain ⟨g71,_⟩:=g71)
   refine ARun.appendO (zab rfl) zcx rfl rfl (zd4 (hI.ok.set (zcg f70).2) rfl f71) rfl (news:=[_]) rds_ rfl (by omega) (by simp [Value.oneCell']) (by omega) (by omega) ?_
   intro b72 c72 hoo
   have hr70:RowR (M.set b70 ⟨24,[.int .u64 (z:Int),.int .u64 (i2:Int)],2⟩) (.slice (some ⟨b70,0,none⟩) 2 2) (rw1 k i2):=by rw [hre];exact Sl.own1 (g:=nU) (Mem.own_set_same _ _ _) List.prefix_rfl rfl (Nat.le_refl _) (by decide)
   have hI2:=hI.step zbN (Mem.less_set M b70 _ (zcg f70).1.1) hr70 hoo
   rw [← zpZ] at hI2
   refine r9_ ?_
   refine ⟨⟨M.set b70 ⟨24,[.int .u64 (z:Int),.int .u64 (i2:Int)],2⟩,i2+1,some (b72,c72),hs ++ [.slice (some ⟨b70,0,none⟩) 2 2]⟩,?_,?_,?_,?_⟩
   all_goals (try dsimp only)
   ·exact ⟨rfl,sq_,rfl,rfl,rfl,trivial⟩
   ·exact Mem.Less.refl _
   ·exact ⟨q2,by rw [List.length_append];show hs.length+1=i2+1;omega,hI2⟩
   ·omega
  ·obtain rfl:i2=k.length:=by omega
   refine r6_ ?_
   refine cF_ ?_
   have hrw:SlOf RowR (outM M o2 22 hs) (outV o2 hs.length) (rwL k k.length):=hI.slOf zbN (by omega)
   have hS1:M0.Less (outM M o2 22 hs):=hI.less.trans (zbu hI.ok)
   have hsk:=hsk.less hS1
   have hE:=hE.less (hS0.trans hS1)
   obtain ⟨ra,rc,hqr⟩:=za6 hI.ok
   rw [hqr] at hrw ⊢
   generalize outM M o2 22 hs=M1 at *
   obtain ⟨z,z1,z2,z3,z4,z5,z6⟩:=zsk hk
   have hrl:(rwL k k.length).length=k.length:=znB _ _
   have hall:=znC hk
   have dz0:Dz (freshD 200):=zgt (zdz (by decide) (by decide)) (by decide)
   have dz1:Dz z:=zgt z2.r (by rw [z2.f];decide)
   have oz1:openD z=(z,0):=zdt z2.r z2.u
   have c0:∀ S,ACall Tryz.prog 5 #[.int .i64 200] S (DkRes (freshD 200,0) S):=fun S=>by have:=zlF 200 S;rw [zkG (by decide) (by decide)] at this;exact this
   have c1:=fun v vl S hd hl=>Rec.zmi v (freshD 200) nA ((2:Nat):Int) (rwL k k.length) vl S hd dz0 hl (zsl hk)
   rw [z1] at c1
   have c2:=fun v S hd hE=>zsn v z nA nB 2 24 (rwL k k.length) S eu ex hd dz1 oz1 z2 z6 (by decide) (by decide) (by decide) (by decide) (zkU hall) (by rw [hrl];exact Nat.le_trans hkn (by decide)) (by omega) (by omega) (by decide) (by decide) (by decide) (by decide) (z5 _ (by decide)) (fun o h=>z5 o (zum h)) (by have:=znD (n:=(rwL k k.length).length) (by omega);omega) hE
   clear dz0 z1
   generalize hzz:freshD 200=z0 at *
   refine r7_ ?_
   refine ca_ rfl (c0 _) ?_
   rintro _ M2 ⟨v2,rfl,hM2,hd2⟩
   have hd2:DkR M2 _ z0:=hd2
   obtain ⟨qe2,de2,qw2,dw2,rfl,_⟩:=id hd2
   refine r3_ ?_
   refine ARun.alloc (zab rfl) zay ?_
   intro b12 f12
   have g12:=f12
   repeat ((with_reducible replace g12:=zaa g12);obtain ⟨g12,_⟩:=g12)
   refine nl_ ?_
   refine r8_ ?_
   refine ca_ rfl ((c1 _ _ M2 hd2 (hrw.less zbN hM2)).frame f12) ?_
   rintro _ Sx ⟨M3,⟨v3,rfl,hM3,hd3⟩,fa,h1⟩
   rw [h1];clear h1 Sx
   have hd3:DkR M3 _ z:=hd3
   obtain ⟨qe3,de3,qw3,dw3,rfl,_⟩:=id hd3
   refine r7_ ?_
   refine k_v9 3 9 59 60 61 62 12 13 14 ?_
   refine r3_ ?_
   refine ca_ rfl ((c2 _ M3 hd3 (hE.less (hM2.trans hM3))).frame fa) ?_
   rintro _ Sx ⟨M4,⟨v4,y,out,k1,k2,k3,rfl,hM4,hd4,hw4,hpm,hso,hfi⟩,fb,h1⟩
   rw [h1];clear h1 Sx
   obtain ⟨qe4,de4,qw4,dw4,rfl,_⟩:=id hd4
   refine r4_ ?_
   refine ARun.alloc (zab rfl) zc3 ?_
   intro b15 f15
   have g15:=f15
   repeat ((with_reducible replace g15:=zaa g15);obtain ⟨g15,_⟩:=g15)
   refine nl_ ?_
   refine r5_ ?_
   refine AWP.less (M4.set b12 ⟨29,[.int .i64 y.d.size,.slice qe4 y.d.ext.length de4,.slice qw4 y.d.waits.length dw4,.int .i64 y.d.fuse,.bool y.d.down],5⟩) (zpM f15) ?_
   have g12:=fb
   have hsk:=hsk.less ((hM2.trans hM3).trans hM4)
   have c4:=fun v S h=>Rec.zoZ v y.d nB S h (zgt hw4.r (by rw [hw4.f];decide))
   unfold Rec.ReadR at c4
   rw [Rec.zmB (by decide) (by decide) (by have:=hpm.length_eq;omega) (zpL hall hpm) hfi] at c4
   simp only at c4
   refine named (S:=M4) (b:=b12) g12.1 ?_
   intro T12 hT12 kb12
   replace hsk:=hsk.less hT12
   replace hd4:=hd4.less hT12
   refine r3_ ?_
   refine ca_ rfl (c4 _ _ hd4) ?_
   rintro _ S6 ⟨v6,rfl,hS6,hr6⟩
   replace hsk:=hsk.less hS6
   replace hd4:=hd4.less hS6
   replace kb12:=hS6.own kb12
   refine r12_ ?_
   refine ca_ rfl (Oe.zsi _ k S6 hsk (by omega) hk.d) ?_
   rintro _ S7 ⟨u,e,rfl,hoe,hS7,hu⟩
   obtain rfl:out=e.map (rw1 k):=zsj hoe hpm hso
   have hr7:=hr6.less zbN hS7
   obtain ⟨hs7,hlen7,⟨pr6,cr6,rfl,_⟩,_⟩:=id hr7
   rw [hlen7,List.length_map] at hr7 ⊢
   have hel:=hoe.len
   obtain ⟨pu,cu,rfl,u1,u2,u3⟩:=id hu
   refine r37_ ?_
   refine cF_ ?_
   refine r11_ ?_
   refine AWP.loop (X:=Nat) (fun x=>[(18,.slice pr6 e.length cr6),(20,.slice pu e.length cu),(126,.slice pu e.length cu),(127,.int .i64 (e.length:Int)),(128,.int .i64 (x:Int))]) (fun x=>S7) (fun x=>x≤e.length) (fun x=>e.length-x) (0) ⟨rfl,rfl,rfl,rfl,rfl,trivial⟩ (Mem.Less.refl _) (Nat.zero_le _) ?_
   rintro i3 hi3
   (try dsimp only at *)
   by_cases q3:i3<e.length
   ·refine r6_ ?_
    refine cT_ ?_
    obtain ⟨pb,po,rfl,hku⟩:=u3.resolve_left (fun e0=>by rw [e0] at q3;exact absurd q3 (Nat.not_lt_zero _))
    have hki:=hku i3 q3
    have hlt:e[i3]<k.length:=List.mem_range.1 (hoe.p.mem_iff.1 (List.getElem_mem q3))
    obtain ⟨a1,o1,g1,rfl,k1,x1⟩:=zss hr7 i3 (by rw [List.length_map];exact q3)
    rw [Loser.zcf _ _ (by rw [List.length_map];exact q3),List.getElem_map] at x1
    generalize e[i3]=n at *
    obtain ⟨xa,xc,rfl,_,_,x3⟩:=x1
    obtain ⟨xb,xo,rfl,hxk⟩:=x3.resolve_left (by simp [rw1])
    have hx1:S7.Knows ⟨xb,xo+1*1,none⟩ [.int .u64 (n:Int)]:=hxk 1 (by simp [rw1])
    replace k1:S7.Knows ⟨a1,o1+i3*1,none⟩ [.slice (some ⟨xb,xo,none⟩) 2 xc]:=k1
    refine r13_ ?_
    refine k_v8 18 20 126 127 128 129 22 23 ?_
    refine r21_ ?_
    refine cF_ ?_
    refine r8_ ?_
    refine ⟨i3+1,?_,?_,?_,?_⟩
    all_goals (try dsimp only)
    ·exact ⟨rfl,rfl,rfl,rfl,rfl,trivial⟩
    ·exact Mem.Less.refl _
    ·exact q3
    ·omega
   ·refine r6_ ?_
    refine cF_ ?_
    refine r11_ ?_
    refine ⟨_,_,⟨_,_,rfl,rfl,rfl⟩,zad,?_⟩
    rfl
end Top
theorem zfw (pa:Option Addr) (la ca:Nat) (l:List Nat) (W:World) (w0:Sl 1 (fun x:Nat=>[Value.int .u64 (x:Int)]) (roM W) (.slice pa la ca) l) (wb:∀ n ∈ l,n<18446744073709551616) (zl:l.length≤17592186043904) (hE:Top.ErrO (roM W)) :
  Calls Tryz.prog 3 #[.slice pa la ca] W fun e w'=>e = .returned (.bool true)∧Below W.heap.size W w' :=
 ACall.callsW (Top.zgQ _ l _ w0 zl wb hE)
end
section
open Go.RowKit
open Mv
set_option maxRecDepth 100000
noncomputable def zqC (os:Os):World :=
  { World.doorLaid Tryz.prog 400 os with heap:=(World.doorLaid Tryz.prog 400 os).heap.modify 3 fun
      | .cells _ t frozen=>.cells (match (Rows.laid_unicode_utf8_first) with | .agg l=>(l.map fun d=>match d with | .lit (.int k n)=>Value.int k n | _=>.int .u8 0).toArray | _=>#[]) t frozen
      | o=>o }
noncomputable def zj1 (os:Os):World :=
  { zqC os with heap:=(zqC os).heap.modify 1 fun
      | .cells _ t frozen=>.cells #[.iface 257 (.agg #[.pointer (some ⟨5,58,none⟩)])] t frozen
      | o=>o }
theorem zgR (os:Os) (args:Array Value):((zj1 os).forCall (fun _ _=>0) ⟨#[],args,[]⟩).Shaped Tryz.prog :=
 World.shaped_of_RefB (by kernel_rfl) (by kernel_rfl)
theorem zp2 (os : Os) (args : Array Value) : laidMet Tryz.prog [("unicode/utf8.acceptRanges", Rows.laid_unicode_utf8_acceptRanges), ("wringer/merge.errOrder", Rows.laid_wringer_merge_errOrder), ("unicode/utf8.first", Rows.laid_unicode_utf8_first)] ((zj1 os).forCall (fun _ _ => 0) ⟨#[], args, []⟩).memory :=
 laidMet_of_run' 8 (by kernel_rfl) (by kernel_rfl)
theorem zk5 (os : Os) (args : Array Value) {l : List (String × DataW Unit)} (h : l = [("unicode/utf8.acceptRanges", Rows.laid_unicode_utf8_acceptRanges), ("errors.errorType", Rows.laid_errors_errorType), ("wringer/merge.errOrder", Rows.laid_wringer_merge_errOrder), ("unicode/utf8.first", Rows.laid_unicode_utf8_first)]) : laidMetH Tryz.prog l ((zj1 os).forCall (fun _ _ => 0) ⟨#[], args, []⟩).memory := by
 subst h
 exact laidMetH_of_parts (zp2 os args) (by kernel_rfl)
theorem zhX {W : World} {l : List (String × DataW Unit)} (h : laidMetH Tryz.prog l W) (hl : (l.filter fun x => x.2.handleName?.isSome) = [("errors.errorType", Rows.laid_errors_errorType)]) (hl2 : (l.filter fun x => x.2.handleName?.isNone) = [("unicode/utf8.acceptRanges", Rows.laid_unicode_utf8_acceptRanges), ("wringer/merge.errOrder", Rows.laid_wringer_merge_errOrder), ("unicode/utf8.first", Rows.laid_unicode_utf8_first)]) : Top.ErrO (roM W) := by
 unfold laidMetH at h
 rw [hl] at h
 have h2:=h.1
 rw [hl2] at h2
 obtain ⟨ps,⟨_,_,_,_,_,_,_,_,_,_,⟨g,t,cs,fuel,p,q,e1,e2,e3,e4,_⟩,_⟩,_⟩:=h2
 have eg : Tryz.prog.globalNamed "wringer/merge.errOrder" = some 0 := by kernel_rfl
 obtain rfl:g=0:=Option.some.inj (e1.symm.trans eg)
 have et:(Tryz.prog.globals[0]?).map (·.type)=some 58:=by kernel_rfl
 obtain rfl:t=58:=Option.some.inj (e2.symm.trans et)
 obtain ⟨f',u,v,hcs,_,_⟩:=iface_of_trod Er.under e4
 refine ⟨u,v,zdF fun j x hj=>?_⟩
 match j,hj with
 | 0,hj =>
  have hx:x = .iface u v:=(Option.some.inj hj).symm
  have h0:=World.var?_cell eg e3 0
  have hc0:cs[0]?=some (.iface u v):=by rw [← Array.getElem?_toList,hcs];rfl
  rw [hx]
  simpa [Addr.add] using h0.trans hc0
end
end Go.Proofs.YtoaoibeobhcgmaaGreatDoor
