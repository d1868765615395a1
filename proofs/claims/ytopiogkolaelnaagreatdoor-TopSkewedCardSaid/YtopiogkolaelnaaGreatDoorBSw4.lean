/-
  Texts that belong together: Str, Rec4, CmK, VNum5, VNum3, VNum6, Rec5, Rec6, Rec7, RecMath3, RecMath4, TlMath, Sto1, Pool1, Pool3, Pool4, Pool5, Pool6, Pool7, Sto2, Sto3, Sto4, Sto5, Pool8, Pool9, Pool10, Pool11, Pool12, Pool13, Pool14.
-/
import Derived.Test.YtopiogkolaelnaaGreatDoorBSw3
import Derived.Shelf.SlSortCmp.Whole1
set_option maxHeartbeats 8000000
set_option maxRecDepth 100000
set_option linter.unusedVariables false
set_option linter.unusedSimpArgs false
set_option linter.unusedSectionVars false
namespace Go.Proofs.YtopiogkolaelnaaGreatDoor
open _root_.Go.Proofs.Tryz
section
open Go.RowKit
open Mv
namespace St
theorem zbo (s:tt):s.data.toList.length=s.size:=Array.length_toList (xs:=s.data)
theorem zob {p:UInt8->Bool}:∀ {l:List UInt8},l.dropWhile p = [] <-> ∀ x ∈ l,p x=true
 | []=>⟨λ_ x A=>(by cases A),λ_=>rfl⟩
 | a :: l=>by
  by_cases C:p a=true
  ·rw [List.dropWhile_cons_of_pos C,zob];exact ⟨λh x A=>(List.mem_cons.1 A).elim (λe=>e ▸ C) (h x),λh x A=>h x (List.mem_cons_of_mem _ A)⟩
  rw [List.dropWhile_cons_of_neg C];exact ⟨λh=>(by cases h),λh=>absurd (h a (List.mem_cons_self ..)) C⟩
def rtrim (c:UInt8) (l:List UInt8):List UInt8:=(l.reverse.dropWhile (· == c)).reverse
theorem zoc (c:UInt8) (l:List UInt8) (h:∀ x ∈ l,x=c):rtrim c l = []:=by
 unfold rtrim;rw [zob.2 (λx A=>by simp [h x (List.mem_reverse.1 A)])];rfl
theorem zod (c:UInt8) (l r:List UInt8) (h:∀ x ∈ r,x=c):rtrim c (l ++ r)=rtrim c l:=by
 unfold rtrim;rw [List.reverse_append];have:∀ (a b:List UInt8),(∀ x ∈ a,x=c)->(a ++ b).dropWhile (· == c)=b.dropWhile (· == c):=by
  intro a b A
  induction a with
  | nil=>rfl
  | cons x a C =>
   rw [List.cons_append,List.dropWhile_cons_of_pos (by simp [A x (by simp)])];exact C λy H=>A y (by simp [H])
 rw [this _ _ λx I=>h x (List.mem_reverse.1 I)]
theorem zoe (c x:UInt8) (l:List UInt8) (h:x≠c):rtrim c (l ++ [x])=l ++ [x]:=by
 unfold rtrim;rw [List.reverse_append,List.reverse_singleton,List.singleton_append,List.dropWhile_cons_of_neg (by simpa using h)];simp
theorem zgS (c:UInt8) (l:List UInt8) (m:Nat) (C:m<=l.length) (hd:∀ x ∈ l.drop m,x=c) (he:m=0\/at8 l (m-1)≠c):rtrim c l=l.take m:=by
 rw [<- List.take_append_drop m l,zod c _ _ hd,List.take_append_drop];rcases he with rfl | he
 ·rfl
 by_cases A:m=0
 ·subst A;rfl
 obtain ⟨k,rfl⟩ : ∃ k,m=k+1:=⟨m-1,by omega⟩;rw [List.take_succ_eq_append_getElem (by omega:k<l.length)];refine zoe c _ _ λe=>he ?_;rw [Nat.add_sub_cancel,<- e];simp [at8,List.getD_eq_getElem?_getD,List.getElem?_eq_getElem (by omega:k<l.length)]
theorem nb_inj {a b:UInt8}:nb a=nb b <-> a=b:=by
 unfold nb;constructor
 ·intro h;exact UInt8.toNat_inj.1 vd
 intro h;rw [h]
theorem trimRight (s:tt) (c:UInt8) (S:Mem) (hs:s.size<=9223372036854775807) :
  ACall prog 190 #[.string s,.int .u8 (nb c)] S λr S'=>r = .string (bs (rtrim c s.data.toList))/\S'=S:=by
 have Q:=zbo s;refine k_E2 23 func190 ?_;refine r7_ ?_;refine AWP.loop (X:=Nat) (λm=>[(0,.string (bs (s.data.toList.take m))),(1,.int .u8 (nb c))]) (λm=>S) (λm=>m<=s.size /\ ∀ x ∈ s.data.toList.drop m,x=c) (λm=>m) (s.size) ⟨by rw [List.take_of_length_le vd,bs_of];rfl,rfl,trivial⟩ (Mem.Less.refl _) (⟨Nat.le_refl _,by rw [List.drop_of_length_le vd];intro x A;cases A⟩) ?_;rintro m ⟨W,hd⟩;(try dsimp only at *);have J:(bs (s.data.toList.take m)).size=m:=by rw [zaJ,List.length_take];omega
 by_cases V:m=0
 ·refine r17_ ?_;refine cF_ ?_;refine r12_ ?_;refine ⟨_,S,⟨_,_,rfl,rfl,rfl⟩,zae,?_⟩;exact ⟨by rw [zgS c _ m vd hd (.inl V)];rfl,rfl⟩
 obtain ⟨k,rfl⟩ : ∃ k,m=k+1:=⟨m-1,by omega⟩;have C:at8 (bs (s.data.toList.take (k+1))).data.toList (((bs (s.data.toList.take (k+1))).size:Int)-1).toNat=at8 s.data.toList k:=by rw [J,bs_data,show (((k+1:Nat):Int)-1).toNat=k from by omega];simp [at8,List.getD_eq_getElem?_getD,List.getElem?_take]
 have H:s.data.toList.drop k=at8 s.data.toList k :: s.data.toList.drop (k+1):=by rw [List.drop_eq_getElem_cons (by omega:k<s.data.toList.length)];simp [at8,List.getD_eq_getElem?_getD,List.getElem?_eq_getElem (by omega:k<s.data.toList.length)]
 by_cases A:at8 s.data.toList k=c
 ·have U:nb (at8 (bs (s.data.toList.take (k+1))).data.toList (((bs (s.data.toList.take (k+1))).size:Int)-1).toNat)=nb c:=by rw [C,A]
  refine r17_ ?_;refine cT_ ?_;refine r13_ ?_;refine ⟨k,?_,?_,?_,?_⟩<;>try dsimp only
  ·exact ⟨by rw [show (bs (s.data.toList.take k))=(bs (s.data.toList.take (k+1))).extract 0 (((bs (s.data.toList.take (k+1))).size:Int)-1).toNat from by rw [J,show (((k+1:Nat):Int)-1).toNat=k from by omega];apply zbG;rw [Lib.extract_data,bs_data,bs_data];simp [List.take_take]];rfl,rfl,trivial⟩
  ·exact zae
  ·exact ⟨by omega,by rw [H];intro x I;rcases List.mem_cons.1 I with e | e;exact e.trans A;exact hd x e⟩
  omega
 have U:nb (at8 (bs (s.data.toList.take (k+1))).data.toList (((bs (s.data.toList.take (k+1))).size:Int)-1).toNat)≠nb c:=by rw [C];exact λe=>A (nb_inj.1 e)
 refine r17_ ?_;refine cF_ ?_;refine r11_ ?_;refine kw_ [0,1,16,4] ?_;refine s1_ ?_;refine ⟨_,S,⟨_,_,rfl,rfl,rfl⟩,zae,?_⟩;exact ⟨by rw [zgS c _ (k+1) vd hd (.inr A)];rfl,rfl⟩
theorem trimLeft (s:tt) (c:UInt8) (S:Mem) (hs:s.size<=9223372036854775807) :
  ACall prog 189 #[.string s,.int .u8 (nb c)] S λr S'=>r = .string (bs (s.data.toList.dropWhile (· == c)))/\S'=S:=by
 have I:=zbo s;have V:∀ l:List UInt8,l.dropWhile (· == c) = [] \/ ∃ x r,l.dropWhile (· == c)=x :: r/\x≠c:=λl=>by
  induction l with
  | nil=>exact .inl rfl
  | cons x l U =>
   by_cases h:x=c
   ·rw [List.dropWhile_cons_of_pos (by simp [h])];exact U
   rw [List.dropWhile_cons_of_neg (by simpa using h)];exact .inr ⟨x,l,rfl,h⟩
 refine k_E2 17 func189 ?_;refine r7_ ?_;refine AWP.loop (X:=Nat) (λm=>[(0,.string (bs (s.data.toList.drop m))),(1,.int .u8 (nb c))]) (λm=>S) (λm=>m<=s.size/\(s.data.toList.drop m).dropWhile (· == c)=s.data.toList.dropWhile (· == c)) (λm=>s.size-m) (0) ⟨by rw [List.drop_zero,bs_of];rfl,rfl,trivial⟩ (Mem.Less.refl _) (⟨Nat.zero_le _,rfl⟩) ?_;rintro m ⟨Y,hd⟩;(try dsimp only at *);have J:(bs (s.data.toList.drop m)).size=s.size-m:=by rw [zaJ,List.length_drop];omega
 by_cases W:m=s.size
 ·refine r14_ ?_;refine cF_ ?_;refine r12_ ?_;refine ⟨_,S,⟨_,_,rfl,rfl,rfl⟩,zae,?_⟩;exact ⟨by rw [<- hd,List.drop_of_length_le vd];rfl,rfl⟩
 have A:s.data.toList.drop m=at8 s.data.toList m :: s.data.toList.drop (m+1):=by rw [List.drop_eq_getElem_cons (by omega:m<s.data.toList.length)];simp [at8,List.getD_eq_getElem?_getD,List.getElem?_eq_getElem (by omega:m<s.data.toList.length)]
 have C:at8 (bs (s.data.toList.drop m)).data.toList (0:Int).toNat=at8 s.data.toList m:=by rw [bs_data,A];rfl
 by_cases H:at8 s.data.toList m=c
 ·have Q:nb (at8 (bs (s.data.toList.drop m)).data.toList (0:Int).toNat)=nb c:=by rw [C,H]
  refine r14_ ?_;refine cT_ ?_;refine r10_ ?_;refine ⟨m+1,?_,?_,?_,?_⟩<;>try dsimp only
  ·exact ⟨by rw [show (bs (s.data.toList.drop (m+1)))=(bs (s.data.toList.drop m)).extract 1 (bs (s.data.toList.drop m)).size from by apply zbG;rw [Lib.extract_data,bs_data,bs_data,J,A];simp;rw [List.take_of_length_le (by rw [List.length_drop];omega)]];rfl,rfl,trivial⟩
  ·exact zae
  ·exact ⟨by omega,by rw [<- hd,A,List.dropWhile_cons_of_pos (by simp [H])]⟩
  omega
 have Q:nb (at8 (bs (s.data.toList.drop m)).data.toList (0:Int).toNat)≠nb c:=by rw [C];exact λe=>H (nb_inj.1 e)
 refine r14_ ?_;refine cF_ ?_;refine r11_ ?_;refine kw_ [0,1,13,4] ?_;refine s1_ ?_;refine ⟨_,S,⟨_,_,rfl,rfl,rfl⟩,zae,?_⟩;exact ⟨by rw [<- hd,A,List.dropWhile_cons_of_neg (by simpa using H)];rfl,rfl⟩
theorem zw5 (s:tt) (S:Mem) (hs:s.size<=9223372036854775807) :
  ACall prog 133 #[.string s,.string ⟨#[0]⟩] S λr S'=>r = .string (bs ((rtrim 0 s.data.toList).dropWhile (· == 0)))/\S'=S:=by
 have I:(⟨#[0]⟩ : tt).size=1:=rfl;have A:(⟨#[0]⟩ : tt)≠ByteArray.empty:=λe=>by have:=congrArg ByteArray.size e;rw [I] at this;exact absurd this (by decide)
 have U:nb (at8 (⟨#[0]⟩ : tt).data.toList (0:Int).toNat)=0:=rfl;by_cases H:s=ByteArray.empty
 ·subst H;refine k_E2 43 func133 ?_;refine r9_ ?_;refine rC (vi rfl rfl (zag (zaw _ _) (decide_eq_true rfl))) ?_;refine r6_ ?_;refine cT_ ?_;refine r8_ ?_;refine ⟨_,S,⟨_,_,rfl,rfl,rfl⟩,zae,?_⟩;exact ⟨rfl,rfl⟩
 have J:(bs (rtrim 0 s.data.toList)).size<=9223372036854775807:=by
  rw [zaJ];unfold rtrim;rw [List.length_reverse];have Q:=(List.dropWhile_sublist (· == (0:UInt8)) (l:=s.data.toList.reverse)).length_le;rw [List.length_reverse] at Q;have:=zbo s;omega
 have C:=trimLeft (bs (rtrim 0 s.data.toList)) 0 S J;rw [bs_data] at C;refine k_E2 43 func133 ?_;refine r9_ ?_;refine rC (vi rfl rfl (zag (zaw _ _) (decide_eq_false H))) ?_;refine r2_ ?_
 first|refine k_q 9 ?_|refine rG 9 (vi rfl rfl (zag (zaw _ _) (decide_eq_false A))) ?_
 refine r3_ ?_;refine cF_ ?_;refine r15_ ?_;refine cT_ ?_;refine s1_ ?_;refine dr_ [i0_,i1_,i2_,i4_,i5_,o3_,o6_,i7_] [] ?_;refine r5_ ?_;refine zac rfl ?_;refine cp_ rfl (trimRight s 0 S hs) ?_;refine zad ⟨ny_,?_⟩;refine zac rfl ?_;refine cp_ rfl (C) ?_;refine zad ⟨ny_,?_⟩;refine r3_ ?_;refine kw_ [0,1,4,12,21] ?_;refine r2_ ?_;refine ⟨_,S,⟨_,_,rfl,rfl,rfl⟩,zae,?_⟩;exact ⟨rfl,rfl⟩
theorem zq0 (l:List UInt8):((rtrim 0 l).dropWhile (· == 0) = []) <-> (l.all λb=>b == 0)=true:=by
 constructor
 ·intro h;rw [List.all_eq_true];intro x C;have Q:∀ y ∈ rtrim 0 l,(y == (0:UInt8))=true:=zob.1 h;have I:∀ (r:List UInt8),(∀ y ∈ (r.dropWhile (· == (0:UInt8))),(y == (0:UInt8))=true) -> ∀ y ∈ r,(y == (0:UInt8))=true:=by
   intro r
   induction r with
   | nil=>intro _ y hy;cases hy
   | cons a r J =>
    by_cases A:(a == (0:UInt8))=true
    ·rw [List.dropWhile_cons_of_pos (p:=λx=>x == (0:UInt8)) A];intro H y hy;rcases List.mem_cons.1 hy with rfl | hy
     ·exact A
     exact J H y hy
    rw [List.dropWhile_cons_of_neg (p:=λx=>x == (0:UInt8)) A];exact λH=>H
  exact I l.reverse (λy hy=>Q y (by unfold rtrim;exact List.mem_reverse.2 hy)) x (List.mem_reverse.2 C)
 intro h;rw [zoc 0 l (λx C=>by have:=List.all_eq_true.1 h x C;simpa using this)];rfl
theorem hasPrefix (s p:tt) (S:Mem) (hs:s.size<=9223372036854775807) (C:p.size<=9223372036854775807) :
  ACall prog 217 #[.string s,.string p] S λr S'=>r = .bool (decide (s.data.toList.take p.size=p.data.toList))/\S'=S:=by
 have H:=zbo s;have A:=zbo p;by_cases h:p.size<=s.size
 ·have e:decide (s.extract 0 p.size=p)=decide (s.data.toList.take p.size=p.data.toList):=by
   rw [decide_eq_decide];constructor
   ·intro h;rw [<- congrArg (λx=>x.data.toList) h];simp [Lib.extract_data]
   intro h;apply zbG;rw [<- h];simp [Lib.extract_data]
  refine k_E2 18 func217 ?_;refine r24_ ?_;refine ⟨_,S,⟨_,_,rfl,rfl,rfl⟩,zae,?_⟩;exact ⟨by rw [<- e];rfl,rfl⟩
 have e:decide (s.data.toList.take p.size=p.data.toList)=false:=decide_eq_false λh=>by
  have:=congrArg List.length h;rw [List.length_take] at this;omega
 rw [e];refine k_E2 18 func217 ?_;refine r24_ ?_;refine ⟨_,S,⟨_,_,rfl,rfl,rfl⟩,zae,?_⟩;exact ⟨rfl,rfl⟩
theorem HasPrefix (s p:tt) (S:Mem) (hs:s.size<=9223372036854775807) (A:p.size<=9223372036854775807) :
  ACall prog 156 #[.string s,.string p] S λr S'=>r = .bool (decide (s.data.toList.take p.size=p.data.toList))/\S'=S:=by
 refine k_E2 8 func156 ?_;refine r9_ ?_;refine cp_ rfl (hasPrefix s p _ hs A) ?_;refine r4_ ?_;refine ⟨_,S,⟨_,_,rfl,rfl,rfl⟩,zae,?_⟩;exact ⟨rfl,rfl⟩
end St
end
section
open Go.RowKit
open Mv Disk Num
namespace Rec
theorem zeJ {d:D} (C:Right d) {s:tt} {k:Int} (h:(readD d s k).2=0):(placeD d s k).2=0/\(readD d s k).1.size=64:=by
 have A:(placeD d s k).2=0:=by
  by_cases q:(placeD d s k).2=0
  ·exact q
  rw [zcF,if_pos q] at h;exact absurd h q
 refine ⟨A,?_⟩;rw [zcF,if_neg (by simpa using A)];obtain ⟨J,V,U⟩:=zd6 A;have I:=zbw C.ex.asc J;have W:=(zc9 (C.ex.ok _ I.1)).2;unfold seen;rcases zhr allK d.waits s k ((exOf d.ext s).2.extract (64*k.toNat) (64*k.toNat+64)) d.waits.length with e | ⟨w,Q,_,_,e⟩
 ·rw [e,ByteArray.size_extract];omega
 rw [e];obtain ⟨_,_,_,_,_,H⟩:=C.wr w Q;exact H
noncomputable def headD (d:D) (s:tt):Nat × Nat × Int :=
  if (readD d s 0).2≠0 then (0,0,(readD d s 0).2) else
  if (formP (readD d s 0).1).2.2≠0 then (0,0,(formP (readD d s 0).1).2.2) else
  if (needP (formP (readD d s 0).1).1 (formP (readD d s 0).1).2.1).2≠0\/(sec (exOf d.ext s):Int)≠(needN (formP (readD d s 0).1).1 (formP (readD d s 0).1).2.1:Nat) then (0,0,2) else
  formP (readD d s 0).1
theorem zeK {d:D} (h:(openD d).2=0) (s:tt) (k:Int):readO d s k=readD d s k:=by unfold readO;rw [if_neg vd]
theorem zcJ {d:D} (h:(openD d).2=0) (s:tt):headP d s=headD d s:=by
 unfold headP headD;rw [zeK h];by_cases q:(readD d s 0).2≠0
 ·rw [if_pos q,if_pos q]
 rw [if_neg q,if_neg q];have A:has d.ext s=true:=by
  have q:(readD d s 0).2=0:=by omega
  by_cases p:(placeD d s 0).2=0
  ·exact (zd6 p).1
  rw [zcF,if_pos p] at q;exact absurd q p
 have hs:(sectorsD d s).1=((sec (exOf d.ext s):Nat):Int):=by unfold sectorsD;rw [if_neg vd,if_pos A]
 rw [hs]
theorem zgT {d:D} (h:(openD d).2≠0) (s:tt):headP d s=(0,0,(openD d).2):=by
 have e:(readO d s 0).2=(openD d).2:=by unfold readO;rw [if_pos h]
 unfold headP;rw [if_pos (by rw [e];exact h),e]
theorem ziI (s:tt) (S:Mem) (hs:s.size<=9223372036854775807):ACall prog 71 #[.string s] S λr S'=>r = .bool (zeroL s.data.toList)/\S'=S:=by
 have e:decide (bs ((St.rtrim 0 s.data.toList).dropWhile (· == 0))=ByteArray.empty)=zeroL s.data.toList:=by
  rw [Bool.eq_iff_iff,decide_eq_true_eq];unfold zeroL;rw [<- St.zq0];constructor
  ·intro h;have:=congrArg (λx=>x.data.toList) h;rw [bs_data] at this;exact this
  intro h;rw [h];rfl
 refine k_E1 6 func71 ?_;refine r8_ ?_;refine cp_ rfl (St.zw5 s _ hs) ?_;refine r5_ ?_;refine ⟨_,S,⟨_,_,rfl,rfl,rfl⟩,zae,?_⟩;exact ⟨by rw [<- e];rfl,rfl⟩
def formV (p:Nat × Nat × Int):tu:=.tuple #[.int .i64 (p.1:Nat),.int .u64 (p.2.1:Nat),.int .i64 p.2.2]
theorem zk1 (l:List UInt8) (j:Nat):at8 l j=l.getD j 0:=rfl
theorem zq1 (s:tt) (S:Mem) (hs:s.size=64):ACall prog 129 #[.string s] S λr S'=>r=formV (formP s)/\S'=S:=by
 have A:=λM=>St.HasPrefix s ⟨#[87,82]⟩ M vd (by show 2<=_;decide);have X:(⟨#[87,82]⟩ : tt).data.toList = [87,82]:=rfl;rw [X] at A;have ac:=St.zbo s;unfold formV formP;by_cases C:s.data.toList.take 2 = [87,82]
 ·rw [show s.data.toList.take (⟨#[87,82]⟩ : tt).size=s.data.toList.take 2 from rfl,decide_eq_true C] at A;by_cases V:8<(s.data.toList.getD 2 0).toNat
  ·rw [if_pos (.inr (.inl V))];have Y:(8:Int)<nb (at8 s.data.toList (2:Int).toNat):=(by rw [zk1];unfold nb;exact Int.ofNat_lt.2 V);refine k_E1 36 func129 ?_;refine r11_ ?_;refine cp_ rfl (A _) ?_;refine r3_ ?_
   first|refine k_q 10 ?_|refine rG 10 (vQ (zav zaA) rfl rfl vd vd) ?_
   refine r10_ ?_;refine cT_ ?_;refine r9_ ?_;refine ⟨_,S,⟨_,_,rfl,⟨_,_,rfl,⟨_,_,rfl,rfl,rfl⟩,rfl⟩,rfl⟩,zae,?_⟩;exact ⟨rfl,rfl⟩
  have Y : ¬ (8:Int)<nb (at8 s.data.toList (2:Int).toNat):=by rw [zk1];unfold nb;exact λh=>V (Int.ofNat_lt.1 h)
  have ad:=nb_nonneg (at8 s.data.toList (2:Int).toNat);have Q:∀ n:Nat,n<=64->(s.extract n s.size).data.toList=s.data.toList.drop n:=λn Y=>by simp [Lib.extract_data];rw [List.take_of_length_le (by rw [List.length_drop];omega)]
  have H:=λM=>ziI (s.extract 12 s.size) M (by rw [ByteArray.size_extract];omega);rw [Q 12 (by decide)] at H;by_cases I:zeroL (s.data.toList.drop 12)=false
  ·rw [if_pos (.inr (.inr I))];rw [I] at H;refine k_E1 36 func129 ?_;refine r11_ ?_;refine cp_ rfl (A _) ?_;refine r3_ ?_
   first|refine k_q 10 ?_|refine rG 10 (vQ (zav zaA) rfl rfl vd vd) ?_
   refine r5_ ?_;refine vv 8 false 15 rfl (zab rfl) rfl (zab rfl) zqq rfl (H _) ?_;rintro _ U ⟨rfl,C⟩;rw [C];clear C U;refine r4_ ?_;refine cT_ ?_;refine r9_ ?_;refine ⟨_,S,⟨_,_,rfl,⟨_,_,rfl,⟨_,_,rfl,rfl,rfl⟩,rfl⟩,rfl⟩,zae,?_⟩;exact ⟨rfl,rfl⟩
  rw [if_neg (λh=>by rcases h with h | h | h;exact h C;exact V h;exact I h)];rw [Bool.not_eq_false] at I;rw [I] at H;have W:∀ M,ACall prog 187 #[.string (s.extract 0 12)] M λr S'=>r = .tuple #[.string (openS (s.extract 0 12)).1,.int .i64 (openS (s.extract 0 12)).2]/\S'=M:=λM=>vR λw=>zqR _ (by rw [ByteArray.size_extract,hs];decide) w;have J:=λM=>zn9 (s.extract 3 s.size) M (by rw [ByteArray.size_extract];omega) (by rw [ByteArray.size_extract];omega);rw [Q 3 (by decide)] at J;by_cases h4:(openS (s.extract 0 12)).2=0
  ·rw [if_neg vd];rw [h4] at W;refine k_E1 36 func129 ?_;refine r11_ ?_;refine cp_ rfl (A _) ?_;refine r3_ ?_
   first|refine k_q 10 ?_|refine rG 10 (vQ (zav zaA) rfl rfl vd vd) ?_
   refine r5_ ?_;refine vv 8 false 15 rfl (zab rfl) rfl (zab rfl) zqq rfl (H _) ?_;rintro _ U ⟨rfl,C⟩;rw [C];clear C U;refine r4_ ?_;refine cF_ ?_;refine r7_ ?_;refine cp_ rfl (W _) ?_;refine r13_ ?_;refine kw_ [0,2,3,4,20,6,28] ?_;refine cF_ ?_;refine r3_ ?_;refine dr_ [i0_,i1_,i2_,i3_,i4_,o5_,i6_,i7_,i8_] [] ?_;refine r5_ ?_;refine zac rfl ?_;refine cp_ rfl (J _) ?_;refine zad ⟨ny_,?_⟩;refine r6_ ?_;refine ⟨_,S,⟨_,_,rfl,⟨_,_,rfl,⟨_,_,rfl,rfl,rfl⟩,rfl⟩,rfl⟩,zae,?_⟩;exact ⟨rfl,rfl⟩
  rw [if_pos h4];refine k_E1 36 func129 ?_;refine r11_ ?_;refine cp_ rfl (A _) ?_;refine r3_ ?_
  first|refine k_q 10 ?_|refine rG 10 (vQ (zav zaA) rfl rfl vd vd) ?_
  refine r5_ ?_;refine vv 8 false 15 rfl (zab rfl) rfl (zab rfl) zqq rfl (H _) ?_;rintro _ U ⟨rfl,C⟩;rw [C];clear C U;refine r4_ ?_;refine cF_ ?_;refine r7_ ?_;refine cp_ rfl (W _) ?_;refine r13_ ?_;refine cT_ ?_;refine r8_ ?_;refine kw_ [0,2,3,4,20,6,28] ?_;refine r2_ ?_;refine ⟨_,S,⟨_,_,rfl,⟨_,_,rfl,⟨_,_,rfl,rfl,rfl⟩,rfl⟩,rfl⟩,zae,?_⟩;exact ⟨rfl,rfl⟩
 rw [if_pos (.inl C)];rw [show s.data.toList.take (⟨#[87,82]⟩ : tt).size=s.data.toList.take 2 from rfl,decide_eq_false C] at A;refine k_E1 36 func129 ?_;refine r11_ ?_;refine cp_ rfl (A _) ?_;refine r14_ ?_;refine cT_ ?_;refine r9_ ?_;refine ⟨_,S,⟨_,_,rfl,⟨_,_,rfl,⟨_,_,rfl,rfl,rfl⟩,rfl⟩,rfl⟩,zae,?_⟩;exact ⟨rfl,rfl⟩
theorem ziJ {S:Mem} {b o:Nat} {u v:tu} (h:S.Knows ⟨b,o,none⟩ [u,v]):S.Knows ⟨b,o+1,none⟩ [v]:=λw C j x A=>by
 cases j with
 | zero =>
  have:=h w C 1 v rfl;simp only [List.getElem?_cons_zero,Option.some.injEq] at A;subst A;rw [zaE] at this ⊢;exact this
 | succ j=>simp at A
theorem zq2 (s n:tt) (x:tt) (kb:Nat) (S:Mem) (H:S.Knows ⟨kb,0,none⟩ [.string s]) :
  ACall prog 131 #[.agg #[.string n,.string x],.pointer (some ⟨kb,0,none⟩)] S λr S'=>r = .bool (decide (n=s))/\S'=S:=by
 refine k_E2 8 func131 ?_;refine r2_ ?_;refine vD (cs:=[_,_]) (zab rfl) rfl ?_;intro I C;have A:=C
 repeat ((with_reducible replace A:=zaa A);obtain ⟨A,_⟩:=A)
 refine nl_ ?_;refine r13_ ?_;refine ⟨_,S,⟨_,_,rfl,rfl,rfl⟩,zae,?_⟩;exact ⟨rfl,rfl⟩
theorem ziK (v:tu) (l:List Ext) (s:tt) (kb:Nat) (S:Mem) (hl:Sl 2 extF S v l) (hk:S.Knows ⟨kb,0,none⟩ [.string s]) (x:Ext) (W:x ∈ l) (H:x.1=s) (V:Asc l) :
  ACall prog 130 #[v,.func (.func 131) #[] #[.pointer (some ⟨kb,0,none⟩)]] S λr S'=>(∃ j,∃ h:j<l.length,r = .int .i64 (j:Int)/\l[j]=x)/\S'=S:=by
 obtain ⟨a,cap,rfl,Q,h2,Y⟩:=id hl;refine k_E2 19 func130 ?_;refine r14_ ?_;refine AWP.loop (X:=Nat) (λi=>[(0,.slice a l.length cap),(1,.func (.func 131) #[] #[.pointer (some ⟨kb,0,none⟩)]),(7,.int .i64 l.length),(8,.int .i64 i)]) (λi=>S) (λi=>i<=l.length /\ ∀ j (h:j<l.length),j<i->l[j].1≠s) (λi=>l.length-i) (0) ⟨rfl,rfl,rfl,rfl,trivial⟩ (Mem.Less.refl _) (⟨Nat.zero_le _,λj _ h=>absurd h (Nat.not_lt_zero _)⟩) ?_;rintro i ⟨hi,A⟩;(try dsimp only at *);obtain ⟨j0,J,e0⟩:=List.getElem_of_mem W;have hc:i<l.length:=by rcases Nat.lt_or_ge i l.length with h | h;exact h;exact absurd (by rw [e0];exact H) (A j0 J vd)
 refine r6_ ?_;refine cT_ ?_;obtain ⟨b,off,rfl,U⟩:=Y.resolve_left (λe=>by subst e;simp at hc);have I:=U i hc;unfold extF at I;refine r17_ ?_;refine vq (zab rfl) zvy rfl rfl (zq2 s l[i].1 l[i].2 kb _ hk) ?_;rintro _ S1 ⟨rfl,Q⟩;rw [Q];clear Q S1;refine r2_ ?_;refine vp rfl (λC=>?_) (λC=>?_)
 ·have C:=of_decide_eq_true C;refine r12_ ?_;refine ⟨_,S,⟨_,_,rfl,rfl,rfl⟩,zae,?_⟩;exact ⟨⟨i,hc,rfl,by have e1:=zbQ V (List.getElem_mem hc);have e2:=zbQ V W;rw [<- e1,<- e2,C,H]⟩,rfl⟩
 have C:=of_decide_eq_false C;refine r8_ ?_;refine ⟨i+1,?_,?_,?_,?_⟩<;>try dsimp only
 ·exact ⟨rfl,rfl,rfl,rfl,trivial⟩
 ·exact zae
 ·exact ⟨hc,λj h hj=>by rcases Nat.lt_or_ge j i with h' | h';exact A j h h';obtain rfl:j=i:=vd;exact C⟩
 omega
end Rec
end
section
open Go.RowKit
open Mv Num
theorem zof {w w':tv} {a:Addr} (h:w'.heap[a.block]?=w.heap[a.block]?):w'.cell? a=w.cell? a:=by unfold World.cell?;rw [h]
theorem ziL {α : Type} [Inhabited α] (enc : α->tu) {S:Mem} {b room m:Nat} {T:tx} {cs:List tu} (d:Array α) (os:Array Obj) {w:tv} (H:View (S.set b ⟨T,cs,room⟩) w) (hl:cs.length=d.size) :
  Step (S.set b ⟨T,cs,room⟩) w (S.set b ⟨T,d.toList.map enc,room⟩) (Go.Proofs.sortWorld enc w b 0 m d os):=by
 obtain ⟨cur,fz,h1,h2,h3,h4⟩:=H.own b _ (vf _ _ _);have ad:d.size<=cur.size:=by have:=h2.length_le;simp only [Array.length_toList] at this;rw [<- hl];exact this
 have V:w.heap.size<=(Go.Proofs.sortWorld enc w b 0 m d os).heap.size:=by
  show w.heap.size<=(w.heap.modify b _ ++ os).size;rw [Array.size_append,Array.size_modify];omega
 have X:∀ k,k<w.heap.size->(Go.Proofs.sortWorld enc w b 0 m d os).heap[k]?=(w.heap.modify b (Go.Sort.onCells (Go.Sort.putCells enc 0 d)))[k]?:=λk A=>by
  show (w.heap.modify b _ ++ os)[k]?=_;rw [Array.getElem?_append_left (by rw [Array.size_modify];exact A)]
 have U:∀ k,k<w.heap.size->k≠b->(Go.Proofs.sortWorld enc w b 0 m d os).heap[k]?=w.heap[k]?:=λk A W=>by
  rw [X k A,Array.getElem?_modify,if_neg (Ne.symm W)]
 have Y:=X b (H.lt (vf _ _ _));rw [Array.getElem?_modify,if_pos rfl,h1] at Y;have C:(Go.Sort.putCells enc 0 d cur).size=cur.size:=by unfold Go.Sort.putCells;rw [Array.size_mapIdx]
 refine ⟨⟨λk r A=>?_,λa v ha=>?_,?_⟩,rfl,rfl,rfl,V,λk A I=>U k A (λe=>by rw [e,vf] at I;cases I),λk A=>.inl ?_,λ_ _ h=>.inl h⟩
 ·by_cases e:k=b
  ·subst e;rw [vf] at A;cases A;refine ⟨_,fz,Y,?_,by rw [C];exact h3,by rw [C];exact h4⟩;rw [List.prefix_iff_eq_take];refine List.ext_getElem (by simp [C];omega) λi i1 i2=>?_;have hi:i<d.size:=(by simpa using i1);rw [List.getElem_map,List.getElem_take,Array.getElem_toList,Array.getElem_toList];unfold Go.Sort.putCells;rw [Array.getElem_mapIdx,if_pos vd];simp [getElem!_pos d i hi]
  rw [vg _ _ e] at A;have J:=(vg S ⟨T,cs,room⟩ e).trans A;rw [U k (H.lt J) e];exact H.own k r J
 ·obtain ⟨g1,Q⟩:=H.ro a v ha;have e:a.block≠b:=λe=>by rw [e,vf] at Q;cases Q
  refine ⟨(zof (U _ (World.block_lt_of_cell? _ _ g1) e)).trans g1,?_⟩;rw [vg _ _ e] at Q ⊢;exact Q
 ·exact H.fzOf rfl (λk A _=>by
   have e:k≠b:=λe=>(by rw [e,vf] at A;cases A);rw [vg _ _ e] at A ⊢;exact A) λk A I=>U k A (λe=>by rw [e,vf] at I;cases I)
 by_cases e:k=b
 ·subst e;rw [vf];simp
 rw [vg _ _ e] at A ⊢;exact A
theorem zsL {P:tz} {α : Type} [Inhabited α] {enc : α->tu} {cf : α -> α->Int} {f g:tA} {cb:Array tu} {T:tx} {S:Mem} {b n cap room:Nat} (L:List α) (hn:L.length=n) (Q:n<4611686018427387904) (hb:Fresh S b)
  (hc:∀ w,View S w -> ∀ x y,Calls P g (#[enc x,enc y] ++ cb) w λe w'=>e = .returned (.int .i64 (cf x y)) /\ ∃ q os,w'=Go.Sort.grow (w.drewN q) os)
  (hk:∀ (d:Array α) (w:tv),Go.Proofs.CmpLays1 P g cb enc cf b 0 d.size w->Go.Sort.Holds enc w b 0 d->b<w.heap.size->d.size<4611686018427387904->Calls P f #[.slice (some ⟨b,0,none⟩) d.size cap,.func (.func g) #[] cb] w λe w'=>e = .returned (.tuple #[]) /\ ∃ d' k os,Go.Sort.PermIn 0 d.size d d'/\Go.Sort.SortedIn (Go.Proofs.ltOf cf) 0 d.size d'/\w'=Go.Proofs.sortWorld enc w b 0 k d' os) :
  ACall P f #[.slice (some ⟨b,0,none⟩) n cap,.func (.func g) #[] cb] (S.set b ⟨T,L.map enc,room⟩) λr S'=>r = .tuple #[] /\ ∃ J:List α,J.Perm L/\J.Pairwise (λx y=>¬ cf y x<0)/\S'=S.set b ⟨T,J.map enc,room⟩:=λw H=>by
 subst hn;obtain ⟨cur,fz,h1,h2,h3,h4⟩:=H.own b _ (vf _ _ _);have X:=H.lt (vf _ _ _);have hh:Go.Sort.Holds enc w b 0 L.toArray:=λj I=>by
  have A:j<L.length:=by simpa using I
  have C:=zcb h2 (show (L.map enc)[j]?=some (enc L[j]) from by simp [A]);have Y:j<cur.size:=by
   have:=(List.getElem?_eq_some_iff.1 C).1;simpa using this
  rw [getElem!_pos L.toArray j I,List.getElem_toArray,Nat.zero_add];constructor
  ·simp only [World.cell?,h1];simpa using C
  have:=h4 j (.inl Y);simp [World.frozen?,h1];omega
 have hl:(L.map enc).length=L.toArray.size:=by simp
 have V:Go.Proofs.CmpLays1 P g cb enc cf b 0 L.toArray.size w:=λm os dk hs x y=>hc _ ((ziL enc (m:=m) dk os H (by rw [hl,hs])).view.less (vh _ _ _ hb.1)) x y;refine (hk L.toArray w V hh X (by simpa using Q)).mono λe w' ⟨he,d',k,os,C,hs,hw⟩=>?_;have hd:d'.size=L.length:=by rw [C.1];simp
 refine ⟨_,S.set b ⟨T,d'.toList.map enc,room⟩,he,⟨rfl,d'.toList,?_,?_,rfl⟩,by rw [hw];exact ziL enc d' os H (by rw [hl,C.1])⟩
 ·have:=C.2.2;rw [show d'.extract 0 L.toArray.size=d' by rw [<- C.1];simp,show L.toArray.extract 0 L.toArray.size=L.toArray by simp] at this;simpa using this
 rw [List.pairwise_iff_getElem];intro i j hi I U;have W:i<d'.size:=by simpa using hi
 have A:j<d'.size:=by simpa using I
 have:=hs i j (Nat.zero_le _) U (by simp;omega);rw [getElem!_pos d' j A,getElem!_pos d' i W] at this;unfold ltOf at this;simpa using this
theorem Mv.ACall.of_view {P:tz} {f:tA} {args:Array tu} {v:tu} {S:Mem} (h:∀ w,View S w->Calls P f args w λe w'=>e = .returned v/\w'=w):ACall P f args S λv' S'=>v'=v/\S'=S:=λw A =>
 (h w A).mono λe w' ⟨H,C⟩=>⟨_,S,H,⟨rfl,rfl⟩,by rw [C];exact Step.refl A⟩
theorem ztJ (x:Int) (w:tv):Calls prog 143 #[.int .u64 x] w λe w'=>e = .returned (.bool false)/\w'=w:=by
 go_enter func143,ntmps143
 go_wp2_with fail
 go_ret
 exact ⟨by simp,rfl⟩
theorem zvS (x y:Nat) (w:tv):Calls prog 87 #[.int .u64 (x:Int),.int .u64 (y:Int)] w λe w'=>e = .returned (.int .i64 (if x<y then -1 else if y<x then 1 else 0))/\w'=w:=by
 rcases Nat.lt_trichotomy x y with q | q | q
 ·have A:(x:Int)<y:=by omega
  go_enter func87,ntmps87
  go_wp2_with (go_at_call 143;refine (ztJ _ _).mono ?_;rintro e w' ⟨rfl,rfl⟩)
  go_ret
  exact ⟨by simp,rfl⟩
 ·subst q
  go_enter func87,ntmps87
  go_wp2_with (go_at_call 143;refine (ztJ _ _).mono ?_;rintro e w' ⟨rfl,rfl⟩)
  go_ret
  exact ⟨by simp,rfl⟩
 have A : ¬ (x:Int)<y:=by omega
 have C:(y:Int)<x:=by omega
 go_enter func87,ntmps87
 go_wp2_with (go_at_call 143;refine (ztJ _ _).mono ?_;rintro e w' ⟨rfl,rfl⟩)
 go_ret
 exact ⟨by simp,rfl⟩

theorem zog {l m:List Nat} {i:Nat} (h:cmpB l m=cmpB (l.drop i) (m.drop i)) (A:i<l.length) (C:i<m.length):cmpB l m=if l[i]<m[i] then -1 else if m[i]<l[i] then 1 else cmpB (l.drop (i+1)) (m.drop (i+1)):=by
 rw [h,List.drop_eq_getElem_cons A,List.drop_eq_getElem_cons C];rfl
theorem ziM (v u:tu) (l m:List Nat) (S:Mem) (Y:Sl 1 u64s S v l) (hu:Sl 1 u64s S u m) (w:tv) (Q:View S w) :
  Calls prog 83 #[v,u] w λe w'=>e = .returned (.int .i64 (cmpB l m))/\w'=w:=by
 obtain ⟨a,c,rfl,l1,l2,W⟩:=Y;obtain ⟨b,d,rfl,m1,m2,m3⟩:=hu
 go_enter func83,ntmps83
 go_wp2_with fail
 go_loop [11] (λA=>∃ i:Nat,i<=l.length/\A = .int .i64 i/\Hid (cmpB l m=cmpB (l.drop i) (m.drop i))) (λA=>l.length-(intOf A).toNat)
 case atStart=>exact ⟨0,Nat.zero_le _,rfl,Lib.hid (by simp)⟩
 case round =>
  obtain ⟨i,hi,rfl,hc⟩:=hrel;by_cases C:i<l.length
  ·obtain ⟨p,o,rfl,V⟩:=W.resolve_left (λe=>by rw [e] at C;simp at C);have g1:w.cell? ⟨p,o+i,none⟩=some (.int .u64 (l[i] : Int)):=(by simpa [Addr.add] using V i C w Q 0 _ rfl);by_cases H:i<m.length
   ·obtain ⟨p2,X,rfl,J⟩:=m3.resolve_left (λe=>by rw [e] at H;simp at H);have g2:w.cell? ⟨p2,X+i,none⟩=some (.int .u64 (m[i] : Int)):=(by simpa [Addr.add] using J i H w Q 0 _ rfl);have hd:=zog hc.out C H;have U:(i:Int)<l.length:=(by omega);have I:(i:Int)<m.length:=(by omega);have j3:(0:Int)<=i:=(by omega);have j4:(i:Int).toNat=i:=(by omega);have h:=zvS l[i] m[i] w;by_cases e1:l[i]<m[i]
    ·rw [if_pos e1] at h hd
     go_wp2_with (go_at_call 87;refine h.mono ?_;rintro e w' ⟨rfl,rfl⟩)
     go_ret
     exact ⟨by simp [hd],rfl⟩
    rw [if_neg e1] at h hd;by_cases e2:m[i]<l[i]
    ·rw [if_pos e2] at h hd
     go_wp2_with (go_at_call 87;refine h.mono ?_;rintro e w' ⟨rfl,rfl⟩)
     go_ret
     exact ⟨by simp [hd],rfl⟩
    rw [if_neg e2] at h hd;have hd:=Lib.hid hd
    go_wp2_with (go_at_call 87;refine h.mono ?_;rintro e w' ⟨rfl,rfl⟩)
    exact ⟨⟨i+1,C,by simp,hd⟩,by simp [intOf];omega⟩
   have hd:cmpB l m=1:=(by rw [hc.out,List.drop_eq_getElem_cons C,List.drop_eq_nil_of_le (show m.length<=i by omega)];rfl);have U:(i:Int)<l.length:=(by omega);have I : ¬ (i:Int)<m.length:=(by omega);have j3:(0:Int)<=i:=(by omega);have j4:(i:Int).toNat=i:=by omega
   go_wp2_with fail
   go_ret
   exact ⟨by simp [hd],rfl⟩
  have U : ¬ (i:Int)<l.length:=by omega
  have e0:l.drop i = []:=List.drop_eq_nil_of_le vd;by_cases H:l.length<m.length
  ·have hd:cmpB l m = -1:=(by rw [hc.out,e0,List.drop_eq_getElem_cons (show i<m.length by omega)];rfl);have I:(l.length:Int)<m.length:=by omega
   go_wp2_with fail
   go_ret
   exact ⟨by simp [hd],rfl⟩
  have hd:cmpB l m=0:=by rw [hc.out,e0,List.drop_eq_nil_of_le (show m.length<=i by omega)];rfl
  have I : ¬ (l.length:Int)<m.length:=by omega
  go_wp2_with fail
  go_ret
  exact ⟨by simp [hd],rfl⟩
theorem zq3 (x y:Nat) (S:Mem):ACall prog 87 #[.int .u64 x,.int .u64 y] S λr S'=>r = .int .i64 (if x<y then -1 else if y<x then 1 else 0)/\S'=S:=.of_view λw _=>zvS x y w
theorem ze2 (a b:List Nat) (C A:tu) (S:Mem) (I:Sl 1 u64s S C a) (H:Sl 1 u64s S A b) :
  ACall prog 83 #[C,A] S λr S'=>r = .int .i64 (cmpB a b)/\S'=S:=.of_view λw J=>ziM C A a b S I H w J
theorem zoh (a b:List Nat) (C A:tu) (S:Mem) (I:Sl 1 u64s S C a) (H:Sl 1 u64s S A b) :
  ACall prog 279 #[C,A] S λr S'=>r = .bool (lessB a b)/\S'=S:=by
 have J:=zhC a b;refine k_E2 9 func279 ?_;refine r9_ ?_;refine cp_ rfl (ze2 a b C A S I H) ?_;refine rC (vi rfl rfl (zag (za9 _ _) J)) ?_;refine r4_ ?_;refine ⟨_,S,⟨_,_,rfl,rfl,rfl⟩,zae,?_⟩;exact ⟨rfl,rfl⟩
namespace Num
end Num
namespace Num
theorem ztK (s:tt) (i:Nat):s.extract i s.size=bs (s.data.toList.drop i):=by
 apply zbG;rw [data_extract,bs_data,List.take_of_length_le (by rw [za6];exact Nat.le_refl _)]
end Num
end
section
open Go.RowKit
open Mv Num
def SplitR (s:tt) (w:Int) (S:Mem) (r:tu) (S':Mem):Prop:=∃ v,r = .tuple #[v,.int .i64 (splitE s w)]/\S.Less S'/\SlOf RowR S' v (splitL s w)
theorem zk2 (s:tt) (w:Int) (h:w<1\/8<w):splitE s w=1/\splitL s w = []:=by
 have:splitE s w=1:=by unfold splitE;rw [if_pos h]
 exact ⟨this,by unfold splitL;rw [this];rfl⟩
theorem zq4 (s:tt) (w:Int) (h : ¬ (w<1\/8<w)) (A:s.size % (5*w.toNat)≠0):splitE s w=5/\splitL s w = []:=by
 have:splitE s w=5:=by unfold splitE;rw [if_neg h,if_pos A]
 exact ⟨this,by unfold splitL;rw [this];rfl⟩
theorem zq5 (s:tt) (w:Int) (h : ¬ (w<1\/8<w)) (A:s.size % (5*w.toNat)=0):splitE s w=0/\splitL s w=rowsTo s.data.toList w.toNat (s.size / (5*w.toNat)):=by
 have:splitE s w=0:=by unfold splitE;rw [if_neg h,if_neg vd]
 exact ⟨this,by unfold splitL;rw [this,if_pos rfl,rowsOf,za6]⟩
def rowZ (l:List UInt8) (w p j:Nat):List tu:=(nrow l j p).map (λn:Nat=>Value.int .u64 (n:Int)) ++ List.replicate (w-j) (.int .u64 0)
theorem zc3 (l:List UInt8) (w p:Nat):(nrow l w p).length=w:=by simp [nrow]
theorem zoi (l:List UInt8) (w p:Nat):nrow l (w+1) p=nrow l w p ++ [ofB ((l.drop (p+5*w)).take 5)]:=by simp [nrow,List.range_succ]
theorem zj3 (l:List UInt8) (w p j:Nat) (h:j<=w):(rowZ l w p j).length=w:=by simp [rowZ,zc3];omega
theorem zq6 (l:List UInt8) (w p j:Nat) (h:j<w):(rowZ l w p j).set j (.int .u64 (ofB ((l.drop (p+5*j)).take 5):Nat))=rowZ l w p (j+1):=by
 unfold rowZ;obtain ⟨m,A⟩ : ∃ m,w-j=m+1:=⟨w-j-1,by omega⟩;rw [A,List.set_append_right _ _ (by simp [zc3]),List.replicate_succ];simp only [List.length_map,zc3,Nat.sub_self,List.set_cons_zero,zoi,List.map_append,List.append_assoc,show w-(j+1)=m from by omega];rfl
theorem zoj (l:List UInt8) (w p:Nat):rowZ l w p w=(nrow l w p).map (λn:Nat=>Value.int .u64 (n:Int)):=by simp [rowZ]
theorem zok (l:List UInt8) (w p:Nat):rowZ l w p 0=List.replicate w (.int .u64 0):=by simp [rowZ,nrow]
theorem zgU (l:List UInt8) (j:Nat):(bs l).extract j (bs l).size=bs (l.drop j):=by rw [ztK,bs_data]
theorem zmi (s:tt) (w:Int) (S:Mem) (hs:s.size<=16777216) :
  ACall prog 28 #[.string s,.int .i64 w] S (SplitR s w S):=by
 have aG:=zfQ s;by_cases c1:w<1
 ·obtain ⟨U,I⟩:=zk2 s w (.inl c1);refine k_E2 50 func28 ?_;refine r19_ ?_;refine cT_ ?_;refine r9_ ?_;refine ⟨_,S,⟨_,_,rfl,⟨_,_,rfl,rfl,rfl⟩,rfl⟩,zae,?_⟩;exact ⟨_,by rw [U];rfl,Mem.Less.refl _,by rw [I];exact SlOf.nil _ _⟩
 by_cases c2:8<w
 ·obtain ⟨U,I⟩:=zk2 s w (.inr c2);refine k_E2 50 func28 ?_;refine r19_ ?_;refine cT_ ?_;refine r9_ ?_;refine ⟨_,S,⟨_,_,rfl,⟨_,_,rfl,rfl,rfl⟩,rfl⟩,zae,?_⟩;exact ⟨_,by rw [U];rfl,Mem.Less.refl _,by rw [I];exact SlOf.nil _ _⟩
 obtain ⟨W,rfl⟩ : ∃ W:Nat,w=W:=⟨w.toNat,by omega⟩;by_cases c3:s.size % (5*W)=0
 ·obtain ⟨U,I⟩:=zq5 s W vd c3;rw [Int.toNat_natCast] at I;obtain ⟨B,hB⟩ : ∃ B,B=5*W:=⟨_,rfl⟩;rw [<- hB] at c3 I;obtain ⟨Q,hQ⟩ : ∃ Q,Q=s.size / B:=⟨_,rfl⟩;have aL:s.size=Q*B:=by rw [hQ,Nat.mul_comm];have:=Nat.div_add_mod s.size B;omega
  rw [<- hQ] at I;have V:((s.size:Int) % (5*(W:Int)))=0:=by rw [show (5*(W:Int))=((B:Nat):Int) from by omega,<- Int.natCast_emod,c3];rfl
  refine k_E2 50 func28 ?_;refine r19_ ?_;refine cF_ ?_;refine r7_ ?_;refine rC (vi rfl rfl (zag (zcp _ _) (zaM V))) ?_;refine r3_ ?_;refine cF_ ?_;refine r10_ ?_;refine AWP.loop (X:=Nat × Mem × Option (Nat × Nat) × List tu) (λx=>[(0,.string (bs (s.data.toList.drop (x.1*B)))),(1,.int .i64 W),(6,outV x.2.2.1 x.2.2.2.length)]) (λx=>outM x.2.1 x.2.2.1 22 x.2.2.2) (λx=>x.1<=Q/\x.2.2.2.length=x.1/\GrowI RowR S x.2.1 x.2.2.1 x.2.2.2 (rowsTo s.data.toList W x.1)) (λx=>Q-x.1) ((0,S,none,[])) ⟨by rw [Nat.zero_mul,List.drop_zero,bs_of];rfl,rfl,rfl,trivial⟩ (Mem.Less.refl _) (⟨Nat.zero_le _,rfl,GrowI.nil _ _⟩) ?_;rintro ⟨k,M,o,hs⟩ ⟨hk,ao,hI⟩;(try dsimp only at *);have aJ:k*B<=Q*B:=Nat.mul_le_mul_right _ hk;have aR:k*5<=k*B:=Nat.mul_le_mul_left _ vd;have Y:(s.data.toList.drop (k*B)).length=s.size-k*B:=by rw [List.length_drop];omega
  obtain ⟨R,hR⟩ : ∃ R,R=s.data.toList.drop (k*B):=⟨_,rfl⟩;rw [<- hR] at Y ⊢;have aO:=bs_size R;by_cases hl:k<Q
  ·have al:(k+1)*B<=Q*B:=Nat.mul_le_mul_right _ hl;rw [Nat.succ_mul] at al;refine r4_ ?_;refine rC (vi rfl rfl (zag (zaP _ _) (zbh (λe=>by have h0:R.length=0:=(by rw [<- bs_size R,e];rfl);omega)))) ?_;refine r2_ ?_;refine kw_ [0,1,6,24] ?_;refine cT_ ?_;refine r7_ ?_;refine ARun.makeSlice (zab rfl) zbi rfl rfl vd vd vd vd ?_;intro C ag;have J:=ag
   repeat ((with_reducible replace J:=zaa J);obtain ⟨J,_⟩:=J)
   refine r3_ ?_;simp only [Nat.mul_one,zaT,Int.toNat_natCast];obtain ⟨an,af⟩:=zcz ag;refine r9_ ?_;refine AWP.loop (X:=Nat) (λx=>[(0,.string (bs R)),(1,.int .i64 W),(6,outV o hs.length),(7,.slice (some ⟨C,0,none⟩) W W),(32,.int .i64 W),(33,.int .i64 x)]) (λx=>(outM M o 22 hs).set C ⟨27,rowZ s.data.toList W (k*B) x,W⟩) (λx=>x<=W) (λx=>W-x) (0) ⟨rfl,rfl,rfl,rfl,rfl,rfl,trivial⟩ (by simp only [zok];exact Mem.Less.refl _) (Nat.zero_le _) ?_;rintro j hj;(try dsimp only at *);refine r6_ ?_;refine vp rfl (λA=>?_) (λA=>?_)
   ·have A:j<W:=(by have:=of_decide_eq_true A;omega);have aK:=zj3 s.data.toList W (k*B) j hj;have he:(bs R).extract (5*(j:Int)).toNat (bs R).size=bs (s.data.toList.drop (k*B+5*j)):=(by rw [show (5*(j:Int)).toNat=5*j from by omega,zgU,hR,List.drop_drop]);have ay:=bs_size (s.data.toList.drop (k*B+5*j));rw [List.length_drop] at ay;refine r16_ ?_;refine rC (Calm.as (congrArg Value.string he) (vP (zav zaA) rfl (zaU _ _) (zb1 _ _ rfl vd vd))) ?_;refine ca_ rfl (zn9 (bs (s.data.toList.drop (k*B+5*j))) _ vd vd) ?_;rintro _ S1 ⟨rfl,h1⟩;rw [h1,bs_data];clear h1 S1;refine r5_ ?_;simp only [Nat.zero_add,Nat.mul_one,Int.toNat_natCast,zq6 _ _ _ _ A];refine r5_ ?_;refine ⟨j+1,?_,?_,?_,?_⟩<;>try dsimp only
    ·exact ⟨rfl,rfl,rfl,rfl,rfl,rfl,trivial⟩
    ·exact Mem.Less.refl _
    ·exact A
    omega
   have A:j=W:=(by have:=of_decide_eq_false A;omega);subst A;rw [zoj];have aq:=zc3 s.data.toList j (k*B);rw [zkG _ _ _ _ _ _ af];have ae:=hI.ok.set (r:=⟨27,(nrow s.data.toList j (k*B)).map (λn:Nat=>Value.int .u64 (n:Int)),j⟩) af;have hr:=zvP (S:=M.set C ⟨27,(nrow s.data.toList j (k*B)).map (λn:Nat=>Value.int .u64 (n:Int)),j⟩) (cap:=j) (vf _ _ _) aq (Nat.le_refl _) vd;have ai:=vh M C ⟨27,(nrow s.data.toList j (k*B)).map (λn:Nat=>Value.int .u64 (n:Int)),j⟩ an.1;obtain ⟨M1,ak⟩ : ∃ M1,M1=M.set C ⟨27,(nrow s.data.toList j (k*B)).map (λn:Nat=>Value.int .u64 (n:Int)),j⟩:=⟨_,rfl⟩;rw [<- ak] at ae hr ai ⊢;refine r8_ ?_;refine vu (zab rfl) zcS rfl rfl ?_;intro aQ am;have H:=am
   repeat ((with_reducible replace H:=zaa H);obtain ⟨H,_⟩:=H)
   refine vF (zab rfl) zcS rfl rfl (zcf ae rfl H) rfl (news:=[_]) rds_ rfl vd (by simp [Value.oneCell']) vd vd ?_;intro av au az;have ah:=hI.step zde ai hr az;rw [show k*B=k*(5*j) from by rw [hB],<- zjR] at ah;have aa:(bs R).extract (5*(j:Int)).toNat (bs R).size=bs (s.data.toList.drop ((k+1)*B)):=(by rw [show (5*(j:Int)).toNat=B from by omega,zgU,hR,List.drop_drop,Nat.succ_mul]);refine r4_ ?_;refine kw_ [0,1,6,7,32,33,34] ?_;refine r4_ ?_;refine rC (Calm.as (congrArg Value.string aa) (vP (zav zaA) rfl (zaU _ _) (zb1 _ _ rfl vd vd))) ?_;refine r3_ ?_;refine ⟨(k+1,M1,some (av,au),hs ++ [.slice (some ⟨C,0,none⟩) j j]),?_,?_,?_,?_⟩<;>try dsimp only
   ·exact ⟨rfl,rfl,by rw [List.length_append];rfl,trivial⟩
   ·exact Mem.Less.refl _
   ·exact ⟨hl,by rw [List.length_append,ao];rfl,ah⟩
   omega
  have ac:k=Q:=by omega
  subst ac;have ax:R = []:=List.eq_nil_of_length_eq_zero vd;refine r4_ ?_;refine rC (vi rfl rfl (zag (zaP _ _) (zaM (by rw [ax];rfl)))) ?_;refine r2_ ?_;refine cF_ ?_;refine r13_ ?_;refine ⟨_,_,⟨_,_,rfl,⟨_,_,rfl,rfl,rfl⟩,rfl⟩,zae,?_⟩;exact ⟨_,by rw [U];rfl,hI.less.trans (zaG hI.ok),by rw [I];exact hI.slOf zde vd⟩
 obtain ⟨U,I⟩:=zq4 s W vd (by rw [Int.toNat_natCast];exact c3);have V : ¬ ((s.size:Int) % (5*(W:Int)))=0:=by rw [show (5*(W:Int))=((5*W:Nat):Int) from by omega,<- Int.natCast_emod];omega
 refine k_E2 50 func28 ?_;refine r19_ ?_;refine cF_ ?_;refine r7_ ?_;refine rC (vi rfl rfl (zag (zcp _ _) (zbh V))) ?_;refine r3_ ?_;refine cT_ ?_;refine r9_ ?_;refine ⟨_,S,⟨_,_,rfl,⟨_,_,rfl,rfl,rfl⟩,rfl⟩,zae,?_⟩;exact ⟨_,by rw [U];rfl,Mem.Less.refl _,by rw [I];exact SlOf.nil _ _⟩
end
section
open Go.RowKit
open Mv Disk Num
namespace Rec
theorem zol {s:tt} (h:s.size=64):(formP s).1<=255/\(formP s).2.1<18446744073709551616/\((formP s).2.2=0->(formP s).1<=8):=by
 unfold formP;by_cases C:s.data.toList.take 2 ≠ [87,82]\/8<(s.data.toList.getD 2 0).toNat\/zeroL (s.data.toList.drop 12)=false
 ·rw [if_pos C];exact ⟨by decide,by decide,λh=>by simp at h⟩
 rw [if_neg C];by_cases A:(openS (s.extract 0 12)).2≠0
 ·rw [if_pos A];exact ⟨Nat.zero_le _,Nat.lt_of_lt_of_le (Nat.zero_lt_succ 0) (by show 1<=18446744073709551616;decide),λh=>absurd h A⟩
 rw [if_neg A];have I:(s.data.toList.getD 2 0).toNat<=8:=by
  rcases Nat.lt_or_ge 8 (s.data.toList.getD 2 0).toNat with h | h
  ·exact absurd (.inr (.inl h)) C
  exact h
 refine ⟨by show (s.data.toList.getD 2 0).toNat<=255;omega,?_,λ_=>I⟩;show ofB ((s.data.toList.drop 3).take 5)<_;have:=zsI ((s.data.toList.drop 3).take 5);have H:((s.data.toList.drop 3).take 5).length=5:=by rw [List.length_take,List.length_drop,St.zbo,h];rfl
 rw [H] at this;omega
theorem zfi {w c:Nat} (A:w<=8):((needP (w:Int) c).2≠0 <-> 65536<c)/\(c<=65536->needP (w:Int) c=(((needN w c:Nat):Int),0)):=by
 unfold needP;by_cases h:65536<c
 ·rw [if_pos vd];exact ⟨⟨λ_=>h,λ_=>by decide⟩,λh'=>by omega⟩
 rw [if_neg vd,Int.toNat_natCast];exact ⟨⟨λh'=>absurd rfl h',λh'=>absurd h' h⟩,λ_=>rfl⟩
theorem zgV (p:Nat) (d:D) (s:tt) (M:Mem) (h:RdV M p d) (hR:Right d) :
  ACall prog 68 #[.pointer (some ⟨p,0,none⟩),.string s] M λr S'=>r=formV (headD d s)/\S'=M:=by
 have I:=λM h=>zhv p d s 0 M h hR;unfold headD;by_cases q1:(readD d s 0).2=0
 ·rw [if_neg vd];obtain ⟨ax,aj⟩:=zeJ hR q1;obtain ⟨ak,_,_⟩:=zd6 ax;obtain ⟨hx,ah⟩:=zbw hR.ex.asc ak;have aB:=(zc9 (hR.ex.ok _ hx)).2;have C:=λM=>zq1 (readD d s 0).1 M aj;obtain ⟨f1,f2,J⟩:=zol aj;rw [show readD d s 0=((readD d s 0).1,0) from Prod.ext rfl q1] at I;generalize (readD d s 0).1=y at *;rcases hf:formP y with ⟨w,c,e⟩
  rw [hf] at C f1 f2 J;simp only [formV] at C f1 f2 J ⊢;by_cases q2:e=0
  ·subst q2;rw [if_neg (by simp)];have J:=J rfl;have H:=λM=>zfh (w:Int) c M;obtain ⟨n1,n2⟩:=zfi (c:=c) J;by_cases q3:65536<c
   ·have n1:=n1.2 q3;rw [if_pos (.inl n1)];unfold needV at H;generalize needP (w:Int) c=nn at *;obtain ⟨qe,de,qw,dw,U,hE,hW⟩:=id h;have Q:=λM' kb hl hk=>ziK (.slice qe d.ext.length de) d.ext s kb M' hl hk _ hx ah hR.ex.asc;refine k_E2 63 func68 ?_;refine r2_ ?_;refine vB (zab rfl) rfl rfl ?_;intro b3 J;have A:=J
    repeat ((with_reducible replace A:=zaa A);obtain ⟨A,_⟩:=A)
    have:=A.ne U;have:=A.ne' U
    refine nl_ ?_;refine r9_ ?_;refine cp_ rfl (I _ (h.less zae)) ?_;refine r14_ ?_;refine cF_ ?_;refine r5_ ?_;refine cp_ rfl (C _) ?_;refine r16_ ?_;refine cF_ ?_;refine r6_ ?_;refine cp_ rfl (H _) ?_;refine r7_ ?_;refine kw_ [0,1,3,4,5,6,7,8,20,9,10,29,11] ?_;refine r8_ ?_;refine ca_ rfl (Q _ b3 (hE.less zae) (Mem.rds.knows rds_)) ?_;rintro _ S1 ⟨⟨j,hj,rfl,W⟩,Y⟩;rw [Y];clear Y S1;refine r25_ ?_;refine cT_ ?_;refine r9_ ?_;refine ⟨_,M,⟨_,_,rfl,⟨_,_,rfl,⟨_,_,rfl,rfl,rfl⟩,rfl⟩,rfl⟩,zae,?_⟩;exact ⟨rfl,rfl⟩
   have n2:=n2 vd;rw [n2] at H ⊢;unfold needV at H;have aG:=zhD J (by omega:c<=65536);generalize needN w c=n at *;obtain ⟨qe,de,qw,dw,U,hE,hW⟩:=id h;have Q:=λM' kb hl hk=>ziK (.slice qe d.ext.length de) d.ext s kb M' hl hk _ hx ah hR.ex.asc;have aC:=(zbl hR).1;have aE:=Nat.le_trans (zkJ hx) (zbl hR).2;obtain ⟨ea,ec,aw,g1,g2,A⟩:=id hE;cases aw;have X:=A.resolve_left (λe=>by rw [e] at hx;cases hx);obtain ⟨eb,eo,rfl,X⟩:=X;generalize exOf d.ext s=x at *;by_cases q4:sec x=n
   ·rw [if_neg vd];refine k_E2 63 func68 ?_;refine r2_ ?_;refine vB (zab rfl) rfl rfl ?_;intro b3 J;have A:=J
    repeat ((with_reducible replace A:=zaa A);obtain ⟨A,_⟩:=A)
    have:=A.ne U;have:=A.ne' U
    refine nl_ ?_;refine r9_ ?_;refine cp_ rfl (I _ (h.less zae)) ?_;refine r14_ ?_;refine cF_ ?_;refine r5_ ?_;refine cp_ rfl (C _) ?_;refine r9_ ?_;refine kw_ [0,1,3,4,5,6,7,8,20,9,10] ?_;refine r7_ ?_;refine cF_ ?_;refine r6_ ?_;refine cp_ rfl (H _) ?_;refine r15_ ?_;refine ca_ rfl (Q _ b3 (hE.less zae) (Mem.rds.knows rds_)) ?_;rintro _ S1 ⟨⟨j,hj,rfl,W⟩,Y⟩;rw [Y];clear Y S1;have V:=ziJ (X j hj);rw [W] at V;rw [show eo+j*2+1=eo+(j:Int).toNat*2+1 from by rw [Int.toNat_natCast]] at V;refine r25_ ?_;refine cF_ ?_;refine r11_ ?_;refine kw_ [0,1,3,4,5,6,7,8,20,9,10,29,11,12,60] ?_;refine s1_ ?_;refine ⟨_,M,⟨_,_,rfl,⟨_,_,rfl,⟨_,_,rfl,rfl,rfl⟩,rfl⟩,rfl⟩,zae,?_⟩;exact ⟨rfl,rfl⟩
   rw [if_pos (by right;show ((sec x:Nat):Int)≠_;omega)];refine k_E2 63 func68 ?_;refine r2_ ?_;refine vB (zab rfl) rfl rfl ?_;intro b3 J;have A:=J
   repeat ((with_reducible replace A:=zaa A);obtain ⟨A,_⟩:=A)
   have:=A.ne U;have:=A.ne' U
   refine nl_ ?_;refine r9_ ?_;refine cp_ rfl (I _ (h.less zae)) ?_;refine r14_ ?_;refine cF_ ?_;refine r5_ ?_;refine cp_ rfl (C _) ?_;refine r16_ ?_;refine cF_ ?_;refine r6_ ?_;refine cp_ rfl (H _) ?_;refine r7_ ?_;refine kw_ [0,1,3,4,5,6,7,8,20,9,10,29,11] ?_;refine r8_ ?_;refine ca_ rfl (Q _ b3 (hE.less zae) (Mem.rds.knows rds_)) ?_;rintro _ S1 ⟨⟨j,hj,rfl,W⟩,Y⟩;rw [Y];clear Y S1;have V:=ziJ (X j hj);rw [W] at V;rw [show eo+j*2+1=eo+(j:Int).toNat*2+1 from by rw [Int.toNat_natCast]] at V;refine r25_ ?_;refine cT_ ?_;refine r9_ ?_;refine ⟨_,M,⟨_,_,rfl,⟨_,_,rfl,⟨_,_,rfl,rfl,rfl⟩,rfl⟩,rfl⟩,zae,?_⟩;exact ⟨rfl,rfl⟩
  rw [if_pos q2];obtain ⟨qe,de,qw,dw,U,hE,hW⟩:=id h;refine k_E2 63 func68 ?_;refine r2_ ?_;refine vB (zab rfl) rfl rfl ?_;intro b3 J;have A:=J
  repeat ((with_reducible replace A:=zaa A);obtain ⟨A,_⟩:=A)
  have:=A.ne U;have:=A.ne' U
  refine nl_ ?_;refine r9_ ?_;refine cp_ rfl (I _ (h.less zae)) ?_;refine r14_ ?_;refine cF_ ?_;refine r5_ ?_;refine cp_ rfl (C _) ?_;refine r9_ ?_;refine kw_ [0,1,3,4,5,6,7,8,20,9,10] ?_;refine r7_ ?_;refine cT_ ?_;refine r10_ ?_;refine ⟨_,M,⟨_,_,rfl,⟨_,_,rfl,⟨_,_,rfl,rfl,rfl⟩,rfl⟩,rfl⟩,zae,?_⟩;exact ⟨rfl,rfl⟩
 rw [if_pos q1];obtain ⟨qe,de,qw,dw,U,hE,hW⟩:=id h;refine k_E2 63 func68 ?_;refine r2_ ?_;refine vB (zab rfl) rfl rfl ?_;intro b3 J;have A:=J
 repeat ((with_reducible replace A:=zaa A);obtain ⟨A,_⟩:=A)
 have:=A.ne U;have:=A.ne' U
 refine nl_ ?_;refine r9_ ?_;refine cp_ rfl (I _ (h.less zae)) ?_;refine r14_ ?_;refine cT_ ?_;refine r8_ ?_;refine kw_ [0,1,3,4,5,6,7,8,20] ?_;refine r2_ ?_;refine ⟨_,M,⟨_,_,rfl,⟨_,_,rfl,⟨_,_,rfl,rfl,rfl⟩,rfl⟩,rfl⟩,zae,?_⟩;exact ⟨rfl,rfl⟩
end Rec
end
section
open Go.RowKit
open Mv Disk Num
namespace Rec
theorem zom {d:D} {s:tt} (U:Right d) {w c:Nat} (h:headD d s=(w,c,0)) :
  has d.ext s=true/\w<=8/\c<=65536/\sec (exOf d.ext s)=needN w c:=by
 unfold headD at h;by_cases H:(readD d s 0).2=0
 ·rw [if_neg vd] at h;obtain ⟨I,J⟩:=zeJ U H;by_cases Q:(formP (readD d s 0).1).2.2=0
  ·rw [if_neg vd] at h;obtain ⟨f1,X,C⟩:=zol J;split at h
   ·cases h
   rename_i A;rw [h] at A C;obtain ⟨n1,W⟩:=zfi (c:=c) (C rfl);refine ⟨(zd6 I).1,C rfl,?_,?_⟩
   ·rcases Nat.lt_or_ge 65536 c with hc | hc
    ·exact absurd (.inl (n1.2 hc)) A
    exact hc
   have A:=not_or.1 A;have V:((sec (exOf d.ext s):Nat):Int)=((needN w c:Nat):Int):=by
    by_cases q:((sec (exOf d.ext s):Nat):Int)=((needN w c:Nat):Int)
    ·exact q
    exact absurd q A.2
   omega
  rw [if_pos Q] at h;have:=congrArg (λp=>p.2.2) h;exact absurd this Q
 rw [if_pos H] at h;have:=congrArg (λp=>p.2.2) h;exact absurd this H
theorem zk3 {d:D} {s:tt} (I:Right d) {n:Nat} (J:has d.ext s=true) (H:sec (exOf d.ext s)=n) {i:Nat} (hi:i<n):(readD d s (i:Int)).2=0/\(readD d s (i:Int)).1.size=64:=by
 have C:(placeD d s (i:Int)).2=0:=by unfold placeD;rw [if_pos J,if_neg (by rw [H];omega)]
 have A:(readD d s (i:Int)).2=0:=by rw [zcF,if_neg (by simpa using C)]
 exact ⟨A,(zeJ I A).2⟩
theorem ziN {d:D} {s:tt} (A:Right d) (H:(openD d).2=0) {n:Nat} (C:has d.ext s=true) (I:sec (exOf d.ext s)=n):∀ k,k+1<=n->(bodyL d s k).length=64*k
 | 0,_=>rfl
 | k+1,h=>by
  unfold bodyL;rw [List.length_append,ziN A H C I k vd,zeK H,St.zbo,(zk3 A C I (i:=k+1) vd).2];omega
def bodyV (p:Nat × tt × Int):tu:=.tuple #[.int .i64 (p.1:Nat),.string p.2.1,.int .i64 p.2.2]
theorem zq7 (v:tu) (d:D) (s:tt) (J:Bool) (S:Mem) (hd:DkR S v d) (hz:Dz d) :
  ACall prog 27 #[v,.string s,.bool J] S λr S'=>r=bodyV (bodyP d s J)/\S'=S:=by
 have A:=zd1 v d S hd hz;obtain ⟨pe,ce,pw,cw,rfl,hE,hW⟩:=id hd;unfold bodyP;have al:=zgT (d:=d) (s:=s);have ao:=zcJ (d:=d) (s:=s);have aD:=λh=>@ziN d s h;have ay:=@zeK d;rcases zcV d with ⟨ho,Y⟩ | ⟨ho,Y,aU⟩ | ⟨ho,Y,aU⟩ <;> rw [ho] at A al ao aD ay
 ·rw [al (by simp),if_pos (by simp)];refine k_E3 78 func27 ?_;refine r2_ ?_;refine k_b5 rfl ?_;intro b3 V;have H:=V
  repeat ((with_reducible replace H:=zaa H);obtain ⟨H,_⟩:=H)
  refine nl_ ?_;refine r8_ ?_;refine ca_ rfl (A.frame V) ?_;rintro _ S1 ⟨M,⟨p,oE,oW,C,rfl,hM⟩,ag,W⟩;rw [W];clear W S1;have ah:S.Less M:=by rw [hM];exact C.less
  refine r14_ ?_;refine cT_ ?_;refine r10_ ?_;refine ⟨_,S,⟨_,_,rfl,⟨_,_,rfl,⟨_,_,rfl,rfl,rfl⟩,rfl⟩,rfl⟩,zae,?_⟩;exact ⟨rfl,rfl⟩
 ·rw [al (by simp),if_pos (by simp)];refine k_E3 78 func27 ?_;refine r2_ ?_;refine k_b5 rfl ?_;intro b3 V;have H:=V
  repeat ((with_reducible replace H:=zaa H);obtain ⟨H,_⟩:=H)
  refine nl_ ?_;refine r8_ ?_;refine ca_ rfl (A.frame V) ?_;rintro _ S1 ⟨M,⟨p,oE,oW,C,rfl,hM⟩,ag,W⟩;rw [W];clear W S1;have ah:S.Less M:=by rw [hM];exact C.less
  refine r14_ ?_;refine kw_ [0,1,2,3,6,7,8,9,10,26] ?_;refine cT_ ?_;refine r10_ ?_;refine ⟨_,S,⟨_,_,rfl,⟨_,_,rfl,⟨_,_,rfl,rfl,rfl⟩,rfl⟩,rfl⟩,zae,?_⟩;exact ⟨rfl,rfl⟩
 rw [ao rfl];have I:=λp M h=>zgV p d s M h Y;have aL:=@zom d s Y;rcases hw:headD d s with ⟨w,c,e⟩
 rw [hw] at I;simp only [formV] at I;by_cases he:e=0
 ·subst he;rw [if_neg (by simp)];obtain ⟨k1,k2,k3,k4⟩:=aL hw;have av:=λi=>@zk3 d s Y (needN w c) k1 k4 i;have az:=aD Y rfl k1 k4;have Q:=λM=>zfh (w:Int) c M;rw [(zfi k2).2 k3] at Q;simp only [needV] at Q;have am:=λM=>zfg w M k2;obtain ⟨m1,m2,m3⟩:=zc2 k2 k3;have a5:=za7 w c;have a7:=zhD k2 k3;have a4:eachN w*c<=64*(needN w c-1):=by unfold needN;omega
  have aJ:∀ k,bodyL d s (k+1)=bodyL d s k ++ (readD d s ((k+1:Nat):Int)).1.data.toList:=λk=>by rw [bodyL,ay rfl]
  have aQ:bodyL d s 0 = []:=rfl;generalize needN w c=n at *;generalize bodyL d s=bL at *;generalize eachN w=ew at *;have a2:(decide (w=0))=true <-> w=0:=by simp
  by_cases ht:J≠decide (w=0)
  ·rw [if_pos ht];have hb:(!(J == decide (w=0)))=true:=(by decide:∀ a b:Bool,a≠b->(!(a == b))=true) _ _ ht;refine k_E3 78 func27 ?_;refine r2_ ?_;refine k_b5 rfl ?_;intro b3 V;have H:=V
   repeat ((with_reducible replace H:=zaa H);obtain ⟨H,_⟩:=H)
   refine nl_ ?_;refine r8_ ?_;refine ca_ rfl (A.frame V) ?_;rintro _ S1 ⟨M,⟨p,oE,oW,C,rfl,hM⟩,ag,W⟩;rw [W];clear W S1;have ah:S.Less M:=(by rw [hM];exact C.less);have aa:RdV M p d:=(by rw [hM];exact C.rd (zaK Y).1 (zaK Y).2);refine r14_ ?_;refine cF_ ?_;refine r6_ ?_;refine cp_ rfl (I p _ (aa.less zae)) ?_;refine r18_ ?_;refine kw_ [0,1,2,3,6,7,8,9,10,26,11,12,35] ?_;refine cF_ ?_;refine r4_ ?_;refine rC (vi rfl rfl (zag (zaV _ _) (show decide ((w:Int)=0)=decide (w=0) from by rw [decide_eq_decide];omega))) ?_;refine rC (vi rfl rfl (zag (zc7 _ _ underlying4) hb)) ?_;refine r3_ ?_;refine cT_ ?_;refine r10_ ?_;refine ⟨_,S,⟨_,_,rfl,⟨_,_,rfl,⟨_,_,rfl,rfl,rfl⟩,rfl⟩,rfl⟩,zae,?_⟩;exact ⟨rfl,rfl⟩
  rw [if_neg ht];have hb:(!(J == decide (w=0)))=false:=(by decide:∀ a b:Bool,¬ a≠b->(!(a == b))=false) _ _ ht;have aC:∀ l:List UInt8,l.length=64*(n-1)->((bs l).extract (((ew*c:Nat):Int)).toNat (bs l).size).data.toList=l.drop (ew*c):=λl hl=>by
   rw [Lib.extract_data,bs_data,zaJ,Int.toNat_natCast,List.take_of_length_le (by rw [List.length_drop];omega)]
  have an:∀ l:List UInt8,(bs l).extract 0 (((ew*c:Nat):Int)).toNat=bs (l.take (ew*c)):=λl=>by
   apply zbG;rw [Lib.extract_data,bs_data,bs_data,Int.toNat_natCast];simp
  refine k_E3 78 func27 ?_;refine r2_ ?_;refine k_b5 rfl ?_;intro b3 V;have H:=V
  repeat ((with_reducible replace H:=zaa H);obtain ⟨H,_⟩:=H)
  refine nl_ ?_;refine r8_ ?_;refine ca_ rfl (A.frame V) ?_;rintro _ S1 ⟨M,⟨p,oE,oW,C,rfl,hM⟩,ag,W⟩;rw [W];clear W S1;have ah:S.Less M:=by rw [hM];exact C.less
  have aa:RdV M p d:=by rw [hM];exact C.rd (zaK Y).1 (zaK Y).2
  refine r14_ ?_;refine cF_ ?_;refine r6_ ?_;refine cp_ rfl (I p _ (aa.less zae)) ?_;refine r18_ ?_;refine kw_ [0,1,2,3,6,7,8,9,10,26,11,12,35] ?_;refine cF_ ?_;refine r4_ ?_;refine rC (vi rfl rfl (zag (zaV _ _) (show decide ((w:Int)=0)=decide (w=0) from by rw [decide_eq_decide];omega))) ?_;refine rC (vi rfl rfl (zag (zc7 _ _ underlying4) hb)) ?_;refine r3_ ?_;refine cF_ ?_;refine r7_ ?_;refine cp_ rfl (Q _) ?_;refine r9_ ?_;refine ARun.alloc (zab rfl) zgt ?_;intro U ad;have ai:=ad
  repeat ((with_reducible replace ai:=zaa ai);obtain ⟨ai,_⟩:=ai)
  refine nl_ ?_;refine r2_ ?_;have ax:M.Less (M.set b3 (bx d pe ce pw cw)):=vh _ _ _ ag.1;have aq:=Bl.R.new (M.set b3 (bx d pe ce pw cw)) U;refine r6_ ?_;generalize hB:(M.set b3 (bx d pe ce pw cw))=B at *;refine s1_ ?_;refine AWP.loop (X:=Nat × Mem) (λx=>[(1,.string s),(9,.pointer (some ⟨p,0,none⟩)),(11,.int .i64 (w:Int)),(12,.int .u64 (c:Int)),(13,.int .i64 (n:Int)),(15,.pointer (some ⟨U,0,none⟩)),(16,.int .i64 ((x.1+1:Nat):Int))]) (λx=>x.2) (λx=>x.1+1<=n/\Bl.R B U (bL x.1) x.2) (λx=>n-x.1) ((0,B.set U (Bl.blk (.pointer none) (.slice none 0 0)))) ⟨rfl,rfl,rfl,rfl,rfl,rfl,rfl,trivial⟩ (Mem.Less.refl _) (⟨by show 0+1<=n;omega,by rw [aQ];exact aq⟩) ?_;rintro ⟨i,T⟩ ⟨hi,hT⟩;(try dsimp only at *);have aO:=hT.less ad;by_cases aE:i+1<n
  ·refine r8_ ?_;refine cT_ ?_;obtain ⟨r1,r2⟩:=av (i+1) aE;have ae:=az i vd;have aB:=zhv p d s ((i+1:Nat):Int) T (aa.less (ax.trans aO)) Y;rw [show readD d s ((i+1:Nat):Int)=((readD d s ((i+1:Nat):Int)).1,0) from Prod.ext rfl r1] at aB;refine r9_ ?_;refine cp_ rfl (aB) ?_;refine r9_ ?_;refine ca_ rfl (Bl.WriteString _ U _ T (readD d s ((i+1:Nat):Int)).1 ad hT vd) ?_;rintro _ T2 ⟨rfl,af⟩;rw [<- aJ i] at af;refine r3_ ?_;refine kw_ [1,9,11,12,13,15,16,52,17] ?_;refine r6_ ?_;refine ⟨(i+1,T2),?_,?_,?_,?_⟩<;>try dsimp only
   ·exact ⟨rfl,rfl,rfl,rfl,rfl,rfl,zan vd,trivial⟩
   ·exact Mem.Less.refl _
   ·exact ⟨aE,af⟩
   omega
  refine r8_ ?_;refine cF_ ?_;obtain rfl:i=n-1:=by omega
  have ae:=az (n-1) vd;have a0:(bs (bL (n-1))).size=64*(n-1):=by rw [zaJ,ae]
  refine r8_ ?_;refine cp_ rfl (am _) ?_;refine r6_ ?_;rw [m3];refine r3_ ?_;refine ca_ rfl (Bl.String _ U _ T ad hT vd) ?_;rintro _ T2 ⟨rfl,af⟩;have aF:=ziI ((bs (bL (n-1))).extract (((ew*c:Nat):Int)).toNat (bs (bL (n-1))).size) T2 (by rw [ByteArray.size_extract];omega);rw [aC _ ae] at aF;have aA:S.Lo T2:=(ah.trans ax).lo.trans (af.lo ad);refine r2_ ?_;refine cp_ rfl (aF) ?_;refine r3_ ?_;cases a1:zeroL ((bL (n-1)).drop (ew*c))
  ·rw [if_pos rfl];refine cT_ ?_;refine AWP.lo S aA ?_;refine r9_ ?_;refine ⟨_,S,⟨_,_,rfl,⟨_,_,rfl,⟨_,_,rfl,rfl,rfl⟩,rfl⟩,rfl⟩,(Mem.Less.refl _),?_⟩;exact ⟨rfl,rfl⟩
  rw [if_neg (by simp)];refine cF_ ?_;refine r3_ ?_;refine dr_ [i0_,i2_,o1_,i3_,i4_,i5_,i6_] [] ?_;refine r2_ ?_;refine zac rfl ?_;refine cp_ rfl (Bl.StringF _ U _ T2 af vd) ?_;refine zad ⟨ny_,?_⟩;refine r6_ ?_;refine AWP.lo S aA ?_;refine s1_ ?_;refine ⟨_,S,⟨_,_,rfl,⟨_,_,rfl,⟨_,_,rfl,rfl,rfl⟩,rfl⟩,rfl⟩,(Mem.Less.refl _),?_⟩;exact ⟨by unfold bodyV;rw [<- an];rfl,rfl⟩
 rw [if_pos he];refine k_E3 78 func27 ?_;refine r2_ ?_;refine k_b5 rfl ?_;intro b3 V;have H:=V
 repeat ((with_reducible replace H:=zaa H);obtain ⟨H,_⟩:=H)
 refine nl_ ?_;refine r8_ ?_;refine ca_ rfl (A.frame V) ?_;rintro _ S1 ⟨M,⟨p,oE,oW,C,rfl,hM⟩,ag,W⟩;rw [W];clear W S1;have ah:S.Less M:=by rw [hM];exact C.less
 have aa:RdV M p d:=by rw [hM];exact C.rd (zaK Y).1 (zaK Y).2
 refine r7_ ?_;refine kw_ [0,1,2,3,6,7,8,9,10] ?_;refine r7_ ?_;refine cF_ ?_;refine r6_ ?_;refine cp_ rfl (I p _ (aa.less zae)) ?_;refine r18_ ?_;refine cT_ ?_;refine r11_ ?_;refine ⟨_,S,⟨_,_,rfl,⟨_,_,rfl,⟨_,_,rfl,rfl,rfl⟩,rfl⟩,rfl⟩,zae,?_⟩;exact ⟨rfl,rfl⟩
end Rec
end
section
open Go.RowKit
open Mv Disk Num
namespace Rec
noncomputable def readRP (d:D) (s:tt):Nat × List (List Nat) × Int:=if (bodyP d s false).2.2≠0 then (0,[],(bodyP d s false).2.2) else ((bodyP d s false).1,splitL (bodyP d s false).2.1 ((bodyP d s false).1:Int),splitE (bodyP d s false).2.1 ((bodyP d s false).1:Int))
def ReadR (p:Nat × List (List Nat) × Int) (S:Mem) (r:tu) (S':Mem):Prop:=∃ v,r = .tuple #[.int .i64 (p.1:Nat),v,.int .i64 p.2.2]/\S.Less S'/\SlOf RowR S' v p.2.1
theorem zon {d:D} {s:tt} (h:(headP d s).2.2=0):openD d=(d,0)/\Right d/\d.down=false/\headP d s=headD d s:=by
 by_cases A:(openD d).2=0
 ·have e:=zcJ A s;rcases zcV d with ⟨H,I⟩ | ⟨H,I,C⟩ | ⟨H,I,C⟩
  ·rw [H] at A;simp at A
  ·rw [H] at A;simp at A
  exact ⟨H,I,C,e⟩
 rw [zgT A] at h;exact absurd h A
theorem zq8 {d:D} {s:tt} {w c:Nat} (h:headP d s=(w,c,0)):openD d=(d,0)/\Right d/\d.down=false/\has d.ext s=true/\w<=8/\c<=65536/\sec (exOf d.ext s)=needN w c:=by
 obtain ⟨H,A,C,I⟩:=zon (d:=d) (s:=s) (by rw [h]);rw [I] at h;exact ⟨H,A,C,zom A h⟩
theorem zoo (d:D) (s:tt) (t:Bool):(bodyP d s t).2.1.size<=2621440:=by
 unfold bodyP;by_cases A:(headP d s).2.2≠0
 ·rw [if_pos A];exact Nat.zero_le _
 rw [if_neg A];split
 ·exact Nat.zero_le _
 split
 ·exact Nat.zero_le _
 have A:(headP d s).2.2=0:=by omega
 obtain ⟨_,_,_,_,H,C,_⟩:=zq8 (d:=d) (s:=s) (w:=(headP d s).1) (c:=(headP d s).2.1) (by rw [<- A]);have:=zc2 H C;show (bs _).size<=_;rw [zaJ,List.length_take];omega
theorem zq9 (v:tu) (d:D) (s:tt) (S:Mem) (hd:DkR S v d) (V:Dz d) :
  ACall prog 9 #[v,.string s] S (ReadR (readRP d s) S):=by
 have C:=λM h=>zq7 v d s false M h V;have I:=zoo d s false;unfold readRP;generalize bodyP d s false=q at *;obtain ⟨w,b,e⟩:=q;simp only [bodyV] at C;simp only at I ⊢;have J:=λM=>zmi b (w:Int) M vd;obtain ⟨pe,ce,pw,cw,rfl,hE,hW⟩:=id hd;by_cases U:e=0
 ·subst U;rw [if_neg (by simp)];refine k_E2 30 func9 ?_;refine r2_ ?_;refine k_b5 rfl ?_;intro Y Q;have A:=Q
  repeat ((with_reducible replace A:=zaa A);obtain ⟨A,_⟩:=A)
  refine nl_ ?_;refine r9_ ?_;refine cp_ rfl (C _ (hd.less zae)) ?_;refine r16_ ?_;refine cF_ ?_;refine r6_ ?_;refine ca_ rfl (J _) ?_;rintro _ T ⟨v,rfl,X,W⟩;have H:=(show S.Less _ from zae).trans X;refine r18_ ?_;refine ⟨_,T,⟨_,_,rfl,⟨_,_,rfl,⟨_,_,rfl,rfl,rfl⟩,rfl⟩,rfl⟩,zae,?_⟩;exact ⟨v,rfl,H,W⟩
 rw [if_pos U];refine k_E2 30 func9 ?_;refine r2_ ?_;refine k_b5 rfl ?_;intro Y Q;have A:=Q
 repeat ((with_reducible replace A:=zaa A);obtain ⟨A,_⟩:=A)
 refine nl_ ?_;refine r9_ ?_;refine cp_ rfl (C _ (hd.less zae)) ?_;refine r9_ ?_;refine kw_ [0,1,2,4,5,6,7,8,9] ?_;refine r7_ ?_;refine cT_ ?_;refine r10_ ?_;refine ⟨_,S,⟨_,_,rfl,⟨_,_,rfl,⟨_,_,rfl,rfl,rfl⟩,rfl⟩,rfl⟩,zae,?_⟩;exact ⟨_,rfl,Mem.Less.refl _,SlOf.nil _ _⟩
end Rec
end
section
open Go.RowKit
open Mv Disk Num
namespace Rec
theorem zop {d:D} {s:tt} {w c:Nat} {body:tt} (h:(putP d s w c body).2=0) :
  (newD d s (needN w c:Nat)).2=0/\(putTo (newD d s (needN w c:Nat)).1 s (padS body) (needN w c-1)).2=0/\putP d s w c body=sealD (putTo (newD d s (needN w c:Nat)).1 s (padS body) (needN w c-1)).1 s (headS w c):=by
 unfold putP at h ⊢;by_cases A:(newD d s (needN w c:Nat)).2=0
 ·rw [if_neg vd] at h ⊢;by_cases C:(putTo (newD d s (needN w c:Nat)).1 s (padS body) (needN w c-1)).2=0
  ·rw [if_neg vd];exact ⟨A,C,rfl⟩
  rw [if_pos C] at h;exact absurd h C
 rw [if_pos A] at h;exact absurd h A
theorem ztL {d:D} {s:tt} {w c:Nat} {body:tt} (C:Right d) (J:d.down=false) (hf:d.fuse<=9223372036854775807) (hk:w<=8) (hc:c<=65536) (hb:body.size=eachN w*c) (h:(putP d s w c body).2=0) :
  ∃ z,putP d s w c body=(z,0)/\Right z/\z.down=false/\z.fuse<=9223372036854775807/\z.waits = []/\FileR z s w c body /\ ∀ o k,o≠s->readO z o k=readO d o k:=by
 obtain ⟨H,Y,q3⟩:=zop h;rw [q3] at h ⊢;have am:=za7 w c;obtain ⟨V,W,I,_⟩:=(zjP (s:=s) (n:=((needN w c:Nat):Int)) C J).2 H;have I:(newD d s (needN w c:Nat)).1.fuse<=9223372036854775807:=by rw [I];exact hf
 obtain ⟨X,kf,Q⟩:=zcH V W I s (padS body) (needN w c-1);have Q:=Q Y;obtain ⟨f,f0,f1,e⟩:=zn7 (s:=s) (all:=padS body) C J hf H _ Y;rw [e] at X kf Q h ⊢;obtain ⟨x1,x2⟩:=zqW C H;obtain ⟨z,z1,z2,z3,z4,z5,z6,z7⟩:=sealed (w:=w) (c:=c) (body:=body) X Q kf (show has (newD d s (needN w c:Nat)).1.ext s=true from x2) (by
  show sec (exOf (newD d s (needN w c:Nat)).1.ext s)=_;rw [x1];unfold sec;simp only;rw [zeH,Int.toNat_natCast];omega) (λi hi=>by
  rw [zk0 C H,if_pos ⟨rfl,by omega,by omega⟩];rw [show (((i+1:Nat):Int)).toNat-1=i from by omega]) h
 refine ⟨z,z1,z2,z3,z4,z5,z6,λo k U=>(z7 o k U).trans ?_⟩;rw [zcZ X Q,zcZ C J];have hp:(placeD (putE' d s (padS body) (needN w c:Nat) (needN w c-1) f) o k).2=(placeD d o k).2:=zjW C H U k;rw [hp];by_cases A:(placeD d o k).2=0
 ·rw [if_neg (by simpa using A),if_neg (by simpa using A),zk0 C H,if_neg (λh=>U h.1),zmd C H U A]
 rw [if_pos A,if_pos A]
theorem zfU (s:tt):(padS s).data.toList=s.data.toList ++ List.replicate ((64-s.size % 64) % 64) 0:=bs_data _
theorem zeL (w c:Nat):(headS w c).data.toList=(preS w c ++ Crc.tailS (sumOf (preS w c))).data.toList ++ List.replicate 52 0:=by
 unfold headS;have A:(preS w c).size=8:=by unfold preS;rw [zaJ];rfl
 rw [zfU,ByteArray.size_append,A,Crc.zbZ]
theorem zmj (w c:Nat):(headS w c).extract 0 12=preS w c ++ Crc.tailS (sumOf (preS w c)):=by
 have A:(preS w c).size=8:=by unfold preS;rw [zaJ];rfl
 apply zbG;rw [Lib.extract_data,zeL];have C:(preS w c ++ Crc.tailS (sumOf (preS w c))).data.toList.length=12:=by rw [St.zbo,ByteArray.size_append,A,Crc.zbZ]
 rw [List.drop_zero,List.take_append_of_le_length vd,List.take_of_length_le vd]
theorem zoq {w c:Nat} (U:w<=8) (hc:c<=65536):formP (headS w c)=(w,c,0):=by
 have A:(headS w c).data.toList = [87,82,UInt8.ofNat w] ++ five c ++ (Crc.tailS (sumOf (preS w c))).data.toList ++ List.replicate 52 0:=by
  rw [zeL];have:(preS w c ++ Crc.tailS (sumOf (preS w c))).data.toList=(preS w c).data.toList ++ (Crc.tailS (sumOf (preS w c))).data.toList:=by simp
  rw [this];unfold preS;rw [bs_data]
 have C:(five c).length=5:=rfl;have I:(Crc.tailS (sumOf (preS w c))).data.toList.length=4:=by rw [St.zbo,Crc.zbZ]
 have Q:(UInt8.ofNat w).toNat=w:=by rw [UInt8.toNat_ofNat'];omega
 have H:openS ((headS w c).extract 0 12)=(preS w c,0):=by
  rw [zmj];exact Crc.zdK (preS w c) (by unfold preS;rw [zaJ];show 8<=65536;decide)
 have J:(headS w c).data.toList.drop 12=List.replicate 52 0:=by
  rw [A,List.drop_append,List.drop_of_length_le (by simp only [List.length_append,I,C,List.length_cons,List.length_nil];omega)];simp only [List.length_append,I,C,List.length_cons,List.length_nil];rfl
 unfold formP;rw [if_neg,H,if_neg (by simp)]
 ·refine Prod.ext ?_ (Prod.ext ?_ rfl)
  ·show ((headS w c).data.toList.getD 2 0).toNat=w;rw [A];exact Q
  show ofB (((headS w c).data.toList.drop 3).take 5)=c;rw [A];show ofB ((five c ++ (Crc.tailS (sumOf (preS w c))).data.toList ++ List.replicate 52 0).take 5)=c;rw [List.append_assoc,List.take_append_of_le_length (by rw [C];omega),List.take_of_length_le (by rw [C];omega)];exact zhB c (by unfold top;omega)
 rintro (h | h | h)
 ·exact h (by rw [A];rfl)
 ·rw [A] at h;have h:8<(UInt8.ofNat w).toNat:=h;omega
 rw [J] at h;revert h;decide
theorem zfV {z:D} {s:tt} {w c:Nat} {body:tt} (h:FileR z s w c body):(openD z).2=0:=by
 have h:=h.head;unfold readO at h;by_cases q:(openD z).2=0
 ·exact q
 rw [if_pos q] at h;exact absurd (congrArg Prod.snd h) q
theorem zd_ {z:D} {s:tt} {w c:Nat} {body:tt} (A:w<=8) (hc:c<=65536) (h:FileR z s w c body):headP z s=(w,c,0):=by
 unfold headP;rw [h.head,if_neg (by simp),zoq A hc,if_neg (by simp),h.size,(zfi A).2 hc,if_neg (by simp)]
theorem zgW {z:D} {s:tt} {w c:Nat} {body:tt} (A:body.size=eachN w*c) (h:FileR z s w c body):∀ k,k<=needN w c-1->bodyL z s k=(padS body).data.toList.take (64*k)
 | 0,_=>rfl
 | k+1,hk=>by
  have C:(padS body).size=64*(needN w c-1):=by rw [zdd,A];unfold needN;omega
  rw [bodyL,zgW A h k vd,h.secs k vd];unfold secAt;show _ ++ ((padS body).extract (64*k) (64*k+64)).data.toList=_;rw [Lib.extract_data,show 64*(k+1)=64*k+64 from by omega,show 64*k+64-64*k=64 from by omega,List.take_add]
theorem zor {z:D} {s:tt} {w c:Nat} {body:tt} (J:w<=8) (hc:c<=65536) (C:body.size=eachN w*c) (h:FileR z s w c body):bodyP z s (decide (w=0))=(w,body,0):=by
 have A:(padS body).size=64*(needN w c-1):=by rw [zdd,C];unfold needN;omega
 have I:=zgW C h (needN w c-1) (Nat.le_refl _);rw [List.take_of_length_le (by rw [St.zbo,A];exact Nat.le_refl _),zfU] at I;have H:body.data.toList.length=eachN w*c:=by rw [St.zbo,C]
 unfold bodyP;rw [zd_ J hc h];simp only [I,<- H,List.drop_left,List.take_left];rw [if_neg (by simp),if_neg (by simp),if_neg]
 ·rw [bs_of]
 unfold zeroL;simp
end Rec
end
section
open Go.RowKit
open Mv Disk Num
namespace Rec
theorem zhF {w:Nat} {l:List (List Nat)} (h:l.all (rowOK w)=true):∀ x ∈ l,x.length=w /\ ∀ n ∈ x,n<top:=by
 intro x A;have:=List.all_eq_true.1 h x A;unfold rowOK at this;rw [Bool.and_eq_true,decide_eq_true_eq] at this;exact ⟨this.2,(zn3 this.1).2.2⟩
theorem zos {z:D} {s:tt} {w:Nat} {l:List (List Nat)} (J:1<=w) (Q:w<=8) (I:l.all (rowOK w)=true) (h:bodyP z s false=(w,bs (recsB l),0)):readRP z s=(w,l,0):=by
 have C:=zhF I;have H:(bs (recsB l)).size=l.length*(5*w):=by rw [zaJ,zbL l w λx A=>(C x A).1]
 have e:splitE (bs (recsB l)) (w:Int)=0:=by
  unfold splitE;rw [if_neg vd,if_neg];rw [H,Int.toNat_natCast];simp
 have e2:splitL (bs (recsB l)) (w:Int)=l:=by
  unfold splitL;rw [if_pos e,rowsOf,bs_data,Int.toNat_natCast,zbL l w λx A=>(C x A).1,Nat.mul_div_cancel _ vd];exact zn4 l w (λx A=>(C x A).1) (λx A=>(C x A).2)
 unfold readRP;rw [h];simp only;rw [if_neg (by simp),e,e2]
theorem zot {z:D} {s:tt} {w:Nat} {l:List (List Nat)} (J:1<=w) (C:w<=8) (hc:l.length<=65536) (A:l.all (rowOK w)=true) (h:FileR z s w l.length (bs (l.flatMap recB))):readRP z s=(w,l,0):=by
 refine zos J C A ?_;have:=zor C hc (by
  have H:=zhF A;show (bs (recsB l)).size=_;rw [zaJ,zbL l w λx I=>(H x I).1];unfold eachN;rw [if_neg vd,Nat.mul_comm]) h
 rw [decide_eq_false vd] at this;exact this
theorem zou {d:D} {s:tt} {w:Int} {l:List (List Nat)} (hf:d.fuse<=9223372036854775807) (h:(writeP d s w l).2=0) :
  ∃ z,writeP d s w l=(z,0)/\Right z/\z.down=false/\z.fuse<=9223372036854775807/\z.waits = []/\1<=w/\w<=8/\l.length<=65536/\l.all (rowOK w.toNat)=true/\FileR z s w.toNat l.length (bs (l.flatMap recB)) /\ ∀ o k,o≠s->readO z o k=readO d o k:=by
 unfold writeP at h ⊢;by_cases J:w<1\/8<w\/65536<l.length
 ·rw [if_pos J] at h;exact absurd h (by unfold refD;simp)
 rw [if_neg J] at h ⊢;by_cases C:l.all (rowOK w.toNat)=true
 ·rw [if_pos C] at h ⊢;unfold opened at h ⊢;rcases zcV d with ⟨H,I⟩ | ⟨H,I,A⟩ | ⟨H,I,A⟩ <;> rw [H] at h ⊢
  ·simp at h
  ·simp at h
  rw [if_pos rfl] at h ⊢;have X:=zhF C;obtain ⟨z,W,z2,U,z4,Y,Q,V⟩:=ztL I A hf vd vd (by
   show (bs (recsB l)).size=_;rw [zaJ,zbL l w.toNat λx hx=>(X x hx).1];unfold eachN;rw [if_neg vd,Nat.mul_comm]) h
  exact ⟨z,W,z2,U,z4,Y,by omega,by omega,by omega,C,Q,V⟩
 rw [if_neg C] at h;exact absurd h (by unfold refD;simp)
/-! ### What the power leaves -/
end Rec
end
section
open Go.RowKit
open Mv Disk Num
namespace Top
open Rec
theorem zmk {d:D} {s y:tt} {k:Int} (I:d.fuse = -1) (A:(placeD d s k).2=0) (C:y.size=64) (H:d.waits.length<16384):writeD d s k y=(addW d (s,k,y),0):=by
 unfold writeD;rw [if_neg (by simpa using A),if_neg (by simpa using C),if_neg vd];unfold fuseD;rw [if_neg (show ¬ (addW d (s,k,y)).fuse=0 from by show ¬ d.fuse=0;omega),if_neg (show ¬ 0<(addW d (s,k,y)).fuse from by show ¬ 0<d.fuse;omega)]
theorem zq_ {d:D} {s:tt} {k:Int} (A:has d.ext s=true) (C:0<=k) (H:k<sec (exOf d.ext s)):(placeD d s k).2=0:=by
 unfold placeD;rw [if_pos A,if_neg vd]
theorem zgX {e:D} {s all:tt} {n:Nat} (H:e.fuse = -1) (C:e.waits = []) (A:has e.ext s=true) (hs:sec (exOf e.ext s)=n) (J:n<=16384) (U:all.size=64*(n-1)) :
  ∀ k,k+1<=n->putTo e s all k=({ e with waits:=secsW s all k },0)
 | 0,_=>by
  obtain ⟨z,x,w,f,b⟩:=e;obtain rfl:w = []:=C;rfl
 | k+1,h=>by
  have Q:=zgX H C A hs J U k vd;rw [putTo,Q,if_pos rfl];have W:(secsW s all k).length=k:=by unfold secsW;simp
  have V:(placeD { e with waits:=secsW s all k } s ((k+1:Nat):Int)).2=0:=zq_ (d:={ e with waits:=secsW s all k }) A vd (by rw [show exOf ({ e with waits:=secsW s all k }:D).ext s=exOf e.ext s from rfl,hs];omega);have I:=zmk (d:={ e with waits:=secsW s all k }) (s:=s) (k:=((k+1:Nat):Int)) (y:=secAt all k) H V (zgM vd) (by show (secsW s all k).length<16384;omega);rw [I];unfold addW;simp only;rw [zeI]
theorem ziO (w c:Nat):(headS w c).size=64:=by
 rw [<- St.zbo,zeL,List.length_append,List.length_replicate,St.zbo,ByteArray.size_append,Crc.zbZ];unfold preS;rw [zaJ];simp only [List.length_append,zc0,List.length_cons,List.length_nil]
def freshD (n:Int):D:=⟨n,[],[],-1,false⟩
theorem zdP {n:Int} (A:0<=n) (C:n<=16384):Right (freshD n):=⟨A,C,by show 0<=16384;decide,by show (-1:Int) <= -1;decide,⟨λx h=>(by cases h),List.Pairwise.nil,by show ((0:Nat):Int)<=n;omega⟩,λw h=>(by cases h)⟩
theorem zml {n:Int} (A:0<=n) (C:n<=16384):makeD n=(freshD n,0):=by
 unfold makeD;rw [if_neg vd];rfl
/-! ### Records of a list -/
end Top
end
section
open Go.RowKit
open Mv Disk
namespace Sto
def ns (d:D) (s:tt):Nat:=if has d.ext s=true then sec (exOf d.ext s) else 0
structure Dw (d:D) (n:Nat):Prop where
  r:Right d
  f:d.fuse = -1
  u:d.down=false
  w:d.waits.length<=n
theorem Dw.mono {d:D} {n m:Nat} (h:Dw d n) (k:n<=m):Dw d m:=⟨h.r,h.f,h.u,Nat.le_trans h.w k⟩
theorem zc5 {d:D} {n:Nat} (h:Dw d n) (s:tt):has d.ext s=true <-> 0<ns d s:=by
 unfold ns;by_cases q:has d.ext s=true
 ·rw [if_pos q];have:=(zc9 (h.r.ex.ok _ (zbw h.r.ex.asc q).1)).1;exact ⟨λ_=>by omega,λ_=>q⟩
 rw [if_neg q];exact ⟨λe=>absurd e q,λe=>by omega⟩
theorem zcK {d:D} {s:tt} {k:Nat} (h:k<ns d s):(placeD d s (k:Int)).2=0:=by
 unfold ns at h;unfold placeD;by_cases q:has d.ext s=true
 ·rw [if_pos q] at h;rw [if_pos q,if_neg vd]
 rw [if_neg q] at h;omega
theorem zra {d:D} {s:tt} {k:Nat} (h:k<ns d s):readD d s (k:Int)=(seen d s (k:Int),0):=by
 rw [zcF,if_neg (by rw [zcK h];simp)]
theorem ziP {d:D} {n:Nat} (hd:Dw d n) {s:tt} {k:Nat} (h:k<ns d s):(seen d s (k:Int)).size=64:=by
 have A:=zcK h;obtain ⟨H,_,V⟩:=zd6 A;obtain ⟨J,Q⟩:=zbw hd.r.ex.asc H;have hs:=(zc9 (hd.r.ex.ok _ J)).2;unfold seen;have key:∀ m,m<=d.waits.length->(seeW allK d.waits s (k:Int) ((exOf d.ext s).2.extract (64*(k:Int).toNat) (64*(k:Int).toNat+64)) m).size=64:=by
  intro m
  induction m with
  | zero=>intro _;show (ByteArray.extract _ _ _).size=64;rw [ByteArray.size_extract,Int.toNat_natCast];omega
  | succ m C =>
   intro I;rw [zb6 _ _ _ _ _ vd];split
   ·rename_i q;obtain ⟨x,U,e,_,_,e3⟩:=hd.r.wr _ (List.getElem_mem (show m<d.waits.length by omega));exact e3
   exact C vd
 exact key _ (Nat.le_refl _)
theorem zfW {d:D} {n:Nat} (hd:Dw d n) (I:n<16384) {s data:tt} {k:Nat} (h:k<ns d s) (hs:data.size=64) :
  ∃ d',writeD d s (k:Int) data=(d',0)/\Dw d' (n+1)/\d'.size=d.size/\d'.ext=d.ext/\(∀ o,ns d' o=ns d o) /\ ∀ o j,seen d' o j=if s=o/\(k:Int)=j then data else seen d o j:=by
 have H:=hd.w;have A:=zcK h;refine ⟨addW d (s,(k:Int),data),?_,⟨zd8 hd.r A hs vd,hd.f,hd.u,by rw [zfM];omega⟩,rfl,rfl,λo=>rfl,λo j=>zhs _ _ _ _ _ _⟩;unfold writeD fuseD;have C:(addW d (s,(k:Int),data)).fuse = -1:=hd.f;rw [if_neg (by rw [A];simp),if_neg (by rw [hs];simp),if_neg vd,C,if_neg (by decide),if_neg (by decide)]
theorem zfX {d:D} {n:Nat} (hd:Dw d n):Dw (settleD d λ_=>true) 0/\(settleD d λ_=>true).size=d.size/\used (settleD d λ_=>true).ext=used d.ext/\(∀ o,ns (settleD d λ_=>true) o=ns d o) /\ ∀ o (j:Nat),j<ns d o->seen (settleD d λ_=>true) o (j:Int)=seen d o (j:Int):=by
 have C:(settleD d λ_=>true).ext=d.ext.map (doneX (λ_=>true) d.waits):=rfl;refine ⟨⟨zcm hd.r _,hd.f,hd.u,Nat.le_refl _⟩,rfl,?_,λo=>?_,λo j h=>?_⟩
 ·rw [C];have:∀ l:List Ext,(∀ x ∈ l,x ∈ d.ext)->used (l.map (doneX (λ_=>true) d.waits))=used l:=by
   intro l
   induction l with
   | nil=>intro _;rfl
   | cons x l H =>
    intro A;simp only [List.map_cons,used];rw [H λy I=>A y (List.mem_cons_of_mem _ I)];congr 1;unfold sec;rw [zb7 hd.r _ (A x (List.mem_cons_self ..))]
  exact this _ λ_ h=>h
 ·unfold ns;rw [C,zhq (f:=doneX (λ_=>true) d.waits) (λ_=>rfl)];by_cases q:has d.ext o=true
  ·rw [if_pos q,if_pos q,zd5 (f:=doneX (λ_=>true) d.waits) (λ_=>rfl) hd.r.ex.asc q];unfold sec;rw [zb7 hd.r _ (zbw hd.r.ex.asc q).1]
  rw [if_neg q,if_neg q]
 rw [zdJ hd.r (zcK h) (λ_=>true)];rfl
def zs:tt:=bs (List.replicate 64 0)
theorem ziQ {kp:Nat->Bool} {l:List Wr} {s:tt} {k:Int} {b:tt} (h:∀ w ∈ l,w.1≠s):∀ m,m<=l.length->seeW kp l s k b m=b
 | 0,_=>rfl
 | m+1,hm=>by
  rw [zb6 _ _ _ _ _ vd,if_neg (λq=>h _ (List.getElem_mem _) q.1)];exact ziQ h m vd
theorem zsM {d:D} {n:Nat} (hd:Dw d n) {s:tt} {m:Nat} (hs:nm s) (h0:ns d s=0) (h1:1<=m) (hr:(used d.ext:Int)+m<=d.size) :
  ∃ d',newD d s (m:Int)=(d',0)/\Dw d' n/\d'.size=d.size/\used d'.ext=used d.ext+m/\(∀ o,ns d' o=if s=o then m else ns d o)/\(∀ j:Nat,j<m->seen d' s (j:Int)=zs) /\ ∀ o j,s≠o->has d.ext o=true->seen d' o j=seen d o j:=by
 have J:has d.ext s=false:=by
  cases e:has d.ext s with
  | false=>rfl
  | true=>have:=(zc5 hd s).1 e;omega
 have U:=zeH m;have A:sec (s,zeros m)=m:=by unfold sec;simp only;rw [U];omega
 have W:ERight (insAt d.ext (pos d.ext s) (s,zeros m)) d.size:=zgK (size':=d.size) hd.r.ex J hs (by rw [U];omega) (by rw [U];omega) (by rw [A];omega);have V:Right { d with ext:=insAt d.ext (pos d.ext s) (s,zeros m) }:=⟨hd.r.s0,hd.r.s1,hd.r.wl,hd.r.fu,W,λw X=>by
  obtain ⟨x,hx,h⟩:=hd.r.wr w X;exact ⟨x,zbY.2 (.inr hx),h⟩⟩
 have C:∀ o,has (insAt d.ext (pos d.ext s) (s,zeros m)) o=true <-> s=o\/has d.ext o=true:=λo=>by
  rw [zba,zba];constructor
  ·rintro ⟨x,hx,rfl⟩;rcases zbY.1 hx with rfl | hx
   ·exact .inl rfl
   exact .inr ⟨x,hx,rfl⟩
  rintro (rfl | ⟨x,hx,rfl⟩)
  ·exact ⟨_,zbY.2 (.inl rfl),rfl⟩
  exact ⟨x,zbY.2 (.inr hx),rfl⟩
 have I:exOf (insAt d.ext (pos d.ext s) (s,zeros m)) s=(s,zeros m):=zbQ W.asc (x:=(s,zeros m)) (zbY.2 (.inl rfl));have H:∀ o,has d.ext o=true->exOf (insAt d.ext (pos d.ext s) (s,zeros m)) o=exOf d.ext o:=λo Q=>by
  obtain ⟨hm,Y⟩:=zbw hd.r.ex.asc Q;have:=zbQ W.asc (zbY.2 (.inr hm):exOf d.ext o ∈ insAt d.ext (pos d.ext s) (s,zeros m));rwa [Y] at this
 refine ⟨{ d with ext:=insAt d.ext (pos d.ext s) (s,zeros m) },?_,⟨V,hd.f,hd.u,hd.w⟩,rfl,?_,λo=>?_,λj hj=>?_,λo j aa Q=>?_⟩
 ·unfold newD;rw [if_neg (λh=>by rcases h with h | h;exact h hs;omega),if_neg (by rw [J];simp),if_neg vd,Int.toNat_natCast]
 ·show used (insAt _ _ _)=_;rw [zhy,A]
 ·unfold ns;by_cases e:s=o
  ·subst e;rw [if_pos rfl,if_pos ((C s).2 (.inl rfl))];show sec (exOf (insAt _ _ _) s)=m;rw [I,A]
  rw [if_neg e];by_cases q:has d.ext o=true
  ·rw [if_pos q,if_pos ((C o).2 (.inr q))];show sec (exOf (insAt _ _ _) o)=_;rw [H o q]
  rw [if_neg q,if_neg (λh=>by rcases (C o).1 h with h | h;exact e h;exact q h)]
 ·unfold seen;show seeW allK d.waits s (j:Int) ((exOf (insAt _ _ _) s).2.extract _ _) d.waits.length=zs;rw [ziQ (λw X e=>by
   obtain ⟨x,hx,h,_⟩:=hd.r.wr w X;have:has d.ext s=true:=zba.2 ⟨x,hx,h.trans e⟩;rw [J] at this;cases this) _ (Nat.le_refl _),I,Int.toNat_natCast]
  apply zbG;show ((bs (List.replicate (64*m) 0)).extract (64*j) (64*j+64)).data.toList=(bs (List.replicate 64 0)).data.toList;rw [Lib.extract_data,bs_data,bs_data,List.drop_replicate,List.take_replicate];congr 1;omega
 unfold seen;show seeW allK d.waits o j ((exOf (insAt _ _ _) o).2.extract _ _) d.waits.length=_;rw [H o Q]
end Sto
end
section
open Go.RowKit
open Mv Disk
structure Fr where
  name:tt
  sector:Int
  data:tt
  pins:Int
  dirty:Bool
  tick:Int
  leased:Bool
def frF (x:Fr):List tu:=[.string x.name,.int .i64 x.sector,.string x.data,.int .i64 x.pins,.bool x.dirty,.int .u64 x.tick,.bool x.leased]
def frV (x:Fr):tu:=.agg #[.string x.name,.int .i64 x.sector,.string x.data,.int .i64 x.pins,.bool x.dirty,.int .u64 x.tick,.bool x.leased]
def F0:Fr:=⟨ByteArray.empty,0,ByteArray.empty,0,false,0,false⟩
def F1:Fr:=⟨ByteArray.empty,0,ByteArray.empty,0,false,0,true⟩
def Fr.holds (x:Fr):Prop:=x.name.size≠0
instance (x:Fr):Decidable x.holds:=by unfold Fr.holds;infer_instance
theorem zk4 (x y:Fr):x=y <-> x.name=y.name/\x.sector=y.sector/\x.data=y.data/\x.pins=y.pins/\x.dirty=y.dirty/\x.tick=y.tick/\x.leased=y.leased:=by
 cases x;cases y;simp
instance : DecidableEq Fr := λx y => decidable_of_iff _ (zk4 x y).symm
theorem zfj (x:Fr) (S:Mem):ACall prog 179 #[frV x] S λr S'=>r = .bool (decide x.holds)/\S'=S:=by
 have e:(!decide (x.name=ByteArray.empty))=decide x.holds:=by
  by_cases h:x.name=ByteArray.empty
  ·rw [decide_eq_true h,decide_eq_false (show ¬ x.holds from λq=>q ((zjz _).1 h))];rfl
  rw [decide_eq_false h,decide_eq_true (show x.holds from λq=>h ((zjz _).2 q))];rfl
 unfold frV;refine k_E1 6 func179 ?_;refine r2_ ?_;refine k_b7 rfl ?_;intro C f1;have A:=f1
 repeat ((with_reducible replace A:=zaa A);obtain ⟨A,_⟩:=A)
 refine nl_ ?_;refine r7_ ?_;refine rC (vi rfl rfl (zag (zaP _ _) e)) ?_;refine r4_ ?_;refine ⟨_,S,⟨_,_,rfl,rfl,rfl⟩,zae,?_⟩;exact ⟨rfl,rfl⟩
theorem zov (x y:Fr) (w:tv):(binOp .eql 257 (frV x) (frV y)).run prog w = .ok (.bool (decide (x=y))) w:=by
 have e:decide (x=y)=((x.name.toList == y.name.toList) && (x.sector == y.sector) && (x.data.toList == y.data.toList) && (x.pins == y.pins) && (x.dirty == y.dirty) && (x.tick == y.tick) && (x.leased == y.leased)):=by
  rw [Bool.eq_iff_iff,decide_eq_true_eq,zk4];simp [zjM,and_assoc]
 rw [e];unfold frV
 go_simp
 cases Q:(x.name.toList == y.name.toList) <;> cases C:(x.sector == y.sector) <;> cases A:(x.data.toList == y.data.toList) <;> cases J:(x.pins == y.pins) <;> cases U:(x.dirty == y.dirty) <;> cases H:(x.tick == y.tick) <;> cases I:(x.leased == y.leased) <;> simp_all
theorem zhG {p q:tw} (x y:Fr):Bin prog .eql 257 p q (frV x) (frV y) (.bool (decide (x=y))):=λw=>by
 unfold frV;rw [Sem.run_bind,run_eqGuard_agg w .eql 257 p q _ _ (by kernel_rfl)];exact zov x y w
theorem zeM (x:Fr) (S:Mem):ACall prog 275 #[frV x] S λr S'=>r = .bool (decide (x=F0))/\S'=S:=by
 unfold frV;refine k_E1 6 func275 ?_;refine r2_ ?_;refine k_b7 rfl ?_;intro C f1;have A:=f1
 repeat ((with_reducible replace A:=zaa A);obtain ⟨A,_⟩:=A)
 refine nl_ ?_;refine r7_ ?_;refine rC (vi rfl rfl (zhG x F0)) ?_;refine r4_ ?_;refine ⟨_,S,⟨_,_,rfl,rfl,rfl⟩,zae,?_⟩;exact ⟨rfl,rfl⟩
def Fr.idle (x:Fr):Prop:=x=F0\/x.holds/\x.pins=0
instance (x:Fr):Decidable x.idle:=by unfold Fr.idle;infer_instance
theorem zhH (x:Fr) (S:Mem):ACall prog 277 #[frV x] S λr S'=>r = .bool (decide x.idle)/\S'=S:=by
 have cf:=λS=>zeM x S;have I:=λS=>zfj x S;unfold frV at *;by_cases C:x=F0
 ·rw [decide_eq_true C] at cf;rw [decide_eq_true (show x.idle from .inl C)];refine k_E1 14 func277 ?_;refine r2_ ?_;refine k_b7 rfl ?_;intro U f1;have A:=f1
  repeat ((with_reducible replace A:=zaa A);obtain ⟨A,_⟩:=A)
  refine nl_ ?_;refine r6_ ?_;refine cp_ rfl (cf _) ?_;refine r13_ ?_;refine ⟨_,S,⟨_,_,rfl,rfl,rfl⟩,zae,?_⟩;exact ⟨rfl,rfl⟩
 rw [decide_eq_false C] at cf;by_cases J:x.holds
 ·rw [decide_eq_true J] at I;have e:decide x.idle=decide (x.pins=0):=by unfold Fr.idle;simp [C,J]
  rw [e];refine k_E1 14 func277 ?_;refine r2_ ?_;refine k_b7 rfl ?_;intro U f1;have A:=f1
  repeat ((with_reducible replace A:=zaa A);obtain ⟨A,_⟩:=A)
  refine nl_ ?_;refine r6_ ?_;refine cp_ rfl (cf _) ?_;refine r2_ ?_;refine vv 2 false 5 rfl (zab rfl) rfl (zab rfl) zns rfl (I _) ?_;rintro _ Q ⟨rfl,H⟩;rw [H];clear H Q;refine r10_ ?_;refine ⟨_,S,⟨_,_,rfl,rfl,rfl⟩,zae,?_⟩;exact ⟨rfl,rfl⟩
 rw [decide_eq_false J] at I;rw [decide_eq_false (show ¬ x.idle from λh=>h.elim C (λh=>J h.1))];refine k_E1 14 func277 ?_;refine r2_ ?_;refine k_b7 rfl ?_;intro U f1;have A:=f1
 repeat ((with_reducible replace A:=zaa A);obtain ⟨A,_⟩:=A)
 refine nl_ ?_;refine r6_ ?_;refine cp_ rfl (cf _) ?_;refine r2_ ?_;refine vv 2 false 5 rfl (zab rfl) rfl (zab rfl) zns rfl (I _) ?_;rintro _ Q ⟨rfl,H⟩;rw [H];clear H Q;refine r10_ ?_;refine ⟨_,S,⟨_,_,rfl,rfl,rfl⟩,zae,?_⟩;exact ⟨rfl,rfl⟩
def like (x y:Fr):Prop:=x.holds/\y.holds/\(x.tick=y.tick\/x.name=y.name/\x.sector=y.sector)
instance (x y:Fr):Decidable (like x y):=by unfold like;infer_instance
theorem zfY (x:Fr):(frF x).length=7:=rfl
structure Pl where
  d:D
  fr:List Fr
  tick:Int
  reads:Int
  writes:Int
theorem zgY {q:Fr->Bool} {l:List Fr} {i:Nat} (h:i<l.length):(l.take (i+1)).countP q=(l.take i).countP q+if q l[i]=true then 1 else 0:=by
 rw [zb4 h,List.countP_append,List.countP_singleton]
theorem zk5 {q:Fr->Bool} (l:List Fr) (i:Nat):(l.take i).countP q<=l.length:=Nat.le_trans List.countP_le_length (by simp;omega)
abbrev frT:tx:=257
def up1 (x:Int):Int:=IntKind.u64.wrap (x+1)
def setP (p:Pl) (i:Nat) (x:Fr):Pl:={ p with fr:=p.fr.set i x }
def atF (p:Pl) (i:Nat):Fr:=p.fr.getD i F0
def wrP (p:Pl) (i:Nat):Pl × Int :=
  ({ p with d:=(writeD p.d (atF p i).name (atF p i).sector (atF p i).data).1,writes:=up1 p.writes,fr:=if (writeD p.d (atF p i).name (atF p i).sector (atF p i).data).2=0 then p.fr.set i { atF p i with dirty:=false } else p.fr },(writeD p.d (atF p i).name (atF p i).sector (atF p i).data).2)
def bestF (fr:List Fr):Nat->Int
  | 0=>-1
  | i+1=>if (fr.getD i F0).idle/\(bestF fr i<0\/(fr.getD i F0).tick<(fr.getD (bestF fr i).toNat F0).tick) then (i:Nat) else bestF fr i
theorem zea (fr:List Fr):∀ i,-1<=bestF fr i/\bestF fr i<i
 | 0=>⟨by unfold bestF;omega,by unfold bestF;omega⟩
 | i+1=>by
  have:=zea fr i;unfold bestF;split <;> omega
def takeP (p:Pl):Pl × Nat × Int :=
  if p.fr.findIdx (λx=>decide (x=F0))<p.fr.length then (p,p.fr.findIdx (λx=>decide (x=F0)),0)
  else if bestF p.fr p.fr.length<0 then (p,0,9)
  else if (atF p (bestF p.fr p.fr.length).toNat).dirty=true then
    (if (wrP p (bestF p.fr p.fr.length).toNat).2=0 then (setP (wrP p (bestF p.fr p.fr.length).toNat).1 (bestF p.fr p.fr.length).toNat F0,(bestF p.fr p.fr.length).toNat,0)
     else ((wrP p (bestF p.fr p.fr.length).toNat).1,0,(wrP p (bestF p.fr p.fr.length).toNat).2))
  else (setP p (bestF p.fr p.fr.length).toNat F0,(bestF p.fr p.fr.length).toNat,0)
def isF (s:tt) (k:Int) (x:Fr):Bool:=decide (x.holds/\x.sector=k/\x.name=s)
def pin1 (p:Pl) (i:Nat):Pl:={ p with tick:=up1 p.tick,fr:=p.fr.set i { atF p i with tick:=up1 p.tick,pins:=(atF p i).pins+1 } }
def newF (s:tt) (k:Int) (data:tt):Fr:=⟨s,k,data,0,false,0,false⟩
def pinP (p:Pl) (s:tt) (k:Int):Pl × Nat × Int :=
  if p.fr.findIdx (isF s k)<p.fr.length then
    (if (atF p (p.fr.findIdx (isF s k))).pins=256 then (p,0,11) else (pin1 p (p.fr.findIdx (isF s k)),p.fr.findIdx (isF s k),0))
  else if (readD p.d s k).2≠0 then (p,0,(readD p.d s k).2)
  else if (takeP p).2.2≠0 then ((takeP p).1,0,(takeP p).2.2)
  else (pin1 { setP (takeP p).1 (takeP p).2.1 (newF s k (readD p.d s k).1) with reads:=up1 (takeP p).1.reads } (takeP p).2.1,(takeP p).2.1,0)
def zgZ (p:Pl) (i:Int):Pl × Int :=
  if i<0\/(p.fr.length:Int)<=i then (p,1) else if (atF p i.toNat).pins=0 then (p,11) else (setP p i.toNat { atF p i.toNat with pins:=(atF p i.toNat).pins-1 },0)
def ret1 (p:Pl) (i:Int):Pl × Int :=
  if i<0\/(p.fr.length:Int)<=i then (p,1) else if (atF p i.toNat).leased=false then (p,11) else (setP p i.toNat F0,0)
def pinnedP (p:Pl) (i a n:Int):Int:=if i<0\/(p.fr.length:Int)<=i\/a<0\/64<a\/64-a<n then 1 else if (atF p i.toNat).pins=0 then 11 else 0
def fillS (t:tt) (a:Int) (s:tt):tt:=t.extract 0 a.toNat ++ s ++ t.extract (a.toNat+s.size) t.size
def fillP (p:Pl) (i a:Int) (s:tt):Pl × Int:=if pinnedP p i a s.size=0 then (setP p i.toNat { atF p i.toNat with data:=fillS (atF p i.toNat).data a s,dirty:=true },0) else (p,pinnedP p i a s.size)
def leaseN:Nat->Pl->List Int->Pl × List Int × Int
  | 0,p,l=>(p,l,0)
  | n+1,p,l=>if (takeP p).2.2=0 then leaseN n (setP (takeP p).1 (takeP p).2.1 F1) (l ++ [((takeP p).2.1:Int)]) else ((takeP p).1,[],(takeP p).2.2)
def idlesP (p:Pl):Nat:=p.fr.countP λx=>decide x.idle
def leaseP (p:Pl) (n:Int):Pl × List Int × Int:=if n<0 then (p,[],1) else if (idlesP p:Int)<n then (p,[],9) else leaseN n.toNat p []
def ofN (s:tt) (x:Fr):Bool:=decide (x.holds/\x.name=s)
def dropP (p:Pl) (s:tt):Pl × Int:=if p.fr.any (λx=>ofN s x && decide (0<x.pins))=true then (p,11) else ({ p with fr:=p.fr.map λx=>if ofN s x=true then F0 else x },0)
def flushN (p:Pl) (i:Nat):Nat->Pl × Int
  | 0=>(p,0)
  | n+1=>if (atF p i).dirty=true then (if (wrP p i).2=0 then flushN (wrP p i).1 (i+1) n else wrP p i) else flushN p (i+1) n
def flushP (p:Pl):Pl × Int:=if (flushN p 0 p.fr.length).2=0 then ({ (flushN p 0 p.fr.length).1 with d:=settleD (flushN p 0 p.fr.length).1.d λ_=>true },0) else flushN p 0 p.fr.length
/-! ### What holds of a pool at work -/
structure PW (p:Pl):Prop where
  dr:Right p.d
  fu:p.d.fuse<=9223372036854775807
  nd:p.d.down=false
  l1:1<=p.fr.length
  l2:p.fr.length<=256
  pn:∀ x ∈ p.fr,0<=x.pins/\x.pins<=256
theorem zaW {p:Pl} {i:Nat} (h:i<p.fr.length):atF p i=p.fr[i]:=by unfold atF;simp [List.getD,List.getElem?_eq_getElem h]
theorem zj4 {p:Pl} {i:Nat} (h:i<p.fr.length):atF p i ∈ p.fr:=by rw [zaW h];exact List.getElem_mem h
abbrev arT:tx:=144
def frB (fr:List Fr) (c:Nat):Blk:=⟨frT,fr.flatMap frF,c*7⟩
def arB (p b c:Nat) (x:Pl) (k:Int):Blk:=⟨arT,[.pointer (some ⟨p,0,none⟩),.slice (some ⟨b,0,none⟩) x.fr.length c,.int .u64 x.tick,.int .u64 x.reads,.int .u64 x.writes,.int .i64 k],6⟩
def arM (M:Mem) (a p b c:Nat) (x:Pl) (k:Int):Mem:=(M.set b (frB x.fr c)).set a (arB p b c x k)
structure OkA (S:Mem) (a p b c:Nat) (x:Pl) (oE oW:Option (Nat × Nat)):Prop where
  v:OkV S p x.d oE oW
  fb:Fresh (devM S p x.d oE oW) b
  fa:Fresh (devM S p x.d oE oW) a
  ab:a≠b
  l:x.fr.length<=c
def ArS (S:Mem) (a p b c:Nat) (x:Pl) (S':Mem):Prop:=∃ k oE oW,OkA S a p b c x oE oW/\S'=arM (devM S p x.d oE oW) a p b c x k
theorem zrb {α : Type} {n:Nat} {f : α->List tu} (H:∀ x,(f x).length=n) (l:List α) (k:Nat) (y : α) (h:k<l.length):spl (l.flatMap f) (k*n) (f y)=(l.set k y).flatMap f:=by
 have e1:l=l.take k ++ l[k] :: l.drop (k+1):=by rw [<- zcW h,List.take_append_drop]
 have e2:l.set k y=l.take k ++ y :: l.drop (k+1):=by rw [List.set_eq_take_append_cons_drop,if_pos h]
 rw [e2]
 conv=>lhs;rw [e1]
 rw [List.flatMap_append,List.flatMap_append,List.flatMap_cons,List.flatMap_cons];have I:=zas H (l.take k);rw [List.length_take,Nat.min_eq_left (Nat.le_of_lt h)] at I;have Q:=H l[k];have J:=H y;generalize List.flatMap f (List.take k l)=A at *;generalize List.flatMap f (List.drop (k+1) l)=B at *;generalize f l[k]=C at *;unfold spl;rw [List.take_left' I,<- List.append_assoc A C B,List.drop_left' (by rw [List.length_append];omega),List.append_assoc]
theorem zfZ {S S':Mem} (h:S=S'):S.Less S':=by rw [h];exact Mem.Less.refl _
theorem zbf {M:Mem} {a p b c:Nat} {x:Pl} {k:Int}:(arM M a p b c x k).own a=some (arB p b c x k):=vf _ _ _
theorem zdu {M:Mem} {a p b c:Nat} {x:Pl} {k:Int} (h:a≠b):(arM M a p b c x k).own b=some (frB x.fr c):=(vg _ _ (Ne.symm h)).trans (vf _ _ _)
theorem zbS {M:Mem} {a p b c:Nat} {x:Pl} {k:Int} (h:a≠b) (A:List Fr) (C:A.length=x.fr.length):(arM M a p b c x k).set b (frB A c)=arM M a p b c { x with fr:=A } k:=by
 unfold arM;rw [<- vC _ _ _ (Ne.symm h),Mem.set_set];unfold arB;rw [C]
theorem zeN {M:Mem} {a p b c:Nat} {x x':Pl} {k k':Int} (h:x'.fr=x.fr):(arM M a p b c x k).set a (arB p b c x' k')=arM M a p b c x' k':=by
 unfold arM;rw [Mem.set_set,h]
theorem zj5 {M:Mem} {a p b c:Nat} {x:Pl} {k:Int} (h:a≠b) (A:x.fr.length<=c) (C:x.fr.length<=256):Sl 7 frF (arM M a p b c x k) (.slice (some ⟨b,0,none⟩) x.fr.length c) x.fr :=
 Sl.own (zdu h) zfY List.prefix_rfl rfl A (Nat.le_trans C (by decide))
theorem zbb {M:Mem} {a p b c:Nat} {x:Pl} {k:Int} (fb:Fresh M b) (fa:Fresh M a) (h:a≠b):M.Less (arM M a p b c x k) :=
 (vh _ _ _ fb.1).trans (vh _ _ _ ((vg _ _ h).trans fa.1))
theorem OkA.less {S:Mem} {a p b c:Nat} {x:Pl} {oE oW:Option (Nat × Nat)} (h:OkA S a p b c x oE oW) (k:Int):S.Less (arM (devM S p x.d oE oW) a p b c x k) :=
 (h.v.dk.less.trans (vh _ _ _ h.v.fr.1)).trans (zbb h.fb h.fa h.ab)
theorem OkA.rd {S:Mem} {a p b c:Nat} {x:Pl} {oE oW:Option (Nat × Nat)} (h:OkA S a p b c x oE oW) (A:PW x) (k:Int):RdV (arM (devM S p x.d oE oW) a p b c x k) p x.d :=
 (h.v.rd (zaK A.dr).1 (zaK A.dr).2).less (zbb h.fb h.fa h.ab)
theorem OkA.like {S:Mem} {a p b c:Nat} {x x':Pl} {oE oW:Option (Nat × Nat)} (h:OkA S a p b c x oE oW) (hd:x'.d=x.d) (A:x'.fr.length=x.fr.length):OkA S a p b c x' oE oW :=
 ⟨by rw [hd];exact h.v,by rw [hd];exact h.fb,by rw [hd];exact h.fa,h.ab,by rw [A];exact h.l⟩
theorem zhI {S:Mem} {a p b c:Nat} {x:Pl} {oE oW:Option (Nat × Nat)} (h:OkA S a p b c x oE oW) (k:Int) {f:tA} {args:Array tu} {R:tu->Mem->Prop} (hc:ACall prog f args (devM S p x.d oE oW) R) :
  ACall prog f args (arM (devM S p x.d oE oW) a p b c x k) λr S'=>∃ M,R r M/\Fresh M b/\Fresh M a/\S'=arM M a p b c x k:=by
 have A:Fresh ((devM S p x.d oE oW).set b (frB x.fr c)) a:=zam h.fa h.ab;refine ((hc.frame (r:=frB x.fr c) h.fb).frame (r:=arB p b c x k) A).mono λr S' ⟨I,⟨M,C,f1,e1⟩,H,e2⟩=>?_;subst e1;exact ⟨M,C,f1,(zaa H).1,e2⟩
section
variable {P:tz} {N:Nat} {ops:Array Oper} {E:Env} {S:Mem} {K:Env->Mem->Prop}
variable {ty:tx} {pos:String} {aft:Array Edge} {gd:Option (Nat × Bool)}
theorem Mv.ARun.storeFr {os:List Oper} {T:tx} {x y:tw} {b o c i:Nat} {l:List Fr} {u:Fr} {v:tu} (H:ev E x=some (.pointer (some ⟨b,o,none⟩))) (J:ev E y=some v) (I:v=frV u) (C:o=i*7) (hi:i<l.length) (hs:sizeT P T=some 7) (A:S.own b=some (frB l c))
  (h:ARun P N ops os K E (S.set b (frB (l.set i u) c))):ARun P N ops (⟨none,.store T x y,ty,pos,aft,none⟩ :: os) K E S:=by
 subst I C;have Q:=zas zfY l;have:=Nat.mul_le_mul_right 7 (show i+1<=l.length from hi);refine ARun.store H J (by unfold frV;exact hs) A (by unfold frB frV;show i*7+7<=(l.flatMap frF).length;omega) (by unfold frV;simp [Value.cells,Value.oneCell']) ?_;have e:spl (frB l c).cells (i*7) (frV u).cells.toList=(l.set i u).flatMap frF:=zrb zfY l i u hi;rw [e];exact h
theorem Mv.ARun.storeFr1 {os:List Oper} {T:tx} {x y:tw} {b o c i q:Nat} {l:List Fr} {u:Fr} {v:tu} (J:ev E x=some (.pointer (some ⟨b,o,none⟩))) (V:ev E y=some v) (C:v.cells = #[v]) (A:v.oneCell'=true) (I:o=i*7+q) (U:q<7) (hi:i<l.length) (Q:(frF l[i]).set q v=frF u) (hs:sizeT P T=some 1) (H:S.own b=some (frB l c))
  (h:ARun P N ops os K E (S.set b (frB (l.set i u) c))):ARun P N ops (⟨none,.store T x y,ty,pos,aft,none⟩ :: os) K E S:=by
 subst I;have W:=zas zfY l;have:=Nat.mul_le_mul_right 7 (show i+1<=l.length from hi);refine vk J V hs C H (by unfold frB;show i*7+q<(l.flatMap frF).length;omega) A ?_;have e:(frB l c).cells.set (i*7+q) v=(l.set i u).flatMap frF:=zkT zfY l i u hi q v U Q;rw [e];exact h
end
end
section
open Go.RowKit
open Mv Disk
namespace Sto
structure Held (d:D) (x:Fr):Prop where
  h:x.holds
  l:x.leased=false
  p0:0<=x.pins
  p1:x.pins<=200
  z:x.data.size=64
  s0:0<=x.sector
  s1:x.sector<(ns d x.name:Int)
  c:x.dirty=false->x.data=seen d x.name x.sector
def FrOk (d:D) (x:Fr):Prop:=x=F0\/x=F1\/Held d x
def same (x y:Fr):Prop:=x.holds/\y.holds/\x.name=y.name/\x.sector=y.sector
structure Ps (p:Pl) (n:Nat):Prop where
  d:Dw p.d n
  ok:∀ i,i<p.fr.length->FrOk p.d (atF p i)
  ap:∀ i j,i<p.fr.length->j<p.fr.length->i≠j -> ¬ same (atF p i) (atF p j)
  l1:1<=p.fr.length
  l2:p.fr.length<=256
theorem n0 : ¬ F0.holds:=λh=>h rfl
theorem n1 : ¬ F1.holds:=λh=>h rfl
theorem zb0 {d:D} {x:Fr} (h:FrOk d x) (A:x.holds):Held d x:=by
 rcases h with rfl | rfl | h
 ·exact absurd A n0
 ·exact absurd A n1
 exact h
def vw (p:Pl) (s:tt) (k:Int):tt:=if p.fr.findIdx (isF s k)<p.fr.length then (atF p (p.fr.findIdx (isF s k))).data else seen p.d s k
theorem zap {s:tt} {k:Int} {x:Fr}:isF s k x=true <-> x.holds/\x.sector=k/\x.name=s:=by unfold isF;simp
theorem zhJ {p:Pl} {s:tt} {k:Int} (h:p.fr.findIdx (isF s k)<p.fr.length):isF s k (atF p (p.fr.findIdx (isF s k)))=true:=by
 rw [zaW h];exact List.findIdx_getElem (w:=h)
theorem ztM {p:Pl} {n:Nat} (H:Ps p n) {s:tt} {k:Int} {i:Nat} (hi:i<p.fr.length) (h:isF s k (atF p i)=true):p.fr.findIdx (isF s k)=i:=by
 have A:p.fr.findIdx (isF s k)<p.fr.length:=List.findIdx_lt_length_of_exists ⟨p.fr[i],List.getElem_mem hi,by rw [<- zaW hi];exact h⟩;have C:=zhJ A;by_cases e:p.fr.findIdx (isF s k)=i
 ·exact e
 exfalso;rw [zap] at h C;exact H.ap _ _ A hi e ⟨C.1,h.1,C.2.2.trans h.2.2.symm,C.2.1.trans h.2.1.symm⟩
theorem zgm {p:Pl} {n:Nat} (A:Ps p n) {s:tt} {k:Int} {i:Nat} (hi:i<p.fr.length) (h:isF s k (atF p i)=true):vw p s k=(atF p i).data:=by
 unfold vw;rw [ztM A hi h,if_pos hi]
theorem zf0 {p:Pl} {s:tt} {k:Int} (h:∀ i,i<p.fr.length->isF s k (atF p i)=false):vw p s k=seen p.d s k:=by
 unfold vw;rw [if_neg (λq=>by have:=zhJ q;rw [h _ q] at this;cases this)]
theorem ztN {p:Pl} (s:tt) (k:Int):(∃ i,i<p.fr.length/\isF s k (atF p i)=true) \/ ∀ i,i<p.fr.length->isF s k (atF p i)=false:=by
 by_cases q:p.fr.findIdx (isF s k)<p.fr.length
 ·exact .inl ⟨_,q,zhJ q⟩
 refine .inr λi hi=>?_;cases e:isF s k (atF p i) with
 | false=>rfl
 | true=>exact absurd (List.findIdx_lt_length_of_exists ⟨p.fr[i],List.getElem_mem hi,by rw [<- zaW hi];exact e⟩) q
theorem zj6 {p:Pl} {n:Nat} (A:Ps p n) {s:tt} {k:Nat} (h:k<ns p.d s):(vw p s (k:Int)).size=64:=by
 rcases ztN (p:=p) s (k:Int) with ⟨i,hi,e⟩ | e
 ·rw [zgm A hi e];exact (zb0 (A.ok i hi) (zap.1 e).1).z
 rw [zf0 e];exact ziP A.d h
theorem zaL {p:Pl} {i j:Nat} (x:Fr) (hi:i<p.fr.length):atF (setP p i x) j=if i=j then x else atF p j:=by
 unfold atF setP;simp only [List.getD_eq_getElem?_getD,List.getElem?_set];by_cases e:i=j
 ·subst e;rw [if_pos rfl,if_pos rfl,if_pos hi];rfl
 rw [if_neg e,if_neg e]
theorem zby {p:Pl} {i:Nat} (x:Fr):(setP p i x).fr.length=p.fr.length:=by unfold setP;simp
theorem Ps.set {p:Pl} {n:Nat} (C:Ps p n) {i:Nat} (hi:i<p.fr.length) {x:Fr} (W:FrOk p.d x) (U:∀ j,j<p.fr.length->j≠i -> ¬ same (atF p j) x):Ps (setP p i x) n where
 d:=C.d
 ok:=λj V=>by
  rw [zby] at V;rw [zaL x hi];split
  ·exact W
  exact C.ok j V
 ap:=λa b Q J A=>by
  rw [zby] at Q J;rw [zaL x hi,zaL x hi];by_cases H:i=a
  ·rw [if_pos H,if_neg (λI=>A (H.symm.trans I))];exact λh=>U b J (λe=>A (by rw [<- H,e])) ⟨h.2.1,h.1,h.2.2.1.symm,h.2.2.2.symm⟩
  rw [if_neg H];by_cases I:i=b
  ·rw [if_pos I];exact U a Q (λe=>H e.symm)
  rw [if_neg I];exact C.ap a b Q J A
 l1:=by rw [zby];exact C.l1
 l2:=by rw [zby];exact C.l2
theorem zgn {p q:Pl} {n m:Nat} (I:Ps p n) (H:Ps q m) (V:q.fr.length=p.fr.length) {s:tt} {k:Int}
  (U:∀ i,i<p.fr.length->isF s k (atF p i)=true->(isF s k (atF q i)=true/\(atF q i).data=(atF p i).data)\/((∀ j,j<p.fr.length->isF s k (atF q j)=false)/\seen q.d s k=(atF p i).data))
  (J:(∀ i,i<p.fr.length->isF s k (atF p i)=false)->(∃ i,i<p.fr.length/\isF s k (atF q i)=true/\(atF q i).data=seen p.d s k)\/((∀ j,j<p.fr.length->isF s k (atF q j)=false)/\seen q.d s k=seen p.d s k)):vw q s k=vw p s k:=by
 rcases ztN (p:=p) s k with ⟨i,hi,e⟩ | e
 ·rw [zgm I hi e];rcases U i hi e with ⟨A,C⟩ | ⟨A,C⟩
  ·rw [zgm H vd A,C]
  rw [zf0 (λj Q=>A j vd),C]
 rw [zf0 e];rcases J e with ⟨i,hi,A,C⟩ | ⟨A,C⟩
 ·rw [zgm H vd A,C]
 rw [zf0 (λj Q=>A j vd),C]
def nb (fr:List Fr):Nat:=fr.countP λx=>!decide x.idle
theorem zk6 {fr:List Fr} {i:Nat} (hi:i<fr.length) (x:Fr):nb (fr.set i x)+(if (fr.getD i F0).idle then 0 else 1)=nb fr+(if x.idle then 0 else 1):=by
 unfold nb;have e:fr.getD i F0=fr[i]:=by simp [List.getD,List.getElem?_eq_getElem hi]
 rw [e];have h:=List.countP_set (p:=λx:Fr=>!decide x.idle) (l:=fr) (a:=x) hi;rw [h];by_cases A:fr[i].idle
 ·by_cases C:x.idle
  ·simp [A,C]
  simp [A,C]
 have H:0<fr.countP λx=>!decide x.idle:=List.countP_pos_iff.2 ⟨fr[i],List.getElem_mem hi,by simp [A]⟩;by_cases C:x.idle
 ·simp [A,C];omega
 simp [A,C];omega
theorem zmm {fr:List Fr} (h:nb fr<fr.length):∃ i,i<fr.length/\(fr.getD i F0).idle:=by
 by_cases q:∃ i,i<fr.length/\(fr.getD i F0).idle
 ·exact q
 exfalso;have:nb fr=fr.length:=by
  unfold nb;rw [List.countP_eq_length];intro x A;obtain ⟨i,hi,rfl⟩:=List.mem_iff_getElem.1 A;have e:fr.getD i F0=fr[i]:=by simp [List.getD,List.getElem?_eq_getElem hi]
  have C : ¬ fr[i].idle:=λh=>q ⟨i,hi,by rw [e];exact h⟩;simp [C]
 omega
theorem zk7 {fr:List Fr}:∀ i,(∃ j,j<i/\(fr.getD j F0).idle)->0<=bestF fr i
 | 0,⟨j,hj,_⟩=>absurd hj (Nat.not_lt_zero _)
 | i+1,⟨j,hj,h⟩=>by
  unfold bestF;split
  ·omega
  rename_i q;rcases Nat.lt_or_ge j i with hl | hl
  ·exact zk7 i ⟨j,hl,h⟩
  obtain rfl:j=i:=by omega
  have:=zea fr j;by_cases A:bestF fr j<0
  ·exact absurd ⟨h,.inl A⟩ q
  omega
theorem zg0 (fr:List Fr):∀ i,i<=fr.length->0<=bestF fr i->(fr.getD (bestF fr i).toNat F0).idle/\(bestF fr i).toNat<fr.length
 | 0,_,h=>by unfold bestF at h;omega
 | i+1,hi,h=>by
  have A:=zg0 fr i vd;unfold bestF at h ⊢;split
  ·rename_i q;rw [Int.toNat_natCast];exact ⟨q.1,by omega⟩
  rename_i q;rw [if_neg q] at h;exact A h
structure Stays (p q:Pl):Prop where
  l:q.fr.length=p.fr.length
  z:q.d.size=p.d.size
  u:used q.d.ext=used p.d.ext
  n:∀ s,ns q.d s=ns p.d s
  v:∀ s (k:Nat),k<ns p.d s->vw q s (k:Int)=vw p s (k:Int)
theorem Stays.refl (p:Pl):Stays p p:=⟨rfl,rfl,rfl,λ_=>rfl,λ_ _ _=>rfl⟩
theorem Stays.trans {p q r:Pl} (h:Stays p q) (g:Stays q r):Stays p r:=⟨g.l.trans h.l,g.z.trans h.z,g.u.trans h.u,λs=>(g.n s).trans (h.n s),λs k A=>(g.v s k (by rw [h.n];exact A)).trans (h.v s k A)⟩
end Sto
end
section
open Go.RowKit
open Mv Disk
namespace Sto
theorem zbT {s:tt} {k:Int} {x:Fr} (h : ¬ isF s k x=true):isF s k x=false:=by simpa using h
theorem zeb (s:tt) (k:Int):isF s k F0=false:=zbT λh=>n0 (zap.1 h).1
theorem zvT (s:tt) (k:Int):isF s k F1=false:=zbT λh=>n1 (zap.1 h).1
theorem Held.to {d d':D} {x:Fr} (h:Held d x) (A:∀ s,ns d' s=ns d s) (hc:seen d' x.name x.sector=seen d x.name x.sector):Held d' x :=
 ⟨h.h,h.l,h.p0,h.p1,h.z,h.s0,by rw [A];exact h.s1,λe=>by rw [hc];exact h.c e⟩
theorem zvU {p:Pl} {n:Nat} (C:Ps p n) (hn:n<16384) {i:Nat} (hi:i<p.fr.length) (hh:(atF p i).holds) :
  ∃ q,wrP p i=(q,0)/\Ps q (n+1)/\Stays p q/\q.fr=p.fr.set i { atF p i with dirty:=false }/\seen q.d (atF p i).name (atF p i).sector=(atF p i).data/\(∀ s k,¬ isF s k (atF p i)=true->seen q.d s k=seen p.d s k):=by
 have A:=zb0 (C.ok i hi) hh;obtain ⟨k,hk⟩:=Int.eq_ofNat_of_zero_le A.s0;have ak:=A.s1;rw [hk] at ak;obtain ⟨d',h1,h2,h3,h4,h5,h6⟩:=zfW C.d hn (s:=(atF p i).name) (k:=k) vd A.z;have J:∀ s j,¬ isF s j (atF p i)=true->seen d' s j=seen p.d s j:=λs j h=>by
  rw [h6,if_neg];rintro ⟨a,b⟩;exact h (zap.2 ⟨hh,by rw [hk];exact b,a⟩)
 have H:seen d' (atF p i).name (atF p i).sector=(atF p i).data:=by rw [h6,if_pos ⟨rfl,hk.symm⟩]
 have X:wrP p i=({ p with d:=d',writes:=up1 p.writes,fr:=p.fr.set i { atF p i with dirty:=false } },0):=by
  unfold wrP;rw [hk,h1];simp
 obtain ⟨q,hq⟩ : ∃ q:Pl,q = { p with d:=d',writes:=up1 p.writes,fr:=p.fr.set i { atF p i with dirty:=false } }:=⟨_,rfl⟩;rw [<- hq] at X;have I:q.d=d':=by rw [hq]
 have qf:q.fr=p.fr.set i { atF p i with dirty:=false }:=by rw [hq]
 have ql:q.fr.length=p.fr.length:=by rw [qf,List.length_set]
 have qa:∀ j,atF q j=if i=j then { atF p i with dirty:=false } else atF p j:=λj=>by
  have:=zaL (p:=p) (i:=i) (j:=j) { atF p i with dirty:=false } hi;unfold atF setP at this;unfold atF;rw [qf];exact this
 have ah:∀ j,j<p.fr.length->i≠j->(atF p j).holds -> ¬ isF (atF p j).name (atF p j).sector (atF p i)=true:=λj U ag ai h=>by
  obtain ⟨_,b,c⟩:=zap.1 h;exact C.ap i j hi U ag ⟨hh,ai,c,b⟩
 have W:Ps q (n+1):=by
  refine ⟨by rw [I];exact h2,λj U=>?_,λa b ha hb Y=>?_,by rw [ql];exact C.l1,by rw [ql];exact C.l2⟩
  ·rw [qa,I];by_cases e:i=j
   ·rw [if_pos e];exact .inr (.inr ⟨hh,A.l,A.p0,A.p1,A.z,A.s0,by show _<((ns d' (atF p i).name:Nat):Int);rw [h5];exact A.s1,λ_=>H.symm⟩)
   rw [if_neg e];rcases C.ok j vd with h | h | h
   ·exact .inl h
   ·exact .inr (.inl h)
   exact .inr (.inr (h.to h5 (J _ _ (ah j vd e h.h))))
  rw [qa,qa];have Q:=C.ap a b vd vd Y;by_cases ea:i=a
  ·rw [if_pos ea];by_cases V:i=b
   ·exact absurd (ea.symm.trans V) Y
   rw [if_neg V];subst ea;exact Q
  rw [if_neg ea];by_cases V:i=b
  ·rw [if_pos V];subst V;exact Q
  rw [if_neg V];exact Q
 refine ⟨q,X,W,⟨ql,by rw [I,h3],by rw [I,h4],λs=>by rw [I,h5],λs j U=>?_⟩,qf,by rw [I];exact H,λs j h=>by rw [I];exact J s j h⟩;refine zgn C W ql (λj U h=>.inl ?_) (λh=>.inr ⟨λj U=>?_,?_⟩)
 ·rw [qa];by_cases e:i=j
  ·rw [if_pos e];subst e;exact ⟨h,rfl⟩
  rw [if_neg e];exact ⟨h,rfl⟩
 ·rw [qa];by_cases e:i=j
  ·rw [if_pos e];exact h i hi
  rw [if_neg e];exact h j U
 rw [I];exact J _ _ (by rw [h i hi];simp)
theorem zf1 {p:Pl} {n:Nat} (C:Ps p n) {i:Nat} (hi:i<p.fr.length) (hc:(atF p i).holds->seen p.d (atF p i).name (atF p i).sector=(atF p i).data):Ps (setP p i F0) n/\Stays p (setP p i F0):=by
 have A:Ps (setP p i F0) n:=C.set hi (.inl rfl) λj Y ac h=>n0 h.2.1;refine ⟨A,⟨zby _,rfl,rfl,λ_=>rfl,λs j Y=>?_⟩⟩;refine zgn C A (zby _) (λa J h=>?_) (λh=>.inr ⟨λa J=>?_,rfl⟩)
 ·by_cases e:i=a
  ·subst e;obtain ⟨U,V,Q⟩:=zap.1 h;refine .inr ⟨λb W=>?_,?_⟩
   ·rw [zaL _ hi];by_cases I:i=b
    ·rw [if_pos I];exact zeb _ _
    rw [if_neg I];refine zbT λH=>?_;obtain ⟨c1,c2,X⟩:=zap.1 H;exact C.ap i b hi W I ⟨U,c1,Q.trans X.symm,V.trans c2.symm⟩
   have:=hc U;rw [V,Q] at this;exact this
  exact .inl (by rw [zaL _ hi,if_neg e];exact ⟨h,rfl⟩)
 rw [zaL _ hi];by_cases e:i=a
 ·rw [if_pos e];exact zeb _ _
 rw [if_neg e];exact h a J
theorem zow {p:Pl} {n:Nat} (H:Ps p n) (hn:n<16384) (hb:nb p.fr<p.fr.length) :
  ∃ q i,takeP p=(q,i,0)/\i<p.fr.length/\Ps q (n+1)/\Stays p q/\(atF p i).idle/\q.fr=p.fr.set i F0/\((∀ j,j<p.fr.length->(atF p j).dirty=false)->Ps q n):=by
 obtain ⟨i0,aa,U⟩:=zmm hb;unfold takeP;by_cases J:p.fr.findIdx (λx=>decide (x=F0))<p.fr.length
 ·rw [if_pos J];have Y:=List.findIdx_getElem (w:=J);simp only [decide_eq_true_eq] at Y;refine ⟨p,_,rfl,J,⟨H.d.mono vd,H.ok,H.ap,H.l1,H.l2⟩,Stays.refl p,.inl (by rw [zaW J];exact Y),?_⟩;have hs:=List.set_getElem_self J;rw [Y] at hs;exact ⟨hs.symm,λ_=>H⟩
 rw [if_neg J];have ac:0<=bestF p.fr p.fr.length:=zk7 _ ⟨i0,aa,U⟩;obtain ⟨ad,A⟩:=zg0 p.fr p.fr.length (Nat.le_refl _) ac;rw [if_neg vd];generalize (bestF p.fr p.fr.length).toNat=m at *;have C:(atF p m).idle:=ad;have hh:(atF p m).holds:=by
  rcases C with h | h
  ·exfalso;exact J (List.findIdx_lt_length_of_exists ⟨p.fr[m],List.getElem_mem A,by rw [<- zaW A,h];simp⟩)
  exact h.1
 by_cases Q:(atF p m).dirty=true
 ·rw [if_pos Q];obtain ⟨q,h1,h2,h3,h4,h5,_⟩:=zvU H hn A hh;rw [h1,if_pos rfl];have V:m<q.fr.length:=by rw [h3.l];exact A
  have X:atF q m = { atF p m with dirty:=false }:=by
   show q.fr.getD m F0=_;rw [h4,List.getD_eq_getElem?_getD,List.getElem?_set,if_pos rfl,if_pos A];rfl
  obtain ⟨I,W⟩:=zf1 h2 V (λ_=>by rw [X];exact h5);exact ⟨_,m,rfl,A,I,h3.trans W,C,by unfold setP;simp only [h4,List.set_set],λhc=>by rw [hc m A] at Q;cases Q⟩
 rw [if_neg Q];obtain ⟨I,W⟩:=zf1 H A (λ_=>((zb0 (H.ok m A) hh).c (by simpa using Q)).symm);exact ⟨_,m,rfl,A,⟨I.d.mono vd,I.ok,I.ap,I.l1,I.l2⟩,W,C,rfl,λ_=>I⟩
theorem ztO {s:tt} {k:Int} {data:tt} (h:s.size≠0):isF s k (newF s k data)=true:=zap.2 ⟨h,rfl,rfl⟩
theorem ziR {x:Fr} (h:x.idle):x.pins=0:=by
 rcases h with rfl | h
 ·rfl
 exact h.2
theorem ztP {x:Fr} (h:0<x.pins) : ¬ x.idle:=λe=>by have:=ziR e;omega
theorem ztQ {p:Pl} {n:Nat} (A:Ps p n) {s:tt} (h:0<ns p.d s):s.size≠0:=by
 have C:=(zc5 A.d s).2 h;obtain ⟨I,H⟩:=zbw A.d.r.ex.asc C;have:=(A.d.r.ex.ok _ I).1.1;rwa [H] at this
theorem zox {p:Pl} {n:Nat} (Q:Ps p n) {i:Nat} (hi:i<p.fr.length) (hh:(atF p i).holds) (hb:(atF p i).pins<200) :
  Ps (pin1 p i) n/\Stays p (pin1 p i)/\(∀ j,atF (pin1 p i) j=if i=j then { atF p i with tick:=up1 p.tick,pins:=(atF p i).pins+1 } else atF p j):=by
 have J:=zb0 (Q.ok i hi) hh;obtain ⟨x,A⟩ : ∃ x:Fr,x = { atF p i with tick:=up1 p.tick,pins:=(atF p i).pins+1 }:=⟨_,rfl⟩;have V:Held p.d x:=by
  rw [A];exact ⟨J.h,J.l,by have:=J.p0;show 0<=_+1;omega,by show _+1<=(200:Int);omega,J.z,J.s0,J.s1,J.c⟩
 have X:∀ j,j<p.fr.length->j≠i -> ¬ same (atF p j) x:=λj U Y h=>by
  rw [A] at h;exact Q.ap j i U hi Y ⟨h.1,hh,h.2.2.1,h.2.2.2⟩
 have C:=Q.set hi (.inr (.inr V)) X;have I:pin1 p i = { setP p i x with tick:=up1 p.tick }:=by unfold pin1 setP;rw [A]
 have W:∀ j,atF (pin1 p i) j=if i=j then x else atF p j:=λj=>by rw [I];exact zaL x hi
 have H:Ps (pin1 p i) n:=by rw [I];exact ⟨C.d,C.ok,C.ap,C.l1,C.l2⟩
 have hl:(pin1 p i).fr.length=p.fr.length:=by rw [I];exact zby x
 refine ⟨H,⟨hl,by rw [I];rfl,by rw [I];rfl,λs=>by rw [I];rfl,λs k hk=>?_⟩,λj=>by rw [W,A]⟩;refine zgn Q H hl (λj U h=>.inl ?_) (λh=>.inr ⟨λj U=>?_,by rw [I];rfl⟩)
 ·rw [W];by_cases e:i=j
  ·rw [if_pos e];subst e;rw [A];exact ⟨h,rfl⟩
  rw [if_neg e];exact ⟨h,rfl⟩
 rw [W];by_cases e:i=j
 ·rw [if_pos e,A];subst e;exact h i hi
 rw [if_neg e];exact h j U
theorem zvV {p:Pl} {n:Nat} (hp:Ps p n) (hn:n<16384) (hb:nb p.fr<p.fr.length) {s:tt} {k:Nat} (hk:k<ns p.d s) (am:∀ i,i<p.fr.length->isF s (k:Int) (atF p i)=true->(atF p i).pins<200) :
  ∃ q i,pinP p s (k:Int)=(q,i,0)/\i<p.fr.length/\Ps q (n+1)/\Stays p q/\isF s (k:Int) (atF q i)=true/\(atF q i).data=vw p s (k:Int)/\(atF q i).pins=(if isF s (k:Int) (atF p i)=true then (atF p i).pins else 0)+1/\(∀ j,j≠i->atF q j=atF p j)/\nb q.fr<=nb p.fr+1/\(isF s (k:Int) (atF p i)=true\/(atF p i).idle):=by
 have W:=ztQ hp (show 0<ns p.d s by omega);have ac:∀ {fr:List Fr} {j:Nat} (Q:j<fr.length) (x:Fr),nb (fr.set j x)<=nb fr+1:=λQ x=>by
  have:=zk6 Q x;split at this <;> split at this <;> omega
 unfold pinP;by_cases U:p.fr.findIdx (isF s (k:Int))<p.fr.length
 ·rw [if_pos U];have hf:=zhJ U;generalize p.fr.findIdx (isF s (k:Int))=i at *;have ay:=am i U hf;rw [if_neg vd];obtain ⟨g1,g2,X⟩:=zox hp U (zap.1 hf).1 ay;refine ⟨_,i,rfl,U,⟨g1.d.mono vd,g1.ok,g1.ap,g1.l1,g1.l2⟩,g2,by rw [X,if_pos rfl];exact hf,by rw [X,if_pos rfl,zgm hp U hf],by rw [X,if_pos rfl,if_pos hf],λj H=>by rw [X,if_neg (λe=>H e.symm)],?_,.inl hf⟩;exact ac U _
 rw [if_neg U,zra hk,if_neg (by simp)];obtain ⟨q,i,h1,h2,h3,h4,h5,h6,_⟩:=zow hp hn hb;have Y:∀ j,j<p.fr.length->isF s (k:Int) (atF p j)=false:=λj Q=>by
  cases e:isF s (k:Int) (atF p j) with
  | false=>rfl
  | true=>exact absurd (List.findIdx_lt_length_of_exists ⟨p.fr[j],List.getElem_mem Q,by rw [<- zaW Q];exact e⟩) U
 have ae:∀ j,atF q j=if i=j then F0 else atF p j:=λj=>by
  have:=zaL (p:=p) (i:=i) (j:=j) F0 h2;unfold atF setP at this;unfold atF;rw [h6];exact this
 have aa:∀ j,j<q.fr.length->isF s (k:Int) (atF q j)=false:=λj Q=>by
  rw [ae];by_cases e:i=j
  ·rw [if_pos e];exact zeb _ _
  rw [if_neg e];exact Y j (by rw [h4.l] at Q;exact Q)
 have ad:seen q.d s (k:Int)=seen p.d s (k:Int):=by
  have:=h4.v s k hk;rwa [zf0 aa,zf0 Y] at this
 rw [h1];simp only;rw [if_neg (by simp)];have V:i<q.fr.length:=by rw [h4.l];exact h2
 have av:Held q.d (newF s (k:Int) (seen p.d s (k:Int))):=⟨W,rfl,Int.le_refl _,(show (0:Int)<=200 by decide),ziP hp.d hk,by show (0:Int)<=(k:Int);omega,by show (k:Int)<((ns q.d s:Nat):Int);rw [h4.n];omega,λ_=>ad.symm⟩;have ax:∀ j,j<q.fr.length->j≠i -> ¬ same (atF q j) (newF s (k:Int) (seen p.d s (k:Int))):=λj Q H h=>by
  have:=aa j Q;have h':isF s (k:Int) (atF q j)=true:=zap.2 ⟨h.1,h.2.2.2,h.2.2.1⟩;rw [h'] at this;cases this
 have A:=h3.set V (.inr (.inr av)) ax;have J:∀ j,atF (setP q i (newF s (k:Int) (seen p.d s (k:Int)))) j=if i=j then newF s (k:Int) (seen p.d s (k:Int)) else atF q j:=λj=>zaL _ V
 have I:Stays q (setP q i (newF s (k:Int) (seen p.d s (k:Int)))):=by
  refine ⟨zby _,rfl,rfl,λ_=>rfl,λo j Q=>?_⟩;refine zgn h3 A (zby _) (λa ha h=>.inl ?_) (λh=>?_)
  ·rw [J];by_cases e:i=a
   ·exfalso;subst e;rw [ae,if_pos rfl,zeb] at h;cases h
   rw [if_neg e];exact ⟨h,rfl⟩
  by_cases e:s=o/\(k:Int)=(j:Int)
  ·obtain ⟨rfl,e2⟩:=e;refine .inl ⟨i,V,?_,?_⟩
   ·rw [J,if_pos rfl,<- e2];exact ztO W
   rw [J,if_pos rfl,<- e2,ad];rfl
  refine .inr ⟨λa ha=>?_,rfl⟩;rw [J];by_cases e2:i=a
  ·rw [if_pos e2];exact zbT λh=>e ⟨(zap.1 h).2.2,(zap.1 h).2.1⟩
  rw [if_neg e2];exact h a ha
 obtain ⟨r,hr⟩ : ∃ r:Pl,r = { setP q i (newF s (k:Int) (seen p.d s (k:Int))) with reads:=up1 q.reads }:=⟨_,rfl⟩;rw [<- hr];have C:∀ j,atF r j=if i=j then newF s (k:Int) (seen p.d s (k:Int)) else atF q j:=λj=>by rw [hr];exact J j
 have an:Ps r (n+1):=by rw [hr];exact ⟨A.d,A.ok,A.ap,A.l1,A.l2⟩
 have ak:Stays q r:=by rw [hr];exact ⟨I.l,I.z,I.u,I.n,I.v⟩
 have au:i<r.fr.length:=by rw [ak.l];exact V
 obtain ⟨g1,g2,X⟩:=zox an au (by rw [C,if_pos rfl];exact W) (by rw [C,if_pos rfl];exact (show (0:Int)<200 by decide));have aw:r.fr=p.fr.set i (newF s (k:Int) (seen p.d s (k:Int))):=by rw [hr];show q.fr.set i _=_;rw [h6,List.set_set]
 refine ⟨_,i,rfl,h2,g1,(h4.trans ak).trans g2,?_,?_,?_,λj H=>?_,?_,.inr h5⟩
 ·rw [X,if_pos rfl,C,if_pos rfl];exact zap.2 ⟨W,rfl,rfl⟩
 ·rw [X,if_pos rfl,C,if_pos rfl,zf0 Y];rfl
 ·rw [X,if_pos rfl,C,if_pos rfl,Y i h2];rfl
 ·rw [X,if_neg (λe=>H e.symm),C,if_neg (λe=>H e.symm),ae,if_neg (λe=>H e.symm)]
 have:(pin1 r i).fr=p.fr.set i { atF r i with tick:=up1 r.tick,pins:=(atF r i).pins+1 }:=by unfold pin1;simp only [aw,List.set_set]
 rw [this];exact ac h2 _
theorem zsN {p:Pl} {n:Nat} (I:Ps p n) {i:Nat} (hi:i<p.fr.length) {x:Fr} (U:Held p.d x) (V:(atF p i).holds) (Q:x.name=(atF p i).name) (hs:x.sector=(atF p i).sector) :
  Ps (setP p i x) n /\ ∀ s (k:Nat),k<ns p.d s->vw (setP p i x) s (k:Int)=if isF s (k:Int) x=true then x.data else vw p s (k:Int):=by
 have J:∀ j,j<p.fr.length->j≠i -> ¬ same (atF p j) x:=λj H A h=>I.ap j i H hi A ⟨h.1,V,h.2.2.1.trans Q,h.2.2.2.trans hs⟩;have C:=I.set hi (.inr (.inr U)) J;refine ⟨C,λs k W=>?_⟩;by_cases e:isF s (k:Int) x=true
 ·rw [if_pos e,zgm C (i:=i) (by rw [zby];exact hi) (by rw [zaL x hi,if_pos rfl];exact e),zaL x hi,if_pos rfl]
 rw [if_neg e];have A : ¬ isF s (k:Int) (atF p i)=true:=λh=>e (by
  obtain ⟨_,b,c⟩:=zap.1 h;exact zap.2 ⟨U.h,by rw [hs];exact b,by rw [Q];exact c⟩)
 refine zgn I C (zby _) (λj H h=>.inl ?_) (λh=>.inr ⟨λj H=>?_,rfl⟩)
 ·rw [zaL x hi];by_cases e2:i=j
  ·subst e2;exact absurd h A
  rw [if_neg e2];exact ⟨h,rfl⟩
 rw [zaL x hi];by_cases e2:i=j
 ·rw [if_pos e2];exact zbT e
 rw [if_neg e2];exact h j H
end Sto
end
section
open Go.RowKit
open Mv Disk
namespace Sto
theorem zdr {x:Fr} (h:x.holds):x.idle <-> x.pins=0:=⟨ziR,λe=>.inr ⟨h,e⟩⟩
theorem zhK (p:Pl) (i:Nat):p.fr.getD i F0=atF p i:=rfl
theorem zrc {p:Pl} {n:Nat} (J:Ps p n) {i:Nat} (hi:i<p.fr.length) {s:tt} {k:Int} (Y:isF s k (atF p i)=true) (h1:1<=(atF p i).pins) :
  ∃ q,zgZ p (i:Int)=(q,0)/\Ps q n/\Stays p q/\isF s k (atF q i)=true/\(atF q i).pins=(atF p i).pins-1/\(∀ j,j≠i->atF q j=atF p j)/\nb q.fr<=nb p.fr/\((atF p i).pins=1->nb q.fr+1=nb p.fr):=by
 obtain ⟨U,hk,hn⟩:=zap.1 Y;have H:=zb0 (J.ok i hi) U;obtain ⟨x,A⟩ : ∃ x:Fr,x = { atF p i with pins:=(atF p i).pins-1 }:=⟨_,rfl⟩;have I:Held p.d x:=by rw [A];exact ⟨H.h,H.l,by show 0<=_-1;omega,by have:=H.p1;show _-1<=(200:Int);omega,H.z,H.s0,H.s1,H.c⟩
 have X:isF s k x=true:=by rw [A];exact Y
 obtain ⟨g1,g2⟩:=zsN J hi I U (by rw [A]) (by rw [A]);have hu:zgZ p (i:Int)=(setP p i x,0):=by
  unfold zgZ;rw [if_neg vd,Int.toNat_natCast,if_neg vd,A]
 have Q:Stays p (setP p i x):=⟨zby _,rfl,rfl,λ_=>rfl,λo j V=>by
  rw [g2 o j V];by_cases e:isF o (j:Int) x=true
  ·rw [if_pos e,zgm J hi (s:=o) (k:=(j:Int)) (by rw [A] at e;exact e),A]
  rw [if_neg e]⟩
 have C:=zk6 hi x;rw [zhK] at C;have e1:=zdr U;have e2:=zdr I.h;have W:x.pins=(atF p i).pins-1:=by rw [A]
 refine ⟨setP p i x,hu,g1,Q,by rw [zaL x hi,if_pos rfl];exact X,by rw [zaL x hi,if_pos rfl,W],λj V=>by rw [zaL x hi,if_neg (λe=>V e.symm)],?_,λae=>?_⟩
 ·show nb (p.fr.set i x)<=_;rw [if_neg (λe=>by have:=e1.1 e;omega)] at C;split at C <;> omega
 show nb (p.fr.set i x)+1=_;rw [if_neg (λe=>by have:=e1.1 e;omega),if_pos (e2.2 vd)] at C;omega
theorem zmn {t u:tt} {a:Nat} (C:t.size=64) (A:a+u.size<=64):(fillS t (a:Int) u).size=64:=by
 unfold fillS;rw [ByteArray.size_append,ByteArray.size_append,ByteArray.size_extract,ByteArray.size_extract,Int.toNat_natCast];omega
theorem ztR {p:Pl} {n:Nat} (Q:Ps p n) {i:Nat} (hi:i<p.fr.length) {s:tt} {k:Nat} (X:isF s (k:Int) (atF p i)=true) (h1:1<=(atF p i).pins) {u:tt} {a:Nat} (ha:a+u.size<=64) :
  ∃ q,fillP p (i:Int) (a:Int) u=(q,0)/\Ps q n/\q.fr.length=p.fr.length/\q.d=p.d/\isF s (k:Int) (atF q i)=true/\(atF q i).pins=(atF p i).pins/\(∀ j,j≠i->atF q j=atF p j)/\nb q.fr=nb p.fr/\(∀ o (j:Nat),j<ns p.d o->vw q o (j:Int)=if s=o/\k=j then fillS (vw p s (k:Int)) (a:Int) u else vw p o (j:Int)):=by
 obtain ⟨U,hk,hn⟩:=zap.1 X;have C:=zb0 (Q.ok i hi) U;obtain ⟨x,A⟩ : ∃ x:Fr,x = { atF p i with data:=fillS (atF p i).data (a:Int) u,dirty:=true }:=⟨_,rfl⟩;have I:Held p.d x:=by rw [A];exact ⟨C.h,C.l,C.p0,C.p1,zmn C.z ha,C.s0,C.s1,λe=>by cases e⟩
 have H:isF s (k:Int) x=true:=by rw [A];exact X
 obtain ⟨Y,g2⟩:=zsN Q hi I U (by rw [A]) (by rw [A]);have hu:fillP p (i:Int) (a:Int) u=(setP p i x,0):=by
  have h0:pinnedP p (i:Int) (a:Int) (u.size:Int)=0:=by
   unfold pinnedP;rw [if_neg vd,Int.toNat_natCast,if_neg vd]
  unfold fillP;rw [if_pos h0,Int.toNat_natCast,A]
 have J:=zk6 hi x;rw [zhK] at J;have e1:=zdr U;have e2:=zdr I.h;have V:x.pins=(atF p i).pins:=by rw [A]
 refine ⟨setP p i x,hu,Y,zby _,rfl,by rw [zaL x hi,if_pos rfl];exact H,by rw [zaL x hi,if_pos rfl,V],λj W=>by rw [zaL x hi,if_neg (λe=>W e.symm)],?_,λo j W=>?_⟩
 ·show nb (p.fr.set i x)=_;rw [if_neg (λe=>by have:=e1.1 e;omega),if_neg (λe=>by have:=e2.1 e;omega)] at J;omega
 rw [g2 o j W];by_cases e:s=o/\k=j
 ·obtain ⟨rfl,rfl⟩:=e;rw [if_pos H,if_pos ⟨rfl,rfl⟩,zgm Q hi X,A]
 rw [if_neg e,if_neg (λh=>e ?_)];obtain ⟨_,b,c⟩:=zap.1 h;obtain ⟨_,b',c'⟩:=zap.1 H;exact ⟨c'.symm.trans c,by have:=b'.symm.trans b;omega⟩
theorem ztS {p:Pl} {i:Nat} (hi:i<p.fr.length) (A:(atF p i).idle) (x:Fr) (C : ¬ x.idle):nb (p.fr.set i x)=nb p.fr+1:=by
 have:=zk6 hi x;rw [zhK,if_pos A,if_neg C] at this;omega
theorem zvW : ¬ F1.idle:=λh=>by
 rcases h with h | h
 ·cases h
 exact h.1 rfl
theorem zk8:∀ (m:Nat) {p:Pl} {n:Nat} (l:List Int),Ps p n->n<16384->(∀ j,j<p.fr.length->(atF p j).dirty=false)->nb p.fr+m<=p.fr.length ->
  ∃ q I,leaseN m p l=(q,I,0)/\I.length=l.length+m/\Ps q n/\Stays p q/\(∀ j,j<p.fr.length->atF q j=atF p j\/atF q j=F1/\(j:Int) ∈ I)/\(∀ z ∈ l,z ∈ I)/\nb q.fr=nb p.fr+m
 | 0,p,n,l,hp,_,_,_=>⟨p,l,rfl,rfl,hp,Stays.refl p,λ_ _=>.inl rfl,λ_ h=>h,rfl⟩
 | m+1,p,n,l,hp,hn,hc,hb=>by
  obtain ⟨q,i,h1,h2,_,X,h5,h6,V⟩:=zow hp hn vd;have V:=V hc;have A:i<q.fr.length:=by rw [X.l];exact h2
  have Q:∀ j,atF q j=if i=j then F0 else atF p j:=λj=>by
   have:=zaL (p:=p) (i:=i) (j:=j) F0 h2;unfold atF setP at this;unfold atF;rw [h6];exact this
  have J:=V.set A (x:=F1) (.inr (.inl rfl)) (λj _ _ h=>n1 h.2.1);have Y:Stays q (setP q i F1):=⟨zby _,rfl,rfl,λ_=>rfl,λo j C=>zgn V J (zby _) (λa ha h=>.inl (by
   rw [zaL F1 A];by_cases e:i=a
   ·exfalso;subst e;rw [Q,if_pos rfl,zeb] at h;cases h
   ·rw [if_neg e];exact ⟨h,rfl⟩)) (λh=>.inr ⟨λa ha=>by
   rw [zaL F1 A];by_cases e:i=a
   ·rw [if_pos e];exact zvT _ _
   rw [if_neg e];exact h a ha,rfl⟩)⟩
  have W:(setP q i F1).fr=p.fr.set i F1:=by show q.fr.set i F1=_;rw [h6,List.set_set]
  have U:nb (setP q i F1).fr=nb p.fr+1:=by rw [W];exact ztS h2 h5 _ zvW
  have H:(setP q i F1).fr.length=p.fr.length:=by rw [zby,X.l]
  have e1:∀ j,j<p.fr.length->atF (setP q i F1) j=if i=j then F1 else atF p j:=λj C=>by
   rw [zaL F1 A,Q];split <;> rfl
  obtain ⟨r,I,g1,g0,g2,g3,g4,g6,g5⟩:=zk8 m (p:=setP q i F1) (l ++ [(i:Int)]) J hn (λj C=>by
   rw [H] at C;rw [e1 j C];split
   ·rfl
   exact hc j C) (by rw [U,H];omega)
  refine ⟨r,I,?_,by rw [g0,List.length_append,List.length_singleton];omega,g2,(X.trans Y).trans g3,λj C=>?_,λz hz=>g6 z (List.mem_append_left _ hz),by rw [g5,U];omega⟩
  ·unfold leaseN;rw [h1];simp only [if_pos];exact g1
  rcases g4 j (by rw [H];exact C) with e | e
  ·rw [e,e1 j C];split
   ·rename_i q;exact .inr ⟨rfl,g6 _ (List.mem_append_right _ (by rw [<- q];exact List.mem_singleton.2 rfl))⟩
   exact .inl rfl
  exact .inr e
theorem zvX {p:Pl} {n:Nat} (A:Ps p n) (i:Int):∃ q e,ret1 p i=(q,e)/\Ps q n/\Stays p q:=by
 unfold ret1;by_cases H:i<0\/(p.fr.length:Int)<=i
 ·rw [if_pos H];exact ⟨p,1,rfl,A,Stays.refl p⟩
 rw [if_neg H];obtain ⟨j,rfl⟩:=Int.eq_ofNat_of_zero_le (show 0<=i by omega);rw [Int.toNat_natCast];by_cases C:(atF p j).leased=false
 ·rw [if_pos C];exact ⟨p,11,rfl,A,Stays.refl p⟩
 rw [if_neg C];have hi:j<p.fr.length:=by omega
 obtain ⟨I,J⟩:=zf1 A hi (λQ=>absurd (zb0 (A.ok j hi) Q).l C);exact ⟨_,0,rfl,I,J⟩
end Sto
end
section
open Go.RowKit
open Mv Disk
namespace Sto
def Alike (p q:Pl):Prop:=∀ j,j<p.fr.length->(atF q j).name=(atF p j).name/\(atF q j).sector=(atF p j).sector/\(atF q j).pins=(atF p j).pins/\(atF q j).leased=(atF p j).leased/\(atF q j).data=(atF p j).data
theorem Alike.refl (p:Pl):Alike p p:=λ_ _=>⟨rfl,rfl,rfl,rfl,rfl⟩
theorem Alike.trans {p q r:Pl} (h:Alike p q) (g:Alike q r) (hl:q.fr.length=p.fr.length):Alike p r:=λj I=>by
 obtain ⟨J,Q,X,U,C⟩:=h j I;obtain ⟨W,A,V,Y,H⟩:=g j vd;exact ⟨W.trans J,A.trans Q,V.trans X,Y.trans U,H.trans C⟩
theorem zf2:∀ (m i:Nat) {p:Pl} {n:Nat},Ps p n->n+m<=16384->i+m=p.fr.length ->
  ∃ q,flushN p i m=(q,0)/\Ps q (n+m)/\Stays p q/\Alike p q/\(∀ j,i<=j->j<p.fr.length->(atF q j).dirty=false) /\ ∀ j,j<i->(atF q j).dirty=(atF p j).dirty
 | 0,i,p,n,hp,_,hi=>⟨p,rfl,hp,Stays.refl p,Alike.refl p,λj h1 h2=>by omega,λ_ _=>rfl⟩
 | m+1,i,p,n,hp,hn,hi=>by
  unfold flushN;by_cases C:(atF p i).dirty=true
  ·rw [if_pos C];have I:i<p.fr.length:=(by omega);have hh:(atF p i).holds:=by
    rcases hp.ok i I with h | h | h
    ·rw [h] at C;cases C
    ·rw [h] at C;cases C
    exact h.h
   obtain ⟨q,h1,h2,U,h4,_,_⟩:=zvU hp vd I hh;rw [h1,if_pos rfl];have J:∀ j,atF q j=if i=j then { atF p i with dirty:=false } else atF p j:=λj=>by
    have:=zaL (p:=p) (i:=i) (j:=j) { atF p i with dirty:=false } I;unfold atF setP at this;unfold atF;rw [h4];exact this
   obtain ⟨r,X,H,Y,g4,W,Q⟩:=zf2 m (i+1) h2 vd (by rw [U.l];omega);refine ⟨r,X,by rw [show n+(m+1)=n+1+m by omega];exact H,U.trans Y,Alike.trans (λj V=>?_) g4 U.l,λj V A=>?_,λj V=>?_⟩
   ·rw [J];by_cases e:i=j
    ·rw [if_pos e];subst e;exact ⟨rfl,rfl,rfl,rfl,rfl⟩
    rw [if_neg e];exact ⟨rfl,rfl,rfl,rfl,rfl⟩
   ·by_cases e:i=j
    ·rw [Q j vd,J,if_pos e]
    exact W j vd (by rw [U.l];exact A)
   rw [Q j vd,J,if_neg vd]
  rw [if_neg C];obtain ⟨r,X,H,Y,g4,W,Q⟩:=zf2 m (i+1) (p:=p) (n:=n) hp vd vd;refine ⟨r,X,⟨H.d.mono vd,H.ok,H.ap,H.l1,H.l2⟩,Y,g4,λj V A=>?_,λj V=>Q j vd⟩;by_cases e:i=j
  ·rw [Q j vd,<- e];simpa using C
  exact W j vd A
theorem zoy {p:Pl} {n:Nat} (A:Ps p n):Ps { p with d:=settleD p.d λ_=>true } 0/\Stays p { p with d:=settleD p.d λ_=>true }:=by
 obtain ⟨W,U,Q,I,J⟩:=zfX A.d;have V:∀ j,atF { p with d:=settleD p.d λ_=>true } j=atF p j:=λ_=>rfl;have C:Ps { p with d:=settleD p.d λ_=>true } 0:=⟨W,λi hi=>by
  rcases A.ok i hi with h | h | h
  ·exact .inl h
  ·exact .inr (.inl h)
  refine .inr (.inr (h.to I ?_));obtain ⟨k,H⟩:=Int.eq_ofNat_of_zero_le h.s0;have:=h.s1;rw [H] at this ⊢;exact J _ k vd,A.ap,A.l1,A.l2⟩
 exact ⟨C,⟨rfl,U,Q,I,λs k H=>zgn A C rfl (λi hi h=>.inl ⟨h,rfl⟩) (λh=>.inr ⟨h,J s k H⟩)⟩⟩
theorem zrd {p:Pl} {n:Nat} (A:Ps p n) (H:n+p.fr.length<=16384) :
  ∃ q,flushP p=(q,0)/\Ps q 0/\Stays p q/\Alike p q /\ ∀ j,j<p.fr.length->(atF q j).dirty=false:=by
 obtain ⟨q,W,I,C,V,X,_⟩:=zf2 p.fr.length 0 A H (Nat.zero_add _);obtain ⟨J,Q⟩:=zoy I;refine ⟨{ q with d:=settleD q.d λ_=>true },?_,J,C.trans Q,V,λj U=>X j (Nat.zero_le _) U⟩;unfold flushP;rw [W,if_pos rfl]
theorem zre {p q:Pl} (h:Alike p q) (U:q.fr.length=p.fr.length) {n m:Nat} (Q:Ps p n) (V:Ps q m):nb q.fr=nb p.fr:=by
 have key:∀ j,j<p.fr.length->((atF q j).idle <-> (atF p j).idle):=λj H=>by
  obtain ⟨J,X,W,I,_⟩:=h j H;have h1:=Q.ok j H;have h2:=V.ok j vd;by_cases C:(atF p j).holds
  ·have A:(atF q j).holds:=(by unfold Fr.holds at C ⊢;rw [J];exact C);rw [zdr C,zdr A,W]
  have A : ¬ (atF q j).holds:=by unfold Fr.holds at C ⊢;rw [J];exact C
  rcases h1 with h1 | h1 | h1
  ·rcases h2 with h2 | h2 | h2
   ·rw [h1,h2]
   ·rw [h1,h2] at I;cases I
   exact absurd h2.h A
  ·rcases h2 with h2 | h2 | h2
   ·rw [h1,h2] at I;cases I
   ·rw [h1,h2]
   exact absurd h2.h A
  exact absurd h1.h C
 unfold nb;have e1:q.fr.countP (λx=>!decide x.idle)=(List.range q.fr.length).countP (λj=>!decide (atF q j).idle):=by
  conv=>lhs;rw [show q.fr=(List.range q.fr.length).map (λj=>atF q j) from List.ext_getElem (by simp) λi h1 h2=>by simp [zaW h1]]
  rw [List.countP_map];rfl
 have e2:p.fr.countP (λx=>!decide x.idle)=(List.range p.fr.length).countP (λj=>!decide (atF p j).idle):=by
  conv=>lhs;rw [show p.fr=(List.range p.fr.length).map (λj=>atF p j) from List.ext_getElem (by simp) λi h1 h2=>by simp [zaW h1]]
  rw [List.countP_map];rfl
 rw [e1,e2,U];refine List.countP_congr λj H=>?_;have:=key j (List.mem_range.1 H);simp [this]
theorem zrf {p:Pl} {n:Nat} (A:Ps p n) (V:n<16384) {s u:tt} {k:Nat} (W:k<ns p.d s) (X:u.size=64) (I:∀ i,i<p.fr.length->isF s (k:Int) (atF p i)=false) :
  ∃ d',writeD p.d s (k:Int) u=(d',0)/\Ps { p with d:=d' } (n+1)/\d'.size=p.d.size/\used d'.ext=used p.d.ext/\(∀ o,ns d' o=ns p.d o) /\ ∀ o (j:Nat),j<ns p.d o->vw { p with d:=d' } o (j:Int)=if s=o/\k=j then u else vw p o (j:Int):=by
 obtain ⟨d',h1,U,Q,Y,J,H⟩:=zfW A.d V W X;have C:Ps { p with d:=d' } (n+1):=⟨U,λi hi=>by
  rcases A.ok i hi with h | h | h
  ·exact .inl h
  ·exact .inr (.inl h)
  refine .inr (.inr (h.to J ?_));rw [H,if_neg];rintro ⟨a,b⟩;have g:isF s (k:Int) (atF p i)=true:=zap.2 ⟨h.h,b.symm,a.symm⟩;have:=I i hi;rw [g] at this;exact absurd this (by simp),A.ap,A.l1,A.l2⟩
 refine ⟨d',h1,C,Q,by rw [Y],J,λo j hj=>?_⟩;by_cases e:s=o/\k=j
 ·obtain ⟨rfl,rfl⟩:=e;rw [if_pos ⟨rfl,rfl⟩,zf0 (p:={ p with d:=d' }) I];show seen d' s (k:Int)=u;rw [H,if_pos ⟨rfl,rfl⟩]
 rw [if_neg e];refine zgn A C rfl (λi hi h=>.inl ⟨h,rfl⟩) (λh=>.inr ⟨h,?_⟩);show seen d' o (j:Int)=_;rw [H,if_neg (λh=>e ⟨h.1,by omega⟩)]
theorem zoz {p:Pl} {n:Nat} (H:Ps p n) {s:tt} (h:∀ i,i<p.fr.length->ofN s (atF p i)=true->(atF p i).pins=0/\(atF p i).dirty=false) :
  ∃ q,dropP p s=(q,0)/\Ps q n/\Stays p q/\q.d=p.d/\(∀ j,j<p.fr.length->atF q j=if ofN s (atF p j)=true then F0 else atF p j):=by
 have h0 : ¬ p.fr.any (λx=>ofN s x && decide (0<x.pins))=true:=λe=>by
  obtain ⟨x,hx,e2⟩:=List.any_eq_true.1 e;obtain ⟨i,hi,rfl⟩:=List.mem_iff_getElem.1 hx;simp only [Bool.and_eq_true,decide_eq_true_eq] at e2;have:=(h i hi (by rw [zaW hi];exact e2.1)).1;rw [zaW hi] at this;omega
 obtain ⟨q,C⟩ : ∃ q:Pl,q = { p with fr:=p.fr.map λx=>if ofN s x=true then F0 else x }:=⟨_,rfl⟩;have J:q.fr.length=p.fr.length:=by rw [C];simp
 have I:∀ j,j<p.fr.length->atF q j=if ofN s (atF p j)=true then F0 else atF p j:=λj A=>by
  rw [zaW (p:=q) vd,zaW A];simp only [C,List.getElem_map]
 have Q:Ps q n:=by
  refine ⟨by rw [C];exact H.d,λi hi=>?_,λi j hi A W=>?_,by rw [J];exact H.l1,by rw [J];exact H.l2⟩
  ·rw [J] at hi;rw [I i hi];by_cases e:ofN s (atF p i)=true
   ·rw [if_pos e];exact .inl rfl
   rw [if_neg e,show q.d=p.d by rw [C]];exact H.ok i hi
  rw [J] at hi A;rw [I i hi,I j A];split
  ·exact λg=>n0 g.1
  split
  ·exact λg=>n0 g.2.1
  exact H.ap i j hi A W
 refine ⟨q,by unfold dropP;rw [if_neg h0,C],Q,⟨J,by rw [C],by rw [C],λo=>by rw [C],λo k hk=>?_⟩,by rw [C],I⟩;refine zgn H Q J (λi hi g=>?_) (λg=>.inr ⟨λj A=>?_,by rw [C]⟩)
 ·by_cases e:ofN s (atF p i)=true
  ·obtain ⟨X,b2,Y⟩:=zap.1 g;refine .inr ⟨λj A=>?_,?_⟩
   ·rw [I j A];by_cases V:ofN s (atF p j)=true
    ·rw [if_pos V];exact zeb _ _
    rw [if_neg V];refine zbT λg2=>?_;obtain ⟨c1,c2,c3⟩:=zap.1 g2;by_cases U:i=j
    ·subst U;exact V e
    exact H.ap i j hi A U ⟨X,c1,Y.trans c3.symm,b2.trans c2.symm⟩
   have:=(zb0 (H.ok i hi) X).c (h i hi e).2;rw [show q.d=p.d by rw [C],this,b2,Y]
  exact .inl (by rw [I i hi,if_neg e];exact ⟨g,rfl⟩)
 rw [I j A];split
 ·exact zeb _ _
 exact g j A
theorem zvY {p:Pl} {n:Nat} (A:Ps p n) {s:tt} {m:Nat} (hs:nm s) (Q:ns p.d s=0) (h1:1<=m) (hr:(used p.d.ext:Int)+m<=p.d.size) :
  ∃ d',newD p.d s (m:Int)=(d',0)/\Ps { p with d:=d' } n/\d'.size=p.d.size/\used d'.ext=used p.d.ext+m/\(∀ o,ns d' o=if s=o then m else ns p.d o)/\(∀ j:Nat,j<m->vw { p with d:=d' } s (j:Int)=zs) /\ ∀ o (j:Nat),j<ns p.d o->vw { p with d:=d' } o (j:Int)=vw p o (j:Int):=by
 obtain ⟨d',Y,g2,g3,g4,V,g6,X⟩:=zsM A.d hs Q h1 hr;have H:∀ i,i<p.fr.length->(atF p i).holds->s≠(atF p i).name:=λi hi C e=>by
  have W:=zb0 (A.ok i hi) C;have a:=W.s0;have b:=W.s1;rw [<- e,Q] at b;omega
 have I:Ps { p with d:=d' } n:=⟨g2,λi hi=>by
  rcases A.ok i hi with h | h | h
  ·exact .inl h
  ·exact .inr (.inl h)
  have U:=H i hi h.h;have C:has p.d.ext (atF p i).name=true:=(zc5 A.d _).2 (by have a:=h.s0;have b:=h.s1;omega);exact .inr (.inr ⟨h.h,h.l,h.p0,h.p1,h.z,h.s0,by show (atF p i).sector<((ns d' (atF p i).name:Nat):Int);rw [V,if_neg U];exact h.s1,λe=>by show (atF p i).data=seen d' (atF p i).name (atF p i).sector;rw [X _ _ U C];exact h.c e⟩),A.ap,A.l1,A.l2⟩
 refine ⟨d',Y,I,g3,g4,V,λj J=>?_,λo j J=>?_⟩
 ·rw [zf0 (p:={ p with d:=d' }) (λi hi=>zbT λh=>by
   obtain ⟨a,_,b⟩:=zap.1 h;exact H i hi a b.symm)]
  exact g6 j J
 refine zgn A I rfl (λi hi h=>.inl ⟨h,rfl⟩) (λh=>.inr ⟨h,?_⟩);have C:has p.d.ext o=true:=(zc5 A.d _).2 vd;exact X o _ (λe=>by rw [<- e,Q] at J;omega) C
end Sto
end
section
open Go.RowKit
open Mv Disk
theorem Mv.Calm.maxE {P:tz} {N:Nat} {E:Env} {S:Mem} {dst:Option Nat} {ty:tx} {pos:String} {aft:Array Edge} {gd:Option (Nat × Bool)} {x y:tw} {k k':IntKind} {a b c:Int} {A:Array tx} (h:c=max a b) (I:ev E x=some (.int k a)) (H:ev E y=some (.int k' b)):ACalm P N ⟨dst,.call ⟨.builtin .max,#[x,y],A⟩,ty,pos,aft,gd⟩ E S (.int k c):=by
 by_cases C:a<=b
 ·rw [show c=b from by omega];exact uO I H C
 rw [show c=a from by omega];exact uR I H vd
theorem zhL {α : Type} {n:Nat} {f : α->List tu} {S:Mem} {b:Nat} {len cap:Nat} {l:List α} (h:Sl n f S (.slice (some ⟨b,0,none⟩) len cap) l) (i:Nat) (hi:i<l.length):S.Knows ⟨b,0+i*n,none⟩ (f l[i]):=h.at1 i hi
theorem zhM {M:Mem} {a p b c:Nat} {x:Pl} {k:Int} (h:a≠b) (A:x.fr.length<=c) (C:x.fr.length<=256) {i:Nat} (hi:i<x.fr.length):(arM M a p b c x k).Knows ⟨b,0+i*7,none⟩ (frF (atF x i)):=by
 rw [zaW hi];exact zhL (zj5 h A C) i hi
theorem ztT (a p b c:Nat) (x:Pl) (k:Int) (S:Mem) (C:S.own a=some (arB p b c x k)) (U:Sl 7 frF S (.slice (some ⟨b,0,none⟩) x.fr.length c) x.fr) (J:x.fr.length<=256) :
  ACall prog 276 #[.pointer (some ⟨a,0,none⟩)] S λr S'=>(∃ n:Nat,n<=256/\r = .int .i64 n)/\S'=S:=by
 unfold arB at C;refine k_E1 22 func276 ?_;refine r22_ ?_;refine AWP.loop (X:=Nat) (λy=>[(0,.pointer (some ⟨a,0,none⟩)),(3,.int .i64 ((x.fr.take y).countP (λz=>!decide (z=F0)):Nat)),(9,.slice (some ⟨b,0,none⟩) x.fr.length c),(10,.int .i64 x.fr.length),(11,.int .i64 y)]) (λ_=>S) (λy=>y<=x.fr.length) (λy=>x.fr.length-y) (0) ⟨rfl,zan (by simp),rfl,rfl,rfl,trivial⟩ zae (Nat.zero_le _) ?_;rintro i hi;(try dsimp only at *);refine r6_ ?_;refine vp rfl (λhc=>?_) (λhc=>?_)
 ·have hc:i<x.fr.length:=by have:=of_decide_eq_true hc;omega
  have I:=zhL U i hc;have Q:=zgY (q:=λz=>!decide (z=F0)) hc;have Y:=zk5 (q:=λz=>!decide (z=F0)) x.fr (i+1);generalize x.fr[i]=y at *;have cf:=λS=>zeM y S;unfold frV at cf;unfold frF at I;by_cases q:y=F0
  ·simp only [q,decide_true,Bool.not_true,Bool.false_eq_true,if_false,Nat.add_zero] at Q;rw [decide_eq_true q] at cf;refine r8_ ?_;refine ARun.alloc (zab rfl) zaH ?_;intro W H;have A:=H
   repeat ((with_reducible replace A:=zaa A);obtain ⟨A,_⟩:=A)
   have:=A.ne C;have:=A.ne' C
   refine nl_ ?_;refine r6_ ?_;refine cp_ rfl (cf _) ?_;refine r3_ ?_;refine cF_ ?_;refine r8_ ?_;refine ⟨i+1,?_,?_,?_,?_⟩<;>try dsimp only
   ·exact ⟨rfl,zan vd,rfl,rfl,rfl,trivial⟩
   ·exact zae
   ·exact hc
   omega
  simp only [q,decide_false,Bool.not_false,if_true] at Q;rw [decide_eq_false q] at cf;refine r8_ ?_;refine ARun.alloc (zab rfl) zaH ?_;intro W H;have A:=H
  repeat ((with_reducible replace A:=zaa A);obtain ⟨A,_⟩:=A)
  have:=A.ne C;have:=A.ne' C
  refine nl_ ?_;refine r6_ ?_;refine cp_ rfl (cf _) ?_;refine r3_ ?_;refine kw_ [0,3,9,10,11,12,5,17] ?_;refine cT_ ?_;refine r12_ ?_;refine ⟨i+1,?_,?_,?_,?_⟩<;>try dsimp only
  ·exact ⟨rfl,zan vd,rfl,rfl,rfl,trivial⟩
  ·exact zae
  ·exact hc
  omega
 have V:x.fr.countP (λz=>!decide (z=F0))<=x.fr.length:=List.countP_le_length;have hc:i=x.fr.length:=by have:=of_decide_eq_false hc;omega
 subst hc;rw [List.take_length];refine r12_ ?_;refine ⟨_,S,⟨_,_,rfl,rfl,rfl⟩,zae,?_⟩;exact ⟨⟨_,by omega,rfl⟩,rfl⟩
theorem zrg (a p b c:Nat) (x:Pl) (k:Int) (S:Mem) (C:S.own a=some (arB p b c x k)) (U:Sl 7 frF S (.slice (some ⟨b,0,none⟩) x.fr.length c) x.fr) (J:x.fr.length<=256) :
  ACall prog 261 #[.pointer (some ⟨a,0,none⟩)] S λr S'=>r = .int .i64 (idlesP x:Nat)/\S'=S:=by
 unfold arB at C;unfold idlesP;refine k_E1 21 func261 ?_;refine r22_ ?_;refine AWP.loop (X:=Nat) (λy=>[(0,.pointer (some ⟨a,0,none⟩)),(3,.int .i64 ((x.fr.take y).countP (λz=>decide z.idle):Nat)),(9,.slice (some ⟨b,0,none⟩) x.fr.length c),(10,.int .i64 x.fr.length),(11,.int .i64 y)]) (λ_=>S) (λy=>y<=x.fr.length) (λy=>x.fr.length-y) (0) ⟨rfl,zan (by simp),rfl,rfl,rfl,trivial⟩ zae (Nat.zero_le _) ?_;rintro i hi;(try dsimp only at *);refine r6_ ?_;refine vp rfl (λhc=>?_) (λhc=>?_)
 ·have hc:i<x.fr.length:=by have:=of_decide_eq_true hc;omega
  have I:=zhL U i hc;have Q:=zgY (q:=λz=>decide z.idle) hc;have W:=zk5 (q:=λz=>decide z.idle) x.fr (i+1);generalize x.fr[i]=y at *;have cf:=λS=>zhH y S;unfold frV at cf;unfold frF at I;by_cases q:y.idle
  ·simp only [q,decide_true,if_true] at Q;rw [decide_eq_true q] at cf;refine r8_ ?_;refine ARun.alloc (zab rfl) zaH ?_;intro V H;have A:=H
   repeat ((with_reducible replace A:=zaa A);obtain ⟨A,_⟩:=A)
   have:=A.ne C;have:=A.ne' C
   refine nl_ ?_;refine r6_ ?_;refine cp_ rfl (cf _) ?_;refine r2_ ?_;refine cT_ ?_;refine r12_ ?_;refine ⟨i+1,?_,?_,?_,?_⟩<;>try dsimp only
   ·exact ⟨rfl,zan vd,rfl,rfl,rfl,trivial⟩
   ·exact zae
   ·exact hc
   omega
  simp only [q,decide_false,Bool.false_eq_true,if_false,Nat.add_zero] at Q;rw [decide_eq_false q] at cf;refine r8_ ?_;refine ARun.alloc (zab rfl) zaH ?_;intro V H;have A:=H
  repeat ((with_reducible replace A:=zaa A);obtain ⟨A,_⟩:=A)
  have:=A.ne C;have:=A.ne' C
  refine nl_ ?_;refine r3_ ?_;refine kw_ [0,3,9,10,11,12,5] ?_;refine r3_ ?_;refine cp_ rfl (cf _) ?_;refine r2_ ?_;refine cF_ ?_;refine r8_ ?_;refine ⟨i+1,?_,?_,?_,?_⟩<;>try dsimp only
  ·exact ⟨rfl,zan vd,rfl,rfl,rfl,trivial⟩
  ·exact zae
  ·exact hc
  omega
 have hc:i=x.fr.length:=by have:=of_decide_eq_false hc;omega
 subst hc;rw [List.take_length];refine r12_ ?_;refine ⟨_,S,⟨_,_,rfl,rfl,rfl⟩,zae,?_⟩;exact ⟨rfl,rfl⟩
theorem zvZ {M:Mem} {a p b c:Nat} {x x':Pl} {k:Int} (C:x.fr=x'.fr) (H:x.tick=x'.tick) (A:x.reads=x'.reads) (I:x.writes=x'.writes):arM M a p b c x k=arM M a p b c x' k:=by
 unfold arM arB;rw [C,H,A,I]
theorem ze9 {S:Mem} {b o:Nat} {y:Fr} (h:S.Knows ⟨b,o,none⟩ (frF y)):S.Knows ⟨b,o+0,none⟩ [.string y.name]/\S.Knows ⟨b,o+1,none⟩ [.int .i64 y.sector]/\S.Knows ⟨b,o+2,none⟩ [.string y.data]/\S.Knows ⟨b,o+3,none⟩ [.int .i64 y.pins]/\S.Knows ⟨b,o+4,none⟩ [.bool y.dirty]/\S.Knows ⟨b,o+5,none⟩ [.int .u64 y.tick]/\S.Knows ⟨b,o+6,none⟩ [.bool y.leased] :=
 ⟨ziw h 0 rfl,ziw h 1 rfl,ziw h 2 rfl,ziw h 3 rfl,ziw h 4 rfl,ziw h 5 rfl,ziw h 6 rfl⟩
theorem zj7 {S:Mem} {b o:Nat} {cs:List tu} (h:S.Knows ⟨b,0+o,none⟩ cs):S.Knows ⟨b,o,none⟩ cs:=by rw [Nat.zero_add] at h;exact h
def ArR (S:Mem) (a p b c:Nat) (q:Pl × Int) (r:tu) (S':Mem):Prop:=r = .int .i64 q.2/\ArS S a p b c q.1 S'
theorem zk9 (a p b c:Nat) (x:Pl) (i:Nat) (k:Int) (S:Mem) (oE oW:Option (Nat × Nat)) (A:OkA S a p b c x oE oW) (U:PW x) (hi:i<x.fr.length) :
  ACall prog 226 #[.pointer (some ⟨a,0,none⟩),.int .i64 (i:Nat)] (arM (devM S p x.d oE oW) a p b c x k) (ArR S a p b c (wrP x i)):=by
 have ac:=Nat.le_trans (Nat.le_of_lt hi) U.l2;have hA:=zbf (M:=devM S p x.d oE oW) (a:=a) (p:=p) (b:=b) (c:=c) (x:=x) (k:=k);have C:OkA S a p b c { x with writes:=up1 x.writes } oE oW:=A.like rfl rfl;have Q:=zhI C k (zd2 p x.d (atF x i).name (atF x i).sector (atF x i).data S oE oW C.v U.dr U.fu);have X:=zeN (M:=devM S p x.d oE oW) (a:=a) (p:=p) (b:=b) (c:=c) (x:=x) (x':={ x with writes:=up1 x.writes }) (k:=k) (k':=k) rfl;have V:=zbf (M:=devM S p x.d oE oW) (a:=a) (p:=p) (b:=b) (c:=c) (x:={ x with writes:=up1 x.writes }) (k:=k);have hK:=zhM (M:=devM S p x.d oE oW) (p:=p) (x:={ x with writes:=up1 x.writes }) (k:=k) C.ab C.l U.l2 hi;obtain ⟨k0,k1,k2,k3,k4,k5,k6⟩:=ze9 (zj7 hK);have W:atF { x with writes:=up1 x.writes } i=atF x i:=rfl;rw [W] at k0 k1 k2 k3 k4 k5 k6;unfold wrP;generalize hy:atF x i=y at *;generalize hq:writeD x.d y.name y.sector y.data=q at *;generalize hT:arM (devM S p x.d oE oW) a p b c x k=T at *;generalize am:arM (devM S p x.d oE oW) a p b c { x with writes:=up1 x.writes } k=T1 at *;unfold arB at hA V;refine k_E2 43 func226 ?_;refine r25_ ?_;refine vk rfl rfl zai rfl hA (show 4<6 from by decide) rfl ?_
 try simp only [k_ms,k_sz,k_ss,k_za,Nat.reduceAdd]
 refine r2_ ?_;refine AWP.less T1 (by rw [<- X];exact Mem.Less.refl _) ?_;refine s1_ ?_;refine dr_ [i0_,i1_,i2_,i3_,i4_,i5_,i6_,i7_,i8_,i9_,i10_,i11_,i12_,i13_,i14_,i15_,o16_,i17_] [16] ?_;refine r16_ ?_;refine zac rfl ?_;refine ca_ rfl (Q) ?_;rintro _ S1 ⟨M,⟨H,I,J,rfl,hM⟩,fb,fa,Y⟩;rw [Y];clear Y S1;rw [hM] at fb fa ⊢;refine zad ⟨nz_,?_⟩;refine r3_ ?_;by_cases e0:q.2=0
 ·refine r7_ ?_;refine cT_ ?_;refine r4_ ?_;refine ARun.storeFr1 (c:=c) (i:=i) (l:=x.fr) (q:=4) (u:={ y with dirty:=false }) rfl rfl rfl rfl vd (by decide) hi (by rw [<- hy,zaW hi];rfl) zfz (zdu A.ab) ?_
  try simp only [k_ms,k_sz,k_ss,k_za,Nat.reduceAdd]
  refine r2_ ?_;refine kw_ [0,1,4,5,6,38] ?_;rw [show ∀ u,(arM (devM S p q.1 H I) a p b c { x with writes:=up1 x.writes } k).set b (frB (x.fr.set i u) c)=arM (devM S p q.1 H I) a p b c { x with writes:=up1 x.writes,fr:=x.fr.set i u } k from λu=>zbS A.ab _ (by simp)];refine r7_ ?_;refine ⟨_,arM (devM S p q.1 H I) a p b c { x with writes:=up1 x.writes,fr:=x.fr.set i { y with dirty:=false } } k,⟨_,_,rfl,rfl,rfl⟩,Mem.Less.refl _,?_⟩;exact ⟨rfl,k,H,I,⟨J,fb,fa,A.ab,by simp only [if_pos e0,List.length_set];exact A.l⟩,by simp only [if_pos e0];exact zvZ rfl rfl rfl rfl⟩
 refine r7_ ?_;refine cF_ ?_;refine r9_ ?_;refine ⟨_,arM (devM S p q.1 H I) a p b c { x with writes:=up1 x.writes } k,⟨_,_,rfl,rfl,rfl⟩,Mem.Less.refl _,?_⟩;exact ⟨rfl,k,H,I,⟨J,fb,fa,A.ab,by simp only [if_neg e0];exact A.l⟩,by simp only [if_neg e0];exact zvZ rfl rfl rfl rfl⟩
theorem zf3 (x:Pl) (i:Nat):(wrP x i).1.fr.length=x.fr.length:=by
 unfold wrP;simp only;split <;> simp
theorem zoA {l:List Fr} {i:Nat} (h:i<l.length):l.getD i F0=l[i]:=by simp [List.getD,List.getElem?_eq_getElem h]
theorem zoB {l:List Fr} {i:Nat} (h:i<l.length) (C:l[i]=F0) (H:∀ j (A:j<l.length),j<i->l[j]≠F0):l.findIdx (λx=>decide (x=F0))=i :=
 (List.findIdx_eq h).2 ⟨by simp [C],λj A=>by simp [H j vd A]⟩
theorem zoC {l:List Fr} (A:∀ j (C:j<l.length),l[j]≠F0) : ¬ l.findIdx (λx=>decide (x=F0))<l.length:=λh=>by
 have:=List.findIdx_getElem (w:=h);simp only [decide_eq_true_eq] at this;exact A _ h this
theorem zoD (a p b c:Nat) (x:Pl) (k:Int) (S:Mem) (oE oW:Option (Nat × Nat)) (C:OkA S a p b c x oE oW) (hw:PW x) :
  ACall prog 260 #[.pointer (some ⟨a,0,none⟩)] (arM (devM S p x.d oE oW) a p b c x k) λr S'=>r = .tuple #[.int .i64 ((takeP x).2.1:Nat),.int .i64 (takeP x).2.2]/\ArS S a p b c (takeP x).1 S':=by
 have an:=hw.l2;have hA:=zbf (M:=devM S p x.d oE oW) (a:=a) (p:=p) (b:=b) (c:=c) (x:=x) (k:=k);have hB:=zdu (M:=devM S p x.d oE oW) (p:=p) (c:=c) (x:=x) (k:=k) C.ab;have hF:=zj5 (M:=devM S p x.d oE oW) (p:=p) (x:=x) (k:=k) C.ab C.l hw.l2;have aD:=λk'=>zeN (M:=devM S p x.d oE oW) (a:=a) (p:=p) (b:=b) (c:=c) (x:=x) (x':=x) (k:=k) (k':=k') rfl;have ay:=λah h=>zbS (M:=devM S p x.d oE oW) (p:=p) (c:=c) (x:=x) (k:=k) C.ab ah h;have aE:=λm hm=>zk9 a p b c x m k S oE oW C hw hm;generalize hT:arM (devM S p x.d oE oW) a p b c x k=T at *;have W:=λS=>ztT a p b c x k S;unfold arB at hA W;refine k_E1 79 func260 ?_;refine r23_ ?_;refine AWP.loop (X:=Nat) (λy=>[(0,.pointer (some ⟨a,0,none⟩)),(4,.int .i64 (bestF x.fr y)),(11,.slice (some ⟨b,0,none⟩) x.fr.length c),(12,.int .i64 x.fr.length),(13,.int .i64 y)]) (λ_=>T) (λy=>y<=x.fr.length /\ ∀ j (hj:j<x.fr.length),j<y->x.fr[j]≠F0) (λy=>x.fr.length-y) (0) ⟨rfl,rfl,rfl,rfl,rfl,trivial⟩ zae (⟨Nat.zero_le _,λj _ h=>absurd h (Nat.not_lt_zero _)⟩) ?_;rintro i ⟨hi,aj⟩;(try dsimp only at *);obtain ⟨aK,aM⟩:=zea x.fr i;refine r6_ ?_;refine vp rfl (λhc=>?_) (λhc=>?_)
 ·have hc:i<x.fr.length:=by have:=of_decide_eq_true hc;omega
  have aa:=zhL hF i hc;have ae:=zoA hc;by_cases q:x.fr[i]=F0
  ·have Q:takeP x=(x,i,0):=(by unfold takeP;rw [zoB hc q aj,if_pos hc]);rw [Q];have cf:=λS=>zeM x.fr[i] S;rw [decide_eq_true q] at cf;generalize x.fr[i]=y at *;unfold frV at cf;unfold frF at aa;refine r9_ ?_;refine ARun.alloc (zab rfl) zaH ?_;intro b6 f6;have A:=f6
   repeat ((with_reducible replace A:=zaa A);obtain ⟨A,_⟩:=A)
   have:=A.ne hA;have:=A.ne' hA
   refine nl_ ?_;refine r8_ ?_;refine cp_ rfl (cf _) ?_;refine r3_ ?_;refine cT_ ?_;refine s1_ ?_;refine dr_ [i0_,i1_,i2_,i3_,i4_,i5_,o6_,i7_,i8_,i9_,i10_,o11_] [11] ?_;refine r6_ ?_;refine zac rfl ?_;refine ca_ rfl (W _ own_ (hF.less zae) an) ?_;rintro _ S1 ⟨⟨n,hn,rfl⟩,h1⟩;rw [h1];clear h1 S1;refine zad ⟨ny_,?_⟩;refine s1_ ?_;refine dC (hc:=Calm.maxE rfl rfl rfl) (h:=?_);refine r2_ ?_;refine zac rfl ?_;refine vk (r:=⟨_,[_,_,_,_,_,_],6⟩) rfl rfl zbk rfl own_ (show 0+5<6 from by decide) rfl ?_
   try simp only [k_ms,k_sz,k_ss,k_za,Nat.reduceAdd]
   refine zad ⟨nz_,?_⟩;refine r9_ ?_;refine kw_ [0,4,11,12,13,14,6,5,18,2,3] ?_;refine r7_ ?_;refine ⟨_,arM (devM S p x.d oE oW) a p b c x (max k ((n:Int)+1)),⟨_,_,rfl,⟨_,_,rfl,rfl,rfl⟩,rfl⟩,(by rw [<- aD];exact Less.set (vh _ _ _ A.1) _ _),?_⟩;exact ⟨rfl,max k ((n:Int)+1),oE,oW,C,rfl⟩
  have U:∀ j (hj:j<x.fr.length),j<i+1->x.fr[j]≠F0:=λj hj h=>by rcases Nat.lt_or_ge j i with h' | h';exact aj j hj h';obtain rfl:j=i:=vd;exact q
  by_cases q2:x.fr[i].idle
  ·by_cases q3:bestF x.fr i<0
   ·have V:bestF x.fr (i+1)=(i:Nat):=(by rw [bestF,if_pos ⟨by rw [ae];exact q2,.inl q3⟩]);have cf:=λS=>zeM x.fr[i] S;rw [decide_eq_false q] at cf;have Y:=λS=>zhH x.fr[i] S;rw [decide_eq_true q2] at Y;generalize x.fr[i]=y at *;unfold frV at cf Y;unfold frF at aa;refine r9_ ?_;refine ARun.alloc (zab rfl) zaH ?_;intro b6 f6;have A:=f6
    repeat ((with_reducible replace A:=zaa A);obtain ⟨A,_⟩:=A)
    have:=A.ne hA;have:=A.ne' hA
    refine nl_ ?_;refine r8_ ?_;refine cp_ rfl (cf _) ?_;refine r3_ ?_;refine cF_ ?_;refine r3_ ?_;refine cp_ rfl (Y _) ?_;refine r4_ ?_;refine cF_ ?_;refine s1_ ?_;refine dr_ [i0_,i1_,i2_,i3_,i4_,i5_,i6_,i7_,i8_,i9_,i10_,i11_,i12_,i13_,i14_,i15_] [] ?_;refine s1_ ?_;refine dP (hc:=λ_=>vi rfl rfl (zag (za9 _ _) (decide_eq_true q3))) (h:=?_);refine r16_ ?_;refine cT_ ?_;refine r7_ ?_;refine kw_ [0,4,11,12,13,14,6,5,18,33,37] ?_;refine r5_ ?_;refine ⟨i+1,?_,?_,?_,?_⟩<;>try dsimp only
    ·exact ⟨rfl,zan V.symm,rfl,rfl,rfl,trivial⟩
    ·exact zae
    ·exact ⟨hc,U⟩
    omega
   obtain ⟨m,hm⟩ : ∃ m:Nat,bestF x.fr i=(m:Int):=⟨_,(Int.toNat_of_nonneg vd).symm⟩;have H:m<x.fr.length:=(by omega);obtain ⟨_,_,_,_,_,kb,_⟩:=ze9 (zhL hF m H);have V:bestF x.fr (i+1)=if x.fr[i].tick<x.fr[m].tick then (i:Int) else (m:Int):=by rw [bestF,hm,ae,Int.toNat_natCast,zoA H];by_cases z:x.fr[i].tick<x.fr[m].tick;rw [if_pos z,if_pos ⟨q2,.inr z⟩];rw [if_neg z,if_neg (λh=>h.2.elim vd z)]
   rw [hm];have cf:=λS=>zeM x.fr[i] S;rw [decide_eq_false q] at cf;have Y:=λS=>zhH x.fr[i] S;rw [decide_eq_true q2] at Y;generalize x.fr[m]=z at *;generalize x.fr[i]=y at *;unfold frV at cf Y;unfold frF at aa;refine r9_ ?_;refine ARun.alloc (zab rfl) zaH ?_;intro b6 f6;have A:=f6
   repeat ((with_reducible replace A:=zaa A);obtain ⟨A,_⟩:=A)
   have:=A.ne hA;have:=A.ne' hA
   refine nl_ ?_;refine r8_ ?_;refine cp_ rfl (cf _) ?_;refine r3_ ?_;refine cF_ ?_;refine r3_ ?_;refine cp_ rfl (Y _) ?_;refine r4_ ?_;refine cF_ ?_;refine s1_ ?_;refine dr_ [i0_,i1_,i2_,i3_,i4_,i5_,i6_,i7_,i8_,i9_,i10_,i11_,i12_,i13_,i14_,i15_] [] ?_;refine s1_ ?_;refine dP (hc:=λ_=>vi rfl rfl (zag (za9 _ _) (decide_eq_false vd))) (h:=?_);refine r16_ ?_;refine vp rfl (λhx=>?_) (λhx=>?_)
   ·refine r7_ ?_;refine kw_ [0,4,11,12,13,14,6,5,18,33,37] ?_;refine r5_ ?_;refine ⟨i+1,?_,?_,?_,?_⟩<;>try dsimp only
    ·exact ⟨rfl,zan (by rw [V,if_pos (of_decide_eq_true hx)]),rfl,rfl,rfl,trivial⟩
    ·exact zae
    ·exact ⟨hc,U⟩
    omega
   refine r9_ ?_;refine ⟨i+1,?_,?_,?_,?_⟩<;>try dsimp only
   ·exact ⟨rfl,zan (by rw [V,if_neg (of_decide_eq_false hx)]),rfl,rfl,rfl,trivial⟩
   ·exact zae
   ·exact ⟨hc,U⟩
   omega
  have V:bestF x.fr (i+1)=bestF x.fr i:=by rw [bestF,if_neg (λh=>q2 (by rw [<- ae];exact h.1))]
  have cf:=λS=>zeM x.fr[i] S;rw [decide_eq_false q] at cf;have Y:=λS=>zhH x.fr[i] S;rw [decide_eq_false q2] at Y;generalize x.fr[i]=y at *;unfold frV at cf Y;unfold frF at aa;refine r9_ ?_;refine ARun.alloc (zab rfl) zaH ?_;intro b6 f6;have A:=f6
  repeat ((with_reducible replace A:=zaa A);obtain ⟨A,_⟩:=A)
  have:=A.ne hA;have:=A.ne' hA
  refine nl_ ?_;refine r8_ ?_;refine cp_ rfl (cf _) ?_;refine r3_ ?_;refine cF_ ?_;refine r3_ ?_;refine cp_ rfl (Y _) ?_;refine r4_ ?_;refine cT_ ?_;refine r9_ ?_;refine ⟨i+1,?_,?_,?_,?_⟩<;>try dsimp only
  ·exact ⟨rfl,zan V.symm,rfl,rfl,rfl,trivial⟩
  ·exact zae
  ·exact ⟨hc,U⟩
  omega
 have hc:i=x.fr.length:=by have:=of_decide_eq_false hc;omega
 subst hc;have af:=zoC (λj hj=>aj j hj hj);by_cases q3:bestF x.fr x.fr.length<0
 ·have Q:takeP x=(x,0,9):=by unfold takeP;rw [if_neg af,if_pos q3]
  rw [Q];refine r12_ ?_;refine cT_ ?_;refine r8_ ?_;refine ⟨_,T,⟨_,_,rfl,⟨_,_,rfl,rfl,rfl⟩,rfl⟩,zae,?_⟩;exact ⟨rfl,k,oE,oW,C,hT.symm⟩
 obtain ⟨m,hm⟩ : ∃ m:Nat,bestF x.fr x.fr.length=(m:Int):=⟨_,(Int.toNat_of_nonneg vd).symm⟩;have H:m<x.fr.length:=by omega
 have au:(bestF x.fr x.fr.length).toNat=m:=by rw [hm];rfl
 obtain ⟨_,_,_,_,kb,_,_⟩:=ze9 (zhL hF m H);rw [hm];by_cases q4:x.fr[m].dirty=true
 ·have aC:=aE m H;refine r12_ ?_;refine kw_ [0,4,11,12,13,14,56] ?_;refine cF_ ?_;refine r12_ ?_;refine rC (Calm.as (congrArg Value.bool q4) (ld_ zbV rfl)) ?_;refine r2_ ?_;refine cT_ ?_;refine r4_ ?_;refine ca_ rfl (aC) ?_;rintro _ S1 ⟨rfl,k',I,J,ad,h1⟩;rw [h1];clear h1 S1;have ao:=zbf (M:=devM S p (wrP x m).1.d I J) (a:=a) (p:=p) (b:=b) (c:=c) (x:=(wrP x m).1) (k:=k');have aI:=zdu (M:=devM S p (wrP x m).1.d I J) (p:=p) (c:=c) (x:=(wrP x m).1) (k:=k') C.ab;have av:=λah h=>zbS (M:=devM S p (wrP x m).1.d I J) (p:=p) (c:=c) (x:=(wrP x m).1) (k:=k') C.ab ah h;have aF:=zf3 x m;have Q:takeP x=if (wrP x m).2=0 then (setP (wrP x m).1 m F0,m,0) else ((wrP x m).1,0,(wrP x m).2):=by unfold takeP;rw [if_neg af,if_neg q3,au,if_pos (by rw [zaW H];exact q4)]
  rw [Q];generalize wrP x m=u at *;unfold arB at ao;rw [aF] at ao;refine r3_ ?_;by_cases e0:u.2=0
  ·rw [if_pos e0];refine r6_ ?_;refine cF_ ?_;refine r11_ ?_;refine ARun.storeFr (c:=c) (i:=m) (l:=u.1.fr) (u:=F0) rfl rfl rfl vd vd zbJ aI ?_
   try simp only [k_ms,k_sz,k_ss,k_za,Nat.reduceAdd]
   refine r9_ ?_;refine kw_ [0,4,11,12,13,14,56,64,7,69,2,3] ?_;refine s1_ ?_;refine ⟨_,arM (devM S p u.1.d I J) a p b c (setP u.1 m F0) k',⟨_,_,rfl,⟨_,_,rfl,rfl,rfl⟩,rfl⟩,(by rw [av _ (by simp)];exact Mem.Less.refl _),?_⟩;exact ⟨rfl,k',I,J,ad.like rfl (by unfold setP;simp),rfl⟩
  rw [if_neg e0];refine r6_ ?_;refine cT_ ?_;refine r9_ ?_;refine ⟨_,arM (devM S p u.1.d I J) a p b c u.1 k',⟨_,_,rfl,⟨_,_,rfl,rfl,rfl⟩,rfl⟩,Mem.Less.refl _,?_⟩;exact ⟨rfl,k',I,J,ad,rfl⟩
 have aB:x.fr[m].dirty=false:=by simpa using q4
 have Q:takeP x=(setP x m F0,m,0):=by unfold takeP;rw [if_neg af,if_neg q3,au,if_neg (by rw [zaW H];exact q4)]
 rw [Q];refine r12_ ?_;refine cF_ ?_;refine r12_ ?_;refine rC (Calm.as (congrArg Value.bool aB) (ld_ zbV rfl)) ?_;refine r2_ ?_;refine cF_ ?_;refine r11_ ?_;refine ARun.storeFr (c:=c) (i:=m) (l:=x.fr) (u:=F0) rfl rfl rfl vd H zbJ hB ?_
 try simp only [k_ms,k_sz,k_ss,k_za,Nat.reduceAdd]
 refine r2_ ?_;refine kw_ [0,4,11,12,13,14,56,64] ?_;refine r8_ ?_;refine ⟨_,arM (devM S p x.d oE oW) a p b c (setP x m F0) k,⟨_,_,rfl,⟨_,_,rfl,rfl,rfl⟩,rfl⟩,(by rw [ay _ (by simp)];exact Mem.Less.refl _),?_⟩;exact ⟨rfl,k,oE,oW,C.like rfl (by unfold setP;simp),rfl⟩
theorem ztU (x:Fr) (s:tt) (k:Int) (kb Q:Nat) (S:Mem) (V:S.Knows ⟨kb,0,none⟩ [.int .i64 k]) (hs:S.Knows ⟨Q,0,none⟩ [.string s]) :
  ACall prog 259 #[frV x,.pointer (some ⟨kb,0,none⟩),.pointer (some ⟨Q,0,none⟩)] S λr S'=>r = .bool (isF s k x)/\S'=S:=by
 have H:=λS=>zfj x S;unfold frV isF at *;by_cases I:x.holds
 ·rw [decide_eq_true I] at H;by_cases J:x.sector=k
  ·have e:decide (x.holds/\x.sector=k/\x.name=s)=decide (x.name=s):=(by simp [I,J]);rw [e];refine k_E3 19 func259 ?_;refine r2_ ?_;refine k_b7 rfl ?_;intro U C;have A:=C
   repeat ((with_reducible replace A:=zaa A);obtain ⟨A,_⟩:=A)
   refine nl_ ?_;refine r6_ ?_;refine cp_ rfl (H _) ?_;refine r4_ ?_
   first|refine k_q 7 ?_|refine rG 7 (vi rfl rfl (zag (zaV _ _) (decide_eq_true J))) ?_
   refine r5_ ?_
   first|refine k_q 13 ?_|refine rG 13 (vi rfl rfl (zag (zaw _ _) rfl)) ?_
   refine r5_ ?_;refine ⟨_,S,⟨_,_,rfl,rfl,rfl⟩,zae,?_⟩;exact ⟨rfl,rfl⟩
  rw [decide_eq_false (λh=>J h.2.1)];refine k_E3 19 func259 ?_;refine r2_ ?_;refine k_b7 rfl ?_;intro U C;have A:=C
  repeat ((with_reducible replace A:=zaa A);obtain ⟨A,_⟩:=A)
  refine nl_ ?_;refine r6_ ?_;refine cp_ rfl (H _) ?_;refine r4_ ?_
  first|refine k_q 7 ?_|refine rG 7 (vi rfl rfl (zag (zaV _ _) (decide_eq_false J))) ?_
  refine r11_ ?_;refine ⟨_,S,⟨_,_,rfl,rfl,rfl⟩,zae,?_⟩;exact ⟨rfl,rfl⟩
 rw [decide_eq_false I] at H;rw [decide_eq_false (λh=>I h.1)];refine k_E3 19 func259 ?_;refine r2_ ?_;refine k_b7 rfl ?_;intro U C;have A:=C
 repeat ((with_reducible replace A:=zaa A);obtain ⟨A,_⟩:=A)
 refine nl_ ?_;refine r6_ ?_;refine cp_ rfl (H _) ?_;refine r16_ ?_;refine ⟨_,S,⟨_,_,rfl,rfl,rfl⟩,zae,?_⟩;exact ⟨rfl,rfl⟩
theorem zoE (v:tu) (l:List Fr) (s:tt) (k:Int) (kb H:Nat) (S:Mem) (hl:Sl 7 frF S v l) (hk:S.Knows ⟨kb,0,none⟩ [.int .i64 k]) (hs:S.Knows ⟨H,0,none⟩ [.string s]) :
  ACall prog 258 #[v,.func (.func 259) #[] #[.pointer (some ⟨kb,0,none⟩),.pointer (some ⟨H,0,none⟩)]] S λr S'=>r = .int .i64 (if l.findIdx (isF s k)<l.length then (l.findIdx (isF s k):Int) else -1)/\S'=S:=by
 obtain ⟨a,cap,rfl,U,Q,h3⟩:=id hl;refine k_E2 19 func258 ?_;refine r14_ ?_;refine AWP.loop (X:=Nat) (λx=>[(0,.slice a l.length cap),(1,.func (.func 259) #[] #[.pointer (some ⟨kb,0,none⟩),.pointer (some ⟨H,0,none⟩)]),(7,.int .i64 l.length),(8,.int .i64 x)]) (λx=>S) (λi=>i<=l.length /\ ∀ j (h:j<l.length),j<i->isF s k l[j]=false) (λx=>l.length-x) (0) ⟨rfl,rfl,rfl,rfl,trivial⟩ (Mem.Less.refl _) (⟨Nat.zero_le _,λj _ h=>absurd h (Nat.not_lt_zero _)⟩) ?_;rintro i ⟨hi,A⟩;(try dsimp only at *);refine r6_ ?_;refine vp rfl (λhc=>?_) (λhc=>?_)
 ·have hc:i<l.length:=by have:=of_decide_eq_true hc;omega
  obtain ⟨b,off,rfl,V⟩:=h3.resolve_left (λe=>by subst e;simp at hc);have J:=V i hc;have C:isF s k l[i]=false -> ∀ j (h:j<l.length),j<i+1->isF s k l[j]=false:=λhn j h Y=>by rcases Nat.lt_or_ge j i with h' | h';exact A j h h';obtain rfl:j=i:=vd;exact hn
  have W:isF s k l[i]=true->l.findIdx (isF s k)=i:=λhy=>(List.findIdx_eq hc).2 ⟨hy,λj Y=>A j vd Y⟩;generalize l[i]=y at *;unfold frF at J;refine r17_ ?_;refine vq (zab rfl) zvF rfl rfl (ztU y s k kb H _ hk hs) ?_;rintro _ S1 ⟨rfl,U⟩;rw [U];clear U S1;refine r2_ ?_;refine vp rfl (λI=>?_) (λI=>?_)
  ·refine r6_ ?_;refine r6_ ?_;refine ⟨_,S,⟨_,_,rfl,rfl,rfl⟩,zae,?_⟩;exact ⟨by rw [W I,if_pos hc];rfl,rfl⟩
  refine r8_ ?_;refine ⟨i+1,?_,?_,?_,?_⟩<;>try dsimp only
  ·exact ⟨rfl,rfl,rfl,rfl,trivial⟩
  ·exact zae
  ·exact ⟨hc,C I⟩
  omega
 have hc:i=l.length:=by have:=of_decide_eq_false hc;omega
 refine r11_ ?_;refine ⟨_,S,⟨_,_,rfl,rfl,rfl⟩,zae,?_⟩;exact ⟨by rw [if_neg (λh=>by have Q:=List.findIdx_getElem (w:=h);rw [A _ h vd] at Q;cases Q)];rfl,rfl⟩
theorem zk_ {x:Pl} (h:(takeP x).2.2=0):(takeP x).2.1<(takeP x).1.fr.length:=by
 have A:=zea x.fr x.fr.length;have C:=zf3 x (bestF x.fr x.fr.length).toNat;revert h;unfold takeP
 repeat' split
 ·intro _;assumption
 ·intro h;simp at h
 ·intro _;unfold setP;simp only [List.length_set];omega
 ·intro h;rename_i e;exact absurd h e
 intro _;unfold setP;simp only [List.length_set];omega
def ArN (S:Mem) (a p b c:Nat) (q:Pl × Nat × Int) (r:tu) (S':Mem):Prop:=r = .tuple #[.int .i64 (q.2.1:Nat),.int .i64 q.2.2]/\ArS S a p b c q.1 S'
theorem zrh (x:Pl):(takeP x).1.fr.length=x.fr.length:=by
 have A:=zf3 x (bestF x.fr x.fr.length).toNat;unfold takeP
 repeat' split
 all_goals (try unfold setP);simp only [List.length_set];try exact A
theorem zoF (a p b c:Nat) (x:Pl) (s:tt) (n:Int) (k:Int) (S:Mem) (oE oW:Option (Nat × Nat)) (J:OkA S a p b c x oE oW) (hw:PW x) :
  ACall prog 224 #[.pointer (some ⟨a,0,none⟩),.string s,.int .i64 n] (arM (devM S p x.d oE oW) a p b c x k) (ArN S a p b c (pinP x s n)):=by
 have aj:=hw.l2;have hA:=zbf (M:=devM S p x.d oE oW) (a:=a) (p:=p) (b:=b) (c:=c) (x:=x) (k:=k);have hF:=zj5 (M:=devM S p x.d oE oW) (p:=p) (x:=x) (k:=k) J.ab J.l hw.l2;have aU:=J.rd hw k;have a1:=zoD a p b c x k S oE oW J hw;have ao:=λS h1 h2 h3 h4 h5=>zoE (.slice (some ⟨b,0,none⟩) x.fr.length c) x.fr s n h1 h2 S h3 h4 h5;have ae:=λM h=>zhv p x.d s n M h hw.dr;unfold arB at hA;unfold pinP;by_cases q0:x.fr.findIdx (isF s n)<x.fr.length
 ·rw [if_pos q0];simp only [if_pos q0] at ao;have aW:=hw.pn _ (zj4 q0);generalize hI:x.fr.findIdx (isF s n)=i at *;refine k_E3 91 func224 ?_;refine r2_ ?_;refine vB (zab rfl) rfl rfl ?_;intro b4 f4;have X:=f4
  repeat ((with_reducible replace X:=zaa X);obtain ⟨X,_⟩:=X)
  have:=X.ne hA;have:=X.ne' hA
  refine nl_ ?_;refine vB (zab rfl) rfl rfl ?_;intro b5 f5;have Y:=f5
  repeat ((with_reducible replace Y:=zaa Y);obtain ⟨Y,_⟩:=Y)
  have:=Y.ne hA;have:=Y.ne' hA
  refine nl_ ?_;refine r11_ ?_;refine cp_ rfl (ao _ b5 b4 (hF.less zae) ((zb_ (vf _ b5 _)).knows) ((zb_ (r:=⟨_,[.string s],1⟩) own_).knows)) ?_;refine r10_ ?_;refine cF_ ?_;refine AWP.less (arM (devM S p x.d oE oW) a p b c x k) zae ?_;have am:=zbf (M:=devM S p x.d oE oW) (a:=a) (p:=p) (b:=b) (c:=c) (x:=x) (k:=k);have aZ:=zdu (M:=devM S p x.d oE oW) (p:=p) (c:=c) (x:=x) (k:=k) J.ab;obtain ⟨_,_,_,kp,_,_,_⟩:=ze9 (zhM (M:=devM S p x.d oE oW) (p:=p) (k:=k) J.ab J.l aj q0);unfold arB at am;by_cases qp:(atF x i).pins=256
  ·rw [if_pos qp];refine r20_ ?_;refine rC (vi rfl rfl (zag (zaV _ _) (decide_eq_true qp))) ?_;refine r2_ ?_;refine cT_ ?_;refine r8_ ?_;refine ⟨_,arM (devM S p x.d oE oW) a p b c x k,⟨_,_,rfl,⟨_,_,rfl,rfl,rfl⟩,rfl⟩,Mem.Less.refl _,?_⟩;exact ⟨rfl,k,oE,oW,J,rfl⟩
  rw [if_neg qp];refine r13_ ?_;refine kw_ [0,1,2,4,5,6,7,8,19,11] ?_;refine r7_ ?_;refine rC (vi rfl rfl (zag (zaV _ _) (decide_eq_false qp))) ?_;refine r2_ ?_;refine cF_ ?_;refine r11_ ?_;refine vk rfl rfl zai rfl am (show 2<6 from by decide) rfl ?_
  try simp only [k_ms,k_sz,k_ss,k_za,Nat.reduceAdd]
  refine r2_ ?_;obtain ⟨U,W⟩ : ∃ U:Pl,U = { x with tick:=up1 x.tick }:=⟨_,rfl⟩;have ah:U.d=x.d:=by rw [W]
  have H:U.fr=x.fr:=by rw [W]
  have aq:U.tick=up1 x.tick:=by rw [W]
  have an:=zbf (M:=devM S p x.d oE oW) (a:=a) (p:=p) (b:=b) (c:=c) (x:=U) (k:=k);have al:=zdu (M:=devM S p x.d oE oW) (p:=p) (c:=c) (x:=U) (k:=k) J.ab;refine AWP.less (arM (devM S p x.d oE oW) a p b c U k) (by rw [<- zeN (x:=x) (k:=k) H];unfold arB;rw [H,aq,W];exact Mem.Less.refl _) ?_;unfold arB at an;rw [H] at al an;refine r9_ ?_;refine ARun.storeFr1 (c:=c) (i:=i) (l:=x.fr) (q:=5) (u:={ atF x i with tick:=U.tick }) rfl rfl rfl rfl vd (by decide) q0 (by rw [zaW q0];rfl) zai al ?_
  try simp only [k_ms,k_sz,k_ss,k_za,Nat.reduceAdd]
  refine r2_ ?_;obtain ⟨Q,V⟩ : ∃ Q:Pl,Q = { U with fr:=x.fr.set i { atF x i with tick:=U.tick } }:=⟨_,rfl⟩;have aM:Q.d=x.d:=by rw [V,<- ah]
  have ac:Q.fr.length=x.fr.length:=by rw [V];simp
  have aa:i<Q.fr.length:=by rw [ac];exact q0
  have ak:atF Q i = { atF x i with tick:=U.tick }:=by rw [zaW aa];simp only [V,List.getElem_set_self]
  have aF:=zdu (M:=devM S p x.d oE oW) (p:=p) (c:=c) (x:=Q) (k:=k) J.ab;obtain ⟨_,_,_,au,_,_,_⟩:=ze9 (zj7 <| zhM (M:=devM S p x.d oE oW) (p:=p) (k:=k) J.ab (by rw [ac];exact J.l) (by rw [ac];exact aj) aa);rw [ak] at au;simp only at au;refine AWP.less (arM (devM S p x.d oE oW) a p b c Q k) (by rw [V,<- zbS (x:=U) J.ab _ (by rw [H];simp)];exact Mem.Less.refl _) ?_;refine r9_ ?_;refine ARun.storeFr1 (c:=c) (i:=i) (l:=Q.fr) (q:=3) (u:={ atF Q i with pins:=(atF x i).pins+1 }) rfl rfl rfl rfl vd (by decide) aa (by rw [zaW aa];rfl) zbk aF ?_
  try simp only [k_ms,k_sz,k_ss,k_za,Nat.reduceAdd]
  refine r2_ ?_;have ax : { Q with fr:=Q.fr.set i { atF Q i with pins:=(atF x i).pins+1 } }=pin1 x i:=by unfold pin1;rw [ak,aq,V,W];simp only [List.set_set]
  refine r7_ ?_;refine kw_ [0,1,2,4,5,6,7,8,19,11,68] ?_;refine s1_ ?_;refine ⟨_,arM (devM S p x.d oE oW) a p b c (pin1 x i) k,⟨_,_,rfl,⟨_,_,rfl,rfl,rfl⟩,rfl⟩,(by rw [<- ax,<- zbS (x:=Q) J.ab _ (by simp)];exact Mem.Less.refl _),?_⟩;exact ⟨rfl,k,oE,oW,J.like rfl (by unfold pin1;simp),rfl⟩
 rw [if_neg q0];simp only [if_neg q0] at ao;by_cases q1:(readD x.d s n).2=0
 ·rw [if_neg (show ¬ (readD x.d s n).2≠0 from λh=>h q1)];rw [q1] at ae;have a2:=λh=>zk_ (x:=x) h;have a3:=zrh x;generalize hD:(readD x.d s n).1=data at *;refine k_E3 91 func224 ?_;refine r2_ ?_;refine vB (zab rfl) rfl rfl ?_;intro b4 f4;have X:=f4
  repeat ((with_reducible replace X:=zaa X);obtain ⟨X,_⟩:=X)
  have:=X.ne hA;have:=X.ne' hA
  refine nl_ ?_;refine vB (zab rfl) rfl rfl ?_;intro b5 f5;have Y:=f5
  repeat ((with_reducible replace Y:=zaa Y);obtain ⟨Y,_⟩:=Y)
  have:=Y.ne hA;have:=Y.ne' hA
  refine nl_ ?_;refine r11_ ?_;refine cp_ rfl (ao _ b5 b4 (hF.less zae) ((zb_ (vf _ b5 _)).knows) ((zb_ (r:=⟨_,[.string s],1⟩) own_).knows)) ?_;refine r10_ ?_;refine cT_ ?_;refine s1_ ?_;refine dr_ [i0_,i1_,i2_,i3_,i4_,i5_,o6_,i7_,i8_,i9_,i10_,i11_] [] ?_;refine r6_ ?_;refine zac rfl ?_;refine cp_ rfl (ae _ (aU.less zae)) ?_;refine zad ⟨ny_,?_⟩;refine r14_ ?_;refine cF_ ?_;refine r6_ ?_;refine ca_ rfl ((a1.frame f4).frame f5) ?_;rintro _ S1 ⟨Sa,⟨Sb,⟨rfl,k',A,C,af,aR⟩,fa,aE⟩,fb,h1⟩;rw [h1,aE];rw [aE] at fb;clear h1 S1 aE Sa;rw [aR] at fa fb ⊢;clear aR Sb;generalize takeP x=u at *;refine r7_ ?_;refine kw_ [0,1,2,4,5,6,7,8,19,9,10,31] ?_;by_cases q2:u.2.2=0
  ·have aQ:=a2 q2;rw [if_neg (show ¬ u.2.2≠0 from λh=>h q2)];have aH:u.1.fr.length<=256:=(by rw [a3];exact aj);have aP:=zbf (M:=devM S p u.1.d A C) (a:=a) (p:=p) (b:=b) (c:=c) (x:=u.1) (k:=k');have ay:=zdu (M:=devM S p u.1.d A C) (p:=p) (c:=c) (x:=u.1) (k:=k') af.ab;have aN:=ay;unfold arB at aP;refine r6_ ?_;refine cF_ ?_;refine r3_ ?_;refine dr_ [i0_,i1_,i2_,i3_,i4_,i5_,i6_,i7_,i8_,i9_,o10_] [10] ?_;refine r10_ ?_;refine zac rfl ?_;refine ARun.storeFr (c:=c) (i:=u.2.1) (l:=u.1.fr) (u:=newF s n data) rfl rfl rfl vd aQ zbJ ((vg _ _ ((zaa fb).1.ne ay)).trans ((vg _ _ (fa.ne ay)).trans ay)) ?_
   try simp only [k_ms,k_sz,k_ss,k_za,Nat.reduceAdd]
   refine zad ⟨nz_,?_⟩;refine r2_ ?_;obtain ⟨y0,ad⟩ : ∃ y0:Pl,y0=setP u.1 u.2.1 (newF s n data):=⟨_,rfl⟩;have aw:y0.fr.length=u.1.fr.length:=(by rw [ad];unfold setP;simp);have aT:OkA S a p b c y0 A C:=af.like (by rw [ad];rfl) aw;have aG:=zbf (M:=devM S p u.1.d A C) (a:=a) (p:=p) (b:=b) (c:=c) (x:=y0) (k:=k');refine AWP.less (arM (devM S p u.1.d A C) a p b c y0 k') (by rw [ad];unfold setP;rw [<- zbS (x:=u.1) af.ab _ (by simp)];exact Less.set ((vh _ _ _ fa.1).trans (vh _ _ _ fb.1)) _ _) ?_;unfold arB at aG;refine r8_ ?_;refine vk rfl rfl zai rfl aG (show 3<6 from by decide) rfl ?_
   try simp only [k_ms,k_sz,k_ss,k_za,Nat.reduceAdd]
   refine r2_ ?_;obtain ⟨y,hy⟩ : ∃ y:Pl,y = { y0 with reads:=up1 y0.reads }:=⟨_,rfl⟩;have ah:y.d=u.1.d:=(by rw [hy,ad];rfl);have H:y.fr=y0.fr:=(by rw [hy]);have I:OkA S a p b c y A C:=aT.like (by rw [hy]) (by rw [H]);have ag:u.2.1<y.fr.length:=(by rw [H,aw];exact aQ);have av:y.fr.length<=256:=(by rw [H,aw];exact aH);have aW:0<=(atF y u.2.1).pins/\(atF y u.2.1).pins<=256:=(by rw [zaW ag];simp only [H,ad,setP,List.getElem_set_self,newF];omega);have a4 : ¬ (atF y u.2.1).pins=256:=(by rw [zaW ag];simp only [H,ad,setP,List.getElem_set_self,newF];omega);have aD:(pin1 { setP u.1 u.2.1 (newF s n data) with reads:=up1 u.1.reads } u.2.1,u.2.1,(0:Int))=if (atF y u.2.1).pins=256 then (y,0,11) else (pin1 y u.2.1,u.2.1,0):=by rw [if_neg a4,hy,ad];rfl
   refine AWP.less (arM (devM S p u.1.d A C) a p b c y k') (by rw [<- zeN (x:=y0) (k:=k') H];unfold arB;rw [hy];exact Mem.Less.refl _) ?_;rw [aD];rw [<- ah];clear aD aP ay aN aG ah hy H;generalize u.2.1=i at *;have am:=zbf (M:=devM S p y.d A C) (a:=a) (p:=p) (b:=b) (c:=c) (x:=y) (k:=k');have aZ:=zdu (M:=devM S p y.d A C) (p:=p) (c:=c) (x:=y) (k:=k') I.ab;obtain ⟨_,_,_,kp,_,_,_⟩:=ze9 (zhM (M:=devM S p y.d A C) (p:=p) (k:=k') I.ab I.l av ag);unfold arB at am;by_cases qp:(atF y i).pins=256
   ·rw [if_pos qp];refine r18_ ?_;refine rC (vi rfl rfl (zag (zaV _ _) (decide_eq_true qp))) ?_;refine r2_ ?_;refine kw_ [0,1,2,4,5,6,7,8,19,9,10,31,39,11,68] ?_;refine cT_ ?_;refine r8_ ?_;refine ⟨_,arM (devM S p y.d A C) a p b c y k',⟨_,_,rfl,⟨_,_,rfl,rfl,rfl⟩,rfl⟩,Mem.Less.refl _,?_⟩;exact ⟨rfl,k',A,C,I,rfl⟩
   rw [if_neg qp];refine r18_ ?_;refine rC (vi rfl rfl (zag (zaV _ _) (decide_eq_false qp))) ?_;refine r2_ ?_;refine cF_ ?_;refine r11_ ?_;refine vk rfl rfl zai rfl am (show 2<6 from by decide) rfl ?_
   try simp only [k_ms,k_sz,k_ss,k_za,Nat.reduceAdd]
   refine r2_ ?_;obtain ⟨U,W⟩ : ∃ U:Pl,U = { y with tick:=up1 y.tick }:=⟨_,rfl⟩;have ah:U.d=y.d:=(by rw [W]);have H:U.fr=y.fr:=(by rw [W]);have aq:U.tick=up1 y.tick:=(by rw [W]);have an:=zbf (M:=devM S p y.d A C) (a:=a) (p:=p) (b:=b) (c:=c) (x:=U) (k:=k');have al:=zdu (M:=devM S p y.d A C) (p:=p) (c:=c) (x:=U) (k:=k') I.ab;refine AWP.less (arM (devM S p y.d A C) a p b c U k') (by rw [<- zeN (x:=y) (k:=k') H];unfold arB;rw [H,aq,W];exact Mem.Less.refl _) ?_;unfold arB at an;rw [H] at al an;refine r9_ ?_;refine ARun.storeFr1 (c:=c) (i:=i) (l:=y.fr) (q:=5) (u:={ atF y i with tick:=U.tick }) rfl rfl rfl rfl vd (by decide) ag (by rw [zaW ag];rfl) zai al ?_
   try simp only [k_ms,k_sz,k_ss,k_za,Nat.reduceAdd]
   refine r2_ ?_;obtain ⟨Q,V⟩ : ∃ Q:Pl,Q = { U with fr:=y.fr.set i { atF y i with tick:=U.tick } }:=⟨_,rfl⟩;have aM:Q.d=y.d:=(by rw [V,<- ah]);have ac:Q.fr.length=y.fr.length:=(by rw [V];simp);have aa:i<Q.fr.length:=(by rw [ac];exact ag);have ak:atF Q i = { atF y i with tick:=U.tick }:=(by rw [zaW aa];simp only [V,List.getElem_set_self]);have aF:=zdu (M:=devM S p y.d A C) (p:=p) (c:=c) (x:=Q) (k:=k') I.ab;obtain ⟨_,_,_,au,_,_,_⟩:=ze9 (zj7 <| zhM (M:=devM S p y.d A C) (p:=p) (k:=k') I.ab (by rw [ac];exact I.l) (by rw [ac];exact av) aa);rw [ak] at au;simp only at au;refine AWP.less (arM (devM S p y.d A C) a p b c Q k') (by rw [V,<- zbS (x:=U) I.ab _ (by rw [H];simp)];exact Mem.Less.refl _) ?_;refine r9_ ?_;refine ARun.storeFr1 (c:=c) (i:=i) (l:=Q.fr) (q:=3) (u:={ atF Q i with pins:=(atF y i).pins+1 }) rfl rfl rfl rfl vd (by decide) aa (by rw [zaW aa];rfl) zbk aF ?_
   try simp only [k_ms,k_sz,k_ss,k_za,Nat.reduceAdd]
   refine r2_ ?_;refine kw_ [0,1,2,4,5,6,7,8,19,9,10,31,39,11,68] ?_;have ax : { Q with fr:=Q.fr.set i { atF Q i with pins:=(atF y i).pins+1 } }=pin1 y i:=(by unfold pin1;rw [ak,aq,V,W];simp only [List.set_set]);refine r8_ ?_;refine ⟨_,arM (devM S p y.d A C) a p b c (pin1 y i) k',⟨_,_,rfl,⟨_,_,rfl,rfl,rfl⟩,rfl⟩,(by rw [<- ax,<- zbS (x:=Q) I.ab _ (by simp)];exact Mem.Less.refl _),?_⟩;exact ⟨rfl,k',A,C,I.like rfl (by unfold pin1;simp),rfl⟩
  rw [if_pos q2];refine r6_ ?_;refine cT_ ?_;refine r10_ ?_;refine ⟨_,arM (devM S p u.1.d A C) a p b c u.1 k',⟨_,_,rfl,⟨_,_,rfl,rfl,rfl⟩,rfl⟩,(vh _ _ _ fa.1).trans (vh _ _ _ fb.1),?_⟩;exact ⟨rfl,k',A,C,af,rfl⟩
 rw [if_pos q1];refine k_E3 91 func224 ?_;refine r2_ ?_;refine vB (zab rfl) rfl rfl ?_;intro b4 f4;have X:=f4
 repeat ((with_reducible replace X:=zaa X);obtain ⟨X,_⟩:=X)
 have:=X.ne hA;have:=X.ne' hA
 refine nl_ ?_;refine vB (zab rfl) rfl rfl ?_;intro b5 f5;have Y:=f5
 repeat ((with_reducible replace Y:=zaa Y);obtain ⟨Y,_⟩:=Y)
 have:=Y.ne hA;have:=Y.ne' hA
 refine nl_ ?_;refine r11_ ?_;refine cp_ rfl (ao _ b5 b4 (hF.less zae) ((zb_ (vf _ b5 _)).knows) ((zb_ (r:=⟨_,[.string s],1⟩) own_).knows)) ?_;refine r10_ ?_;refine kw_ [0,1,2,4,5,6,7,8,19] ?_;refine cT_ ?_;refine s1_ ?_;refine dr_ [i0_,i1_,i2_,i3_,i4_,i5_,o6_,i7_,i8_,i9_,i10_,i11_] [] ?_;refine r6_ ?_;refine zac rfl ?_;refine cp_ rfl (ae _ (aU.less zae)) ?_;refine zad ⟨ny_,?_⟩;refine r14_ ?_;refine cT_ ?_;refine r10_ ?_;refine ⟨_,arM (devM S p x.d oE oW) a p b c x k,⟨_,_,rfl,⟨_,_,rfl,rfl,rfl⟩,rfl⟩,zae,?_⟩;exact ⟨rfl,k,oE,oW,J,rfl⟩
theorem ziS (a p b c:Nat) (x:Pl) (i:Int) (k:Int) (S:Mem) (oE oW:Option (Nat × Nat)) (A:OkA S a p b c x oE oW) (W:PW x) :
  ACall prog 178 #[.pointer (some ⟨a,0,none⟩),.int .i64 i] (arM (devM S p x.d oE oW) a p b c x k) (ArR S a p b c (zgZ x i)):=by
 have Y:=W.l2;have hA:=zbf (M:=devM S p x.d oE oW) (a:=a) (p:=p) (b:=b) (c:=c) (x:=x) (k:=k);have hB:=zdu (M:=devM S p x.d oE oW) (p:=p) (c:=c) (x:=x) (k:=k) A.ab;have Q:=λU h=>zbS (M:=devM S p x.d oE oW) (p:=p) (c:=c) (x:=x) (k:=k) A.ab U h;have X:=λj (C:j<x.fr.length)=>zhM (M:=devM S p x.d oE oW) (p:=p) (x:=x) (k:=k) A.ab A.l W.l2 C;have J:=λj (C:j<x.fr.length)=>W.pn _ (zj4 C);generalize V:arM (devM S p x.d oE oW) a p b c x k=T at *;unfold arB at hA;unfold zgZ;by_cases H:i<0
 ·rw [if_pos (.inl H)];refine k_E2 38 func178 ?_;refine r10_ ?_;refine rC (vi rfl rfl (zag (za9 _ _) (decide_eq_true H))) ?_;refine r12_ ?_;refine cT_ ?_;refine r8_ ?_;refine ⟨_,T,⟨_,_,rfl,rfl,rfl⟩,zae,?_⟩;exact ⟨rfl,k,oE,oW,A,V.symm⟩
 by_cases q2:(x.fr.length:Int)<=i
 ·rw [if_pos (.inr q2)];refine k_E2 38 func178 ?_;refine r10_ ?_;refine rC (vi rfl rfl (zag (za9 _ _) (decide_eq_false H))) ?_;refine r12_ ?_;refine cT_ ?_;refine r8_ ?_;refine ⟨_,T,⟨_,_,rfl,rfl,rfl⟩,zae,?_⟩;exact ⟨rfl,k,oE,oW,A,V.symm⟩
 rw [if_neg (λh=>h.elim H q2)];obtain ⟨j,rfl⟩ : ∃ j:Nat,i=(j:Int):=⟨_,(Int.toNat_of_nonneg vd).symm⟩;rw [Int.toNat_natCast];have C:j<x.fr.length:=by omega
 obtain ⟨_,_,_,kp,_,_,_⟩:=ze9 (X j C);have ae:=J j C;by_cases I:(atF x j).pins=0
 ·rw [if_pos I];refine k_E2 38 func178 ?_;refine r10_ ?_;refine rC (vi rfl rfl (zag (za9 _ _) (decide_eq_false H))) ?_;refine r12_ ?_;refine cF_ ?_;refine r10_ ?_;refine rC (vi rfl rfl (zag (zaV _ _) (decide_eq_true I))) ?_;refine r3_ ?_;refine cT_ ?_;refine r8_ ?_;refine ⟨_,T,⟨_,_,rfl,rfl,rfl⟩,zae,?_⟩;exact ⟨rfl,k,oE,oW,A,V.symm⟩
 rw [if_neg I];refine k_E2 38 func178 ?_;refine r10_ ?_;refine rC (vi rfl rfl (zag (za9 _ _) (decide_eq_false H))) ?_;refine r12_ ?_;refine kw_ [0,1,4,5] ?_;refine cF_ ?_;refine r10_ ?_;refine rC (vi rfl rfl (zag (zaV _ _) (decide_eq_false I))) ?_;refine r3_ ?_;refine cF_ ?_;refine r16_ ?_;refine ARun.storeFr1 (c:=c) (i:=j) (l:=x.fr) (q:=3) (u:={ atF x j with pins:=(atF x j).pins-1 }) rfl rfl rfl rfl vd (by decide) C (by rw [zaW C];rfl) zbk hB ?_
 try simp only [k_ms,k_sz,k_ss,k_za,Nat.reduceAdd]
 refine r8_ ?_;refine ⟨_,arM (devM S p x.d oE oW) a p b c (setP x j { atF x j with pins:=(atF x j).pins-1 }) k,⟨_,_,rfl,rfl,rfl⟩,(by rw [Q _ (by simp)];exact Mem.Less.refl _),?_⟩;exact ⟨rfl,k,oE,oW,A.like rfl (by unfold setP;simp),rfl⟩
theorem zmo (a p b c:Nat) (x:Pl) (i:Int) (k:Int) (S:Mem) (oE oW:Option (Nat × Nat)) (A:OkA S a p b c x oE oW) (hw:PW x) :
  ACall prog 231 #[.pointer (some ⟨a,0,none⟩),.int .i64 i] (arM (devM S p x.d oE oW) a p b c x k) (ArR S a p b c (ret1 x i)):=by
 have X:=hw.l2;have hA:=zbf (M:=devM S p x.d oE oW) (a:=a) (p:=p) (b:=b) (c:=c) (x:=x) (k:=k);have hB:=zdu (M:=devM S p x.d oE oW) (p:=p) (c:=c) (x:=x) (k:=k) A.ab;have Q:=λU h=>zbS (M:=devM S p x.d oE oW) (p:=p) (c:=c) (x:=x) (k:=k) A.ab U h;have W:=λj (H:j<x.fr.length)=>zhM (M:=devM S p x.d oE oW) (p:=p) (x:=x) (k:=k) A.ab A.l hw.l2 H;generalize V:arM (devM S p x.d oE oW) a p b c x k=T at *;unfold arB at hA;unfold ret1;by_cases C:i<0
 ·rw [if_pos (.inl C)];refine k_E2 34 func231 ?_;refine r10_ ?_;refine rC (vi rfl rfl (zag (za9 _ _) (decide_eq_true C))) ?_;refine r12_ ?_;refine cT_ ?_;refine r8_ ?_;refine ⟨_,T,⟨_,_,rfl,rfl,rfl⟩,zae,?_⟩;exact ⟨rfl,k,oE,oW,A,V.symm⟩
 by_cases Y:(x.fr.length:Int)<=i
 ·rw [if_pos (.inr Y)];refine k_E2 34 func231 ?_;refine r10_ ?_;refine rC (vi rfl rfl (zag (za9 _ _) (decide_eq_false C))) ?_;refine r12_ ?_;refine cT_ ?_;refine r8_ ?_;refine ⟨_,T,⟨_,_,rfl,rfl,rfl⟩,zae,?_⟩;exact ⟨rfl,k,oE,oW,A,V.symm⟩
 rw [if_neg (λh=>h.elim C Y)];obtain ⟨j,rfl⟩ : ∃ j:Nat,i=(j:Int):=⟨_,(Int.toNat_of_nonneg vd).symm⟩;rw [Int.toNat_natCast];have H:j<x.fr.length:=by omega
 obtain ⟨_,_,_,_,_,_,kp⟩:=ze9 (W j H);by_cases I:(atF x j).leased=false
 ·rw [if_pos I];refine k_E2 34 func231 ?_;refine r10_ ?_;refine rC (vi rfl rfl (zag (za9 _ _) (decide_eq_false C))) ?_;refine r12_ ?_;refine cF_ ?_;refine r9_ ?_;refine rC (Calm.as (congrArg Value.bool I) (ld_ zbV rfl)) ?_;refine r4_ ?_;refine cT_ ?_;refine r8_ ?_;refine ⟨_,T,⟨_,_,rfl,rfl,rfl⟩,zae,?_⟩;exact ⟨rfl,k,oE,oW,A,V.symm⟩
 rw [if_neg I];have J:(atF x j).leased=true:=by simpa using I
 refine k_E2 34 func231 ?_;refine r10_ ?_;refine rC (vi rfl rfl (zag (za9 _ _) (decide_eq_false C))) ?_;refine r12_ ?_;refine kw_ [0,1,4,5] ?_;refine cF_ ?_;refine r9_ ?_;refine rC (Calm.as (congrArg Value.bool J) (ld_ zbV rfl)) ?_;refine r4_ ?_;refine cF_ ?_;refine r12_ ?_;refine ARun.storeFr (c:=c) (i:=j) (l:=x.fr) (u:=F0) rfl rfl rfl vd H zbJ hB ?_
 try simp only [k_ms,k_sz,k_ss,k_za,Nat.reduceAdd]
 refine r8_ ?_;refine ⟨_,arM (devM S p x.d oE oW) a p b c (setP x j F0) k,⟨_,_,rfl,rfl,rfl⟩,(by rw [Q _ (by simp)];exact Mem.Less.refl _),?_⟩;exact ⟨rfl,k,oE,oW,A.like rfl (by unfold setP;simp),rfl⟩
theorem zri (a p b c:Nat) (x:Pl) (j:Nat) (k:Int) (T:Mem) (I:T.own a=some (arB p b c x k)) (H:Sl 7 frF T (.slice (some ⟨b,0,none⟩) x.fr.length c) x.fr) (A:j<x.fr.length) :
  ACall prog 257 #[.pointer (some ⟨a,0,none⟩),.int .i64 (j:Nat)] T λr S'=>r = .string (atF x j).data/\S'=T:=by
 have C:=zhL H j A;rw [<- zaW A] at C;obtain ⟨_,_,kp,_,_,_,_⟩:=ze9 C;unfold arB at I;refine k_E2 13 func257 ?_;refine r19_ ?_;refine ⟨_,T,⟨_,_,rfl,rfl,rfl⟩,zae,?_⟩;exact ⟨rfl,rfl⟩
theorem zoG {x:Pl} (h:PW x) (i:Nat) {y:Fr} (A:0<=y.pins) (C:y.pins<=256):PW (setP x i y) :=
 ⟨h.dr,h.fu,h.nd,by unfold setP;simp only [List.length_set];exact h.l1,by unfold setP;simp only [List.length_set];exact h.l2,λz hz=>by
  unfold setP at hz;rcases List.mem_or_eq_of_mem_set hz with hz | hz
  ·exact h.pn z hz
  subst hz;exact ⟨A,C⟩⟩
theorem zv0 {x:Pl} (h:PW x) {i:Nat} (hi:i<x.fr.length) (W:(wrP x i).2=0):PW (wrP x i).1:=by
 have J:=zdb h.dr h.nd (writeD x.d (atF x i).name (atF x i).sector (atF x i).data);have Y:(opened x.d (writeD x.d (atF x i).name (atF x i).sector (atF x i).data)).2=0:=by rw [J];exact W
 obtain ⟨V,hd,U,hs,X,f,H,I,Q⟩:=zhx h.fu Y;rw [J] at Q;have C:=h.pn _ (zj4 hi);have A:=zf3 x i;unfold wrP at A ⊢;rw [Q] at A ⊢;refine ⟨zdp (zd8 V U hs X) H _,I,hd,by rw [A];exact h.l1,by rw [A];exact h.l2,λz hz=>?_⟩;simp only [if_true] at hz;rcases List.mem_or_eq_of_mem_set hz with hz | hz
 ·exact h.pn z hz
 subst hz;exact C
theorem ztV {x:Pl} (h:PW x) (A:(takeP x).2.2=0):PW (takeP x).1:=by
 have C:=zea x.fr x.fr.length;have H:=h.l1;revert A;unfold takeP
 repeat' split
 ·intro _;exact h
 ·intro h;simp at h
 ·rename_i e;intro _;exact zoG (zv0 h vd e) _ (by decide) (by decide)
 ·intro h;rename_i e;exact absurd h e
 intro _;exact zoG h _ (by decide) (by decide)
theorem zrj (a p b c:Nat) (x:Pl) (j:Nat) (g:Int) (t:tt) (k:Int) (S:Mem) (oE oW:Option (Nat × Nat)) (A:OkA S a p b c x oE oW) (V:PW x) (H:j<x.fr.length) (aa:(atF x j).data.size=64) (hg:0<=g) (ae:g+t.size<=64) :
  ACall prog 225 #[.pointer (some ⟨a,0,none⟩),.int .i64 (j:Nat),.int .i64 g,.string t] (arM (devM S p x.d oE oW) a p b c x k) λr S'=>r = .tuple #[]/\ArS S a p b c (setP x j { atF x j with data:=fillS (atF x j).data g t,dirty:=true }) S':=by
 have U:=V.l2;have W:=zbf (M:=devM S p x.d oE oW) (a:=a) (p:=p) (b:=b) (c:=c) (x:=x) (k:=k);have X:=zdu (M:=devM S p x.d oE oW) (p:=p) (c:=c) (x:=x) (k:=k) A.ab;obtain ⟨_,_,kd,_,_,_,_⟩:=ze9 (zhM (M:=devM S p x.d oE oW) (p:=p) (k:=k) A.ab A.l V.l2 H);obtain ⟨n,rfl⟩ : ∃ n:Nat,g=(n:Int):=⟨_,(Int.toNat_of_nonneg hg).symm⟩;have C:fillS (atF x j).data (n:Int) t=(atF x j).data.extract 0 n ++ t ++ (atF x j).data.extract (n+t.size) (atF x j).data.size:=by unfold fillS;rw [Int.toNat_natCast]
 rw [C];have I:=λJ h=>zbS (M:=devM S p x.d oE oW) (p:=p) (c:=c) (x:=x) (k:=k) A.ab J h;have Q:=zaW H;have Y:(atF x j).data.extract 0 ((n:Int)).toNat ++ t ++ (atF x j).data.extract ((n:Int)+(t.size:Int)).toNat (atF x j).data.size=(atF x j).data.extract 0 n ++ t ++ (atF x j).data.extract (n+t.size) (atF x j).data.size:=by
  rw [show ((n:Int)+(t.size:Int)).toNat=n+t.size from by omega];rfl
 generalize ad:(atF x j).data.extract 0 n ++ t ++ (atF x j).data.extract (n+t.size) (atF x j).data.size=dd at *;generalize hT:arM (devM S p x.d oE oW) a p b c x k=T at *;unfold arB at W;refine k_E4 39 func225 ?_;refine r11_ ?_;refine dr_ [i0_,i1_,i2_,i3_,i4_,i5_,i6_,i7_,i8_,i9_,i10_,i11_,i12_,i13_,i14_,i15_,i16_,i17_,i18_,i19_,i20_,i21_,o22_,i23_,i24_,o25_] [22,25] ?_;refine r9_ ?_;refine dP (hc:=λ_=>vi rfl rfl (zbF (by rw [ByteArray.size_extract];omega))) (h:=?_);refine r9_ ?_;refine dP (hc:=λ_=>Calm.as (congrArg Value.string Y) (vi rfl rfl (zbF (by rw [size_append,ByteArray.size_extract,ByteArray.size_extract];omega)))) (h:=?_);refine r2_ ?_;refine zac rfl ?_;refine ARun.storeFr1 (c:=c) (i:=j) (l:=x.fr) (q:=2) (u:={ atF x j with data:=dd }) rfl rfl rfl rfl vd (by decide) H (by rw [Q];rfl) zbP X ?_
 try simp only [k_ms,k_sz,k_ss,k_za,Nat.reduceAdd]
 refine zad ⟨nz_,?_⟩;refine r2_ ?_;refine zac rfl ?_;refine ARun.storeFr1 (c:=c) (i:=j) (l:=x.fr.set j { atF x j with data:=dd }) (q:=4) (u:={ atF x j with data:=dd,dirty:=true }) rfl rfl rfl rfl vd (by decide) (by simp;exact H) (by rw [List.getElem_set_self];rfl) zfz (vf _ _ _) ?_
 try simp only [k_ms,k_sz,k_ss,k_za,Nat.reduceAdd]
 refine zad ⟨nz_,?_⟩;refine s1_ ?_;refine ⟨_,arM (devM S p x.d oE oW) a p b c (setP x j { atF x j with data:=dd,dirty:=true }) k,rfl,(by rw [List.set_set,I _ (by simp)];exact Mem.Less.refl _),?_⟩;exact ⟨rfl,k,oE,oW,A.like rfl (by unfold setP;simp),rfl⟩
def clrF (s:tt) (x:Fr):Fr:=if ofN s x=true then F0 else x
def drF (s:tt) (l:List Fr) (i:Nat):List Fr:=(l.take i).map (clrF s) ++ l.drop i
theorem zf4 (s:tt) (l:List Fr) (i:Nat):(drF s l i).length=l.length:=by unfold drF;simp;omega
theorem zsO (s:tt) (l:List Fr) {i:Nat} (h:i<l.length) (h':i<(drF s l i).length):(drF s l i)[i]=l[i]:=by
 have e:(drF s l i)[i]?=some l[i]:=by
  unfold drF;rw [List.getElem?_append_right (by simp;omega)];simp [Nat.min_eq_left (Nat.le_of_lt h)]
 rw [List.getElem?_eq_getElem h'] at e;exact Option.some.inj e
theorem zrk (s:tt) (l:List Fr) {i:Nat} (h:i<l.length):drF s l (i+1)=(drF s l i).set i (clrF s l[i]):=by
 unfold drF;rw [zb4 h,List.set_append_right _ _ (by simp;omega),List.map_append,List.append_assoc];congr 1;rw [List.length_map,List.length_take,Nat.min_eq_left (Nat.le_of_lt h),Nat.sub_self,zcW h];rfl
theorem ztW (s:tt) (l:List Fr):drF s l l.length=l.map (clrF s):=by unfold drF;simp
theorem zla (a p b c:Nat) (x:Pl) (s:tt) (k:Int) (S:Mem) (oE oW:Option (Nat × Nat)) (J:OkA S a p b c x oE oW) (hw:PW x) :
  ACall prog 122 #[.pointer (some ⟨a,0,none⟩),.string s] (arM (devM S p x.d oE oW) a p b c x k) (ArR S a p b c (dropP x s)):=by
 have au:=hw.l2;have hA:=zbf (M:=devM S p x.d oE oW) (a:=a) (p:=p) (b:=b) (c:=c) (x:=x) (k:=k);have hF:=zj5 (M:=devM S p x.d oE oW) (p:=p) (x:=x) (k:=k) J.ab J.l hw.l2;have af:=λi=>zbf (M:=devM S p x.d oE oW) (a:=a) (p:=p) (b:=b) (c:=c) (x:={ x with fr:=drF s x.fr i }) (k:=k);have ah:=λi=>zdu (M:=devM S p x.d oE oW) (p:=p) (c:=c) (x:={ x with fr:=drF s x.fr i }) (k:=k) J.ab;have ai:=λi=>zj5 (M:=devM S p x.d oE oW) (p:=p) (x:={ x with fr:=drF s x.fr i }) (k:=k) J.ab (by simp only [zf4];exact J.l) (by simp only [zf4];exact hw.l2);have ag:=λi aq h=>zbS (M:=devM S p x.d oE oW) (p:=p) (c:=c) (x:={ x with fr:=drF s x.fr i }) (k:=k) J.ab aq h;have h0:arM (devM S p x.d oE oW) a p b c { x with fr:=drF s x.fr 0 } k=arM (devM S p x.d oE oW) a p b c x k:=rfl;unfold arB at hA af;simp only [zf4] at af ai ag;unfold dropP;refine k_E2 58 func122 ?_;refine r17_ ?_;refine AWP.loop (X:=Nat) (λy=>[(0,.pointer (some ⟨a,0,none⟩)),(1,.string s),(12,.slice (some ⟨b,0,none⟩) x.fr.length c),(13,.int .i64 x.fr.length),(14,.int .i64 y)]) (λ_=>arM (devM S p x.d oE oW) a p b c x k) (λy=>y<=x.fr.length /\ ∀ j (hj:j<x.fr.length),j<y->(ofN s x.fr[j] && decide (0<x.fr[j].pins))=false) (λy=>x.fr.length-y) (0) ⟨rfl,rfl,rfl,rfl,rfl,trivial⟩ zae (⟨Nat.zero_le _,λj _ h=>absurd h (Nat.not_lt_zero _)⟩) ?_;rintro i ⟨hi,al⟩;(try dsimp only at *);refine r6_ ?_;refine vp rfl (λhc=>?_) (λhc=>?_)
 ·have hc:i<x.fr.length:=by have:=of_decide_eq_true hc;omega
  have aa:=zhL hF i hc;have C:(ofN s x.fr[i] && decide (0<x.fr[i].pins))=false -> ∀ j (hj:j<x.fr.length),j<i+1->(ofN s x.fr[j] && decide (0<x.fr[j].pins))=false:=λhn j h hj=>by rcases Nat.lt_or_ge j i with h' | h';exact al j h h';obtain rfl:j=i:=vd;exact hn
  have ac:(ofN s x.fr[i] && decide (0<x.fr[i].pins))=true->x.fr.any (λx=>ofN s x && decide (0<x.pins))=true:=λh=>List.any_eq_true.2 ⟨_,List.getElem_mem hc,h⟩;have Q:=λS=>zfj x.fr[i] S;generalize x.fr[i]=y at *;unfold frV at Q;unfold frF at aa;by_cases V:y.holds
  ·rw [decide_eq_true V] at Q;by_cases W:y.name=s
   ·rw [show ofN s y=true from decide_eq_true ⟨V,W⟩,Bool.true_and] at C ac;refine r8_ ?_;refine ARun.alloc (zab rfl) zaH ?_;intro b6 f6;have I:=f6
    repeat ((with_reducible replace I:=zaa I);obtain ⟨I,_⟩:=I)
    have:=I.ne hA;have:=I.ne' hA
    refine nl_ ?_;refine r6_ ?_;refine cp_ rfl (Q _) ?_;refine r4_ ?_
    first|refine k_q 20 ?_|refine rG 20 (vi rfl rfl (zag (zaw _ _) (decide_eq_true W))) ?_
    refine r8_ ?_;refine vp rfl (λhb=>?_) (λhb=>?_)
    ·rw [if_pos (ac hb)];refine r11_ ?_;refine ⟨_,arM (devM S p x.d oE oW) a p b c x k,⟨_,_,rfl,rfl,rfl⟩,zae,?_⟩;exact ⟨rfl,k,oE,oW,J,rfl⟩
    refine r8_ ?_;refine ⟨i+1,?_,?_,?_,?_⟩<;>try dsimp only
    ·exact ⟨rfl,rfl,rfl,rfl,rfl,trivial⟩
    ·exact zae
    ·exact ⟨hc,C hb⟩
    omega
   rw [show ofN s y=false from decide_eq_false λh=>W h.2,Bool.false_and] at C;refine r8_ ?_;refine ARun.alloc (zab rfl) zaH ?_;intro b6 f6;have I:=f6
   repeat ((with_reducible replace I:=zaa I);obtain ⟨I,_⟩:=I)
   have:=I.ne hA;have:=I.ne' hA
   refine nl_ ?_;refine r6_ ?_;refine cp_ rfl (Q _) ?_;refine r4_ ?_
   first|refine k_q 20 ?_|refine rG 20 (vi rfl rfl (zag (zaw _ _) (decide_eq_false W))) ?_
   refine r8_ ?_;refine kw_ [0,1,12,13,14,15,6,30] ?_;refine cF_ ?_;refine r8_ ?_;refine ⟨i+1,?_,?_,?_,?_⟩<;>try dsimp only
   ·exact ⟨rfl,rfl,rfl,rfl,rfl,trivial⟩
   ·exact zae
   ·exact ⟨hc,C rfl⟩
   omega
  rw [decide_eq_false V] at Q;rw [show ofN s y=false from decide_eq_false λh=>V h.1,Bool.false_and] at C;refine r8_ ?_;refine ARun.alloc (zab rfl) zaH ?_;intro b6 f6;have I:=f6
  repeat ((with_reducible replace I:=zaa I);obtain ⟨I,_⟩:=I)
  have:=I.ne hA;have:=I.ne' hA
  refine nl_ ?_;refine r6_ ?_;refine cp_ rfl (Q _) ?_;refine r13_ ?_;refine cF_ ?_;refine r8_ ?_;refine ⟨i+1,?_,?_,?_,?_⟩<;>try dsimp only
  ·exact ⟨rfl,rfl,rfl,rfl,rfl,trivial⟩
  ·exact zae
  ·exact ⟨hc,C rfl⟩
  omega
 have hc:i=x.fr.length:=by have:=of_decide_eq_false hc;omega
 subst hc;rw [if_neg (show ¬ (x.fr.any (λx=>ofN s x && decide (0<x.pins))=true) from λh=>by obtain ⟨y,hy,hq⟩:=List.any_eq_true.1 h;obtain ⟨j,hj,rfl⟩:=List.getElem_of_mem hy;rw [al j hj hj] at hq;cases hq)];refine r17_ ?_;refine AWP.loop (X:=Nat) (λy=>[(0,.pointer (some ⟨a,0,none⟩)),(1,.string s),(35,.slice (some ⟨b,0,none⟩) x.fr.length c),(36,.int .i64 x.fr.length),(37,.int .i64 y)]) (λy=>arM (devM S p x.d oE oW) a p b c { x with fr:=drF s x.fr y } k) (λy=>y<=x.fr.length) (λy=>x.fr.length-y) (0) ⟨rfl,rfl,rfl,rfl,rfl,trivial⟩ (zfZ h0) (Nat.zero_le _) ?_;rintro i hi;(try dsimp only at *);refine r6_ ?_;refine vp rfl (λhc=>?_) (λhc=>?_)
 ·have hc:i<x.fr.length:=by have:=of_decide_eq_true hc;omega
  have Y:i<(drF s x.fr i).length:=by rw [zf4];exact hc
  have aa:=zhL (ai i) i Y;rw [zsO s x.fr hc] at aa;have A:=zrk s x.fr hc;have U:=af i;have Q:=λS=>zfj x.fr[i] S;unfold clrF at A;have am:(drF s x.fr i).set i x.fr[i]=drF s x.fr i:=by rw [<- zsO s x.fr hc Y];exact List.set_getElem_self Y
  generalize x.fr[i]=y at *;unfold frV at Q;unfold frF at aa;unfold ofN at A;by_cases V:y.holds
  ·rw [decide_eq_true V] at Q;by_cases W:y.name=s
   ·rw [decide_eq_true (show y.holds/\y.name=s from ⟨V,W⟩),if_pos rfl] at A;refine r9_ ?_;refine ARun.alloc (zab rfl) zaH ?_;intro b8 f8;have H:=f8
    repeat ((with_reducible replace H:=zaa H);obtain ⟨H,_⟩:=H)
    have:=H.ne U;have:=H.ne' U
    refine nl_ ?_;refine r7_ ?_;refine cp_ rfl (Q _) ?_;refine r4_ ?_
    first|refine k_q 44 ?_|refine rG 44 (vi rfl rfl (zag (zaw _ _) (decide_eq_true W))) ?_
    refine r3_ ?_;refine kw_ [0,1,35,36,37,38,8,7,49] ?_;refine cT_ ?_;refine r8_ ?_;refine ARun.storeFr (c:=c) (i:=i) (l:=drF s x.fr i) (u:=F0) rfl rfl rfl vd Y zbJ ((vg _ _ (f8.ne (ah i))).trans (ah i)) ?_
    try simp only [k_ms,k_sz,k_ss,k_za,Nat.reduceAdd]
    refine r8_ ?_;refine ⟨i+1,?_,?_,?_,?_⟩<;>try dsimp only
    ·exact ⟨rfl,rfl,rfl,rfl,rfl,trivial⟩
    ·exact (by rw [A,<- ag i _ (by simp [zf4])];exact Less.set (vh _ _ _ f8.1) _ _)
    ·exact hc
    omega
   rw [decide_eq_false (show ¬ (y.holds/\y.name=s) from λh=>W h.2),if_neg (by simp),am] at A;refine r9_ ?_;refine ARun.alloc (zab rfl) zaH ?_;intro b8 f8;have H:=f8
   repeat ((with_reducible replace H:=zaa H);obtain ⟨H,_⟩:=H)
   have:=H.ne U;have:=H.ne' U
   refine nl_ ?_;refine r7_ ?_;refine cp_ rfl (Q _) ?_;refine r4_ ?_
   first|refine k_q 44 ?_|refine rG 44 (vi rfl rfl (zag (zaw _ _) (decide_eq_false W))) ?_
   refine r3_ ?_;refine cF_ ?_;refine r8_ ?_;refine ⟨i+1,?_,?_,?_,?_⟩<;>try dsimp only
   ·exact ⟨rfl,rfl,rfl,rfl,rfl,trivial⟩
   ·exact (by rw [A];exact zae)
   ·exact hc
   omega
  rw [decide_eq_false V] at Q;rw [decide_eq_false (show ¬ (y.holds/\y.name=s) from λh=>V h.1),if_neg (by simp),am] at A;refine r9_ ?_;refine ARun.alloc (zab rfl) zaH ?_;intro b8 f8;have H:=f8
  repeat ((with_reducible replace H:=zaa H);obtain ⟨H,_⟩:=H)
  have:=H.ne U;have:=H.ne' U
  refine nl_ ?_;refine r7_ ?_;refine cp_ rfl (Q _) ?_;refine r8_ ?_;refine kw_ [0,1,35,36,37,38,8,7,49] ?_;refine cF_ ?_;refine r8_ ?_;refine ⟨i+1,?_,?_,?_,?_⟩<;>try dsimp only
  ·exact ⟨rfl,rfl,rfl,rfl,rfl,trivial⟩
  ·exact (by rw [A];exact zae)
  ·exact hc
  omega
 have hc:i=x.fr.length:=by have:=of_decide_eq_false hc;omega
 subst hc;refine r11_ ?_;refine ⟨_,arM (devM S p x.d oE oW) a p b c { x with fr:=drF s x.fr x.fr.length } k,⟨_,_,rfl,rfl,rfl⟩,Mem.Less.refl _,?_⟩;exact ⟨rfl,k,oE,oW,J.like rfl (by simp),by rw [ztW];rfl⟩
theorem zoH (a p b c:Nat) (x:Pl) (k:Int) (S:Mem) (oE oW:Option (Nat × Nat)) (ah:OkA S a p b c x oE oW) (hw:PW x) :
  ACall prog 170 #[.pointer (some ⟨a,0,none⟩)] (arM (devM S p x.d oE oW) a p b c x k) (ArR S a p b c (flushP x)):=by
 have ao:=hw.l2;have hA:=zbf (M:=devM S p x.d oE oW) (a:=a) (p:=p) (b:=b) (c:=c) (x:=x) (k:=k);unfold arB at hA;unfold flushP;refine k_E1 34 func170 ?_;refine r17_ ?_;refine AWP.loop (X:=Nat × Pl × Int × Option (Nat × Nat) × Option (Nat × Nat)) (λz=>[(0,.pointer (some ⟨a,0,none⟩)),(9,.int .i64 x.fr.length),(10,.int .i64 z.1)]) (λz=>arM (devM S p z.2.1.d z.2.2.2.1 z.2.2.2.2) a p b c z.2.1 z.2.2.1) (λz=>z.1<=x.fr.length/\PW z.2.1/\OkA S a p b c z.2.1 z.2.2.2.1 z.2.2.2.2/\z.2.1.fr.length=x.fr.length/\flushN x 0 x.fr.length=flushN z.2.1 z.1 (x.fr.length-z.1)) (λz=>x.fr.length-z.1) ((0,x,k,oE,oW)) ⟨rfl,rfl,rfl,trivial⟩ (Mem.Less.refl _) (⟨Nat.zero_le _,hw,ah,rfl,rfl⟩) ?_;rintro ⟨i,y,k',J,Q⟩ ⟨hi,V,A,Y,C⟩;(try dsimp only at *);clear hA;refine r6_ ?_;refine vp rfl (λhc=>?_) (λhc=>?_)
 ·have hc:i<x.fr.length:=by have:=of_decide_eq_true hc;omega
  have W:i<y.fr.length:=by rw [Y];exact hc
  have hA:=zbf (M:=devM S p y.d J Q) (a:=a) (p:=p) (b:=b) (c:=c) (x:=y) (k:=k');obtain ⟨_,_,_,_,kb,_,_⟩:=ze9 (zhM (M:=devM S p y.d J Q) (p:=p) (k:=k') A.ab A.l V.l2 W);have aj:=zk9 a p b c y i k' S J Q A V W;unfold arB at hA;rw [show x.fr.length-i=(x.fr.length-(i+1))+1 from by omega,flushN] at C;by_cases q1:(atF y i).dirty=true
  ·rw [if_pos q1] at C;refine r20_ ?_;refine rC (Calm.as (congrArg Value.bool q1) (ld_ zbV rfl)) ?_;refine r3_ ?_;refine cF_ ?_;refine r6_ ?_;refine ca_ rfl (aj) ?_;rintro _ S1 ⟨rfl,k2,U,I,H,h1⟩;rw [h1];clear h1 S1;have ai:=zv0 V W;have ak:=zf3 y i;generalize wrP y i=u at *;refine r3_ ?_;by_cases q2:u.2=0
   ·rw [if_pos q2] at C;refine r6_ ?_;refine kw_ [0,9,10,11,3,21,4,26] ?_;refine cF_ ?_;refine r8_ ?_;refine ⟨(i+1,u.1,k2,U,I),?_,?_,?_,?_⟩<;>try dsimp only
    ·exact ⟨rfl,rfl,rfl,trivial⟩
    ·exact Mem.Less.refl _
    ·exact ⟨hc,ai q2,H,by rw [<- Y];exact ak,C⟩
    (show x.fr.length-(i+1)<x.fr.length-i;omega)
   rw [if_neg q2] at C;refine r6_ ?_;refine cT_ ?_;refine r12_ ?_;refine ⟨_,arM (devM S p u.1.d U I) a p b c u.1 k2,⟨_,_,rfl,rfl,rfl⟩,Mem.Less.refl _,?_⟩;exact ⟨by rw [C,if_neg q2];rfl,k2,U,I,by rw [C,if_neg q2];exact H,by rw [C,if_neg q2]⟩
  have ag:(atF y i).dirty=false:=by simpa using q1
  rw [if_neg q1] at C;refine r20_ ?_;refine rC (Calm.as (congrArg Value.bool ag) (ld_ zbV rfl)) ?_;refine r3_ ?_;refine cT_ ?_;refine r9_ ?_;refine ⟨(i+1,y,k',J,Q),?_,?_,?_,?_⟩<;>try dsimp only
  ·exact ⟨rfl,rfl,rfl,trivial⟩
  ·exact Mem.Less.refl _
  ·exact ⟨hc,V,A,Y,C⟩
  (show x.fr.length-(i+1)<x.fr.length-i;omega)
 have hc:i=x.fr.length:=by have:=of_decide_eq_false hc;omega
 subst hc;rw [Nat.sub_self,flushN] at C;rw [C];have hA:=zbf (M:=devM S p y.d J Q) (a:=a) (p:=p) (b:=b) (c:=c) (x:=y) (k:=k');have am:=zhI A k' (zfc p y.d S J Q A.v V.dr);unfold arB at hA;refine r11_ ?_;refine ca_ rfl (am) ?_;rintro _ S1 ⟨M,⟨U,I,H,rfl,hM⟩,fb,fa,h1⟩;rw [h1];clear h1 S1;rw [hM] at fb fa ⊢;refine r2_ ?_;refine kw_ [0,9,10,11] ?_;refine r6_ ?_;refine ⟨_,arM (devM S p (settleD y.d λ_=>true) U I) a p b c y k',⟨_,_,rfl,rfl,rfl⟩,Mem.Less.refl _,?_⟩;exact ⟨rfl,k',U,I,⟨H,fb,fa,A.ab,A.l⟩,by rw [if_pos rfl];rfl⟩
theorem zj8 (x:Int):(i64s x).length=1:=rfl
theorem ztX (l:List Int):∀ v ∈ l.flatMap i64s,v.oneCell'=true:=λv C=>by
 obtain ⟨x,_,A⟩:=List.mem_flatMap.1 C;simp only [i64s,List.mem_cons,List.not_mem_nil,or_false] at A;subst A;rfl
theorem Mv.ACall.frameO {P:tz} {f:tA} {args:Array tu} {S:Mem} {R:tu->Mem->Prop} (h:ACall P f args S R) {n m:Nat} {o:Option (Nat × Nat)} {e:tx} {cs:List tu} (A:OkO S o m) :
  ACall P f args (outN n S o e cs) λr S'=>∃ M,R r M/\OkO M o m/\S'=outN n M o e cs:=by
 cases o with
 | none=>exact h.mono λr S' C=>⟨S',C,⟨A.nil,λb c e=>(by cases e)⟩,rfl⟩
 | some q=>exact (h.frame (A.own q.1 q.2 rfl).1).mono λr S' ⟨M,C,H,I⟩=>⟨M,C,⟨λx=>(by cases x),λb c e=>(by cases e;exact ⟨H,(A.own _ _ rfl).2⟩)⟩,I⟩
theorem zlb {n m:Nat} {S:Mem} {o:Option (Nat × Nat)} {e:tx} {cs:List tu} {b:Nat} {r:Blk} (A:S.own b=some r) (C:OkO S o m):(outN n S o e cs).own b=some r:=zda A λq c x=>Ne.symm ((C.own q c x).1.ne A)
theorem zrl {n m:Nat} {S:Mem} {o:Option (Nat × Nat)} {e:tx} {cs:List tu} {b:Nat} {r r':Blk} (A:S.own b=some r) (C:OkO S o m):(outN n S o e cs).set b r'=outN n (S.set b r') o e cs:=(zbD λq c x=>Ne.symm ((C.own q c x).1.ne A)).symm
theorem ztY {S:Mem} {o:Option (Nat × Nat)} {m b:Nat} {r r':Blk} (C:S.own b=some r) (A:OkO S o m):OkO (S.set b r') o m :=
 ⟨A.nil,λq c x=>⟨zam (A.own q c x).1 (Ne.symm ((A.own q c x).1.ne C)),(A.own q c x).2⟩⟩
def ArL (S:Mem) (a p b c:Nat) (x:Pl) (l:List Int) (v:tu) (S':Mem):Prop:=∃ k oE oW o,OkA S a p b c x oE oW/\OkO (arM (devM S p x.d oE oW) a p b c x k) o l.length/\v=outV o l.length/\S'=outN 1 (arM (devM S p x.d oE oW) a p b c x k) o 3 (l.flatMap i64s)
theorem zoI (a p b c:Nat) (x:Pl) (n:Int) (k:Int) (S:Mem) (oE oW:Option (Nat × Nat)) (Q:OkA S a p b c x oE oW) (hw:PW x) :
  ACall prog 228 #[.pointer (some ⟨a,0,none⟩),.int .i64 n] (arM (devM S p x.d oE oW) a p b c x k) λr S'=>∃ v,r = .tuple #[v,.int .i64 (leaseP x n).2.2]/\ArL S a p b c (leaseP x n).1 (leaseP x n).2.1 v S':=by
 have ai:=hw.l2;have hA:=zbf (M:=devM S p x.d oE oW) (a:=a) (p:=p) (b:=b) (c:=c) (x:=x) (k:=k);have hF:=zj5 (M:=devM S p x.d oE oW) (p:=p) (x:=x) (k:=k) Q.ab Q.l hw.l2;have ag:=zrg a p b c x k (arM (devM S p x.d oE oW) a p b c x k) hA hF ai;have aK:idlesP x<=x.fr.length:=List.countP_le_length;have h0:=zbO (arM (devM S p x.d oE oW) a p b c x k);unfold leaseP;by_cases q1:n<0
 ·rw [if_pos q1];refine k_E2 41 func228 ?_;refine r15_ ?_;refine cT_ ?_;refine r9_ ?_;refine ⟨_,arM (devM S p x.d oE oW) a p b c x k,⟨_,_,rfl,⟨_,_,rfl,rfl,rfl⟩,rfl⟩,zae,?_⟩;exact ⟨_,rfl,k,oE,oW,none,Q,h0,rfl,rfl⟩
 rw [if_neg q1];by_cases q2:(idlesP x:Int)<n
 ·rw [if_pos q2];refine k_E2 41 func228 ?_;refine r15_ ?_;refine cF_ ?_;refine r4_ ?_;refine cp_ rfl (ag) ?_;refine r4_ ?_;refine cT_ ?_;refine r9_ ?_;refine ⟨_,arM (devM S p x.d oE oW) a p b c x k,⟨_,_,rfl,⟨_,_,rfl,rfl,rfl⟩,rfl⟩,zae,?_⟩;exact ⟨_,rfl,k,oE,oW,none,Q,h0,rfl,rfl⟩
 rw [if_neg q2];obtain ⟨m,rfl⟩ : ∃ m:Nat,n=(m:Int):=⟨_,(Int.toNat_of_nonneg vd).symm⟩;rw [Int.toNat_natCast];refine k_E2 41 func228 ?_;refine r15_ ?_;refine cF_ ?_;refine r4_ ?_;refine cp_ rfl (ag) ?_;refine r4_ ?_;refine kw_ [0,1,4,5,9,12] ?_;refine cF_ ?_;refine r16_ ?_;refine AWP.loop (X:=Nat × Pl × Int × Option (Nat × Nat) × Option (Nat × Nat) × Option (Nat × Nat) × List Int) (λz=>[(0,.pointer (some ⟨a,0,none⟩)),(6,outV z.2.2.2.2.2.1 z.2.2.2.2.2.2.length),(17,.int .i64 m),(18,.int .i64 z.1)]) (λz=>outN 1 (arM (devM S p z.2.1.d z.2.2.2.1 z.2.2.2.2.1) a p b c z.2.1 z.2.2.1) z.2.2.2.2.2.1 3 (z.2.2.2.2.2.2.flatMap i64s)) (λz=>z.1<=m/\PW z.2.1/\OkA S a p b c z.2.1 z.2.2.2.1 z.2.2.2.2.1/\OkO (arM (devM S p z.2.1.d z.2.2.2.1 z.2.2.2.2.1) a p b c z.2.1 z.2.2.1) z.2.2.2.2.2.1 z.2.2.2.2.2.2.length/\z.2.2.2.2.2.2.length=z.1/\leaseN m x []=leaseN (m-z.1) z.2.1 z.2.2.2.2.2.2) (λz=>m-z.1) ((0,x,k,oE,oW,none,[])) ⟨rfl,rfl,rfl,rfl,trivial⟩ (Mem.Less.refl _) (⟨Nat.zero_le _,hw,Q,h0,rfl,rfl⟩) ?_;rintro ⟨i,y,k',ae,af,o,l⟩ ⟨hi,an,ac,al,aC,J⟩;(try dsimp only at *);clear hA hF ag;refine r6_ ?_;refine vp rfl (λhc=>?_) (λhc=>?_)
 ·have hc:i<m:=by have:=of_decide_eq_true hc;omega
  have aA:=(zoD a p b c y k' S ae af ac an).frameO (n:=1) (e:=3) (cs:=l.flatMap i64s) al;rw [show m-i=(m-(i+1))+1 from by omega,leaseN] at J;refine r7_ ?_;refine ca_ rfl (aA) ?_;rintro _ S1 ⟨Sa,⟨rfl,Y,H,C,I,ad⟩,A,h1⟩;rw [h1,ad];rw [ad] at A;clear h1 S1 ad Sa;have ay:=ztV an;have aB:=zk_ (x:=y);generalize takeP y=u at *;refine r7_ ?_;by_cases q3:u.2.2=0
  ·rw [if_pos q3] at J;have az:=aB q3;have ak:=zbf (M:=devM S p u.1.d H C) (a:=a) (p:=p) (b:=b) (c:=c) (x:=u.1) (k:=Y);have W:=zdu (M:=devM S p u.1.d H C) (p:=p) (c:=c) (x:=u.1) (k:=Y) I.ab;have am:=zlb (n:=1) (e:=3) (cs:=l.flatMap i64s) ak A;have aj:=zlb (n:=1) (e:=3) (cs:=l.flatMap i64s) W A;unfold arB at am;refine r7_ ?_;refine cF_ ?_;refine r11_ ?_;refine ARun.storeFr (c:=c) (i:=u.2.1) (l:=u.1.fr) (u:=F1) rfl rfl rfl vd az zbJ aj ?_
   try simp only [k_ms,k_sz,k_ss,k_za,Nat.reduceAdd]
   refine r2_ ?_;rw [show (outN 1 (arM (devM S p u.1.d H C) a p b c u.1 Y) o 3 (l.flatMap i64s)).set b (frB (u.1.fr.set u.2.1 F1) c)=outN 1 (arM (devM S p u.1.d H C) a p b c (setP u.1 u.2.1 F1) Y) o 3 (l.flatMap i64s) from by rw [zrl W A,zbS I.ab _ (by simp)];rfl];have U:OkO (arM (devM S p u.1.d H C) a p b c (setP u.1 u.2.1 F1) Y) o l.length:=(by have:=ztY (r':=frB (u.1.fr.set u.2.1 F1) c) W A;rw [zbS I.ab _ (by simp)] at this;exact this);have aa:=zch (e:=3) U (zas zj8 l);have aq:OkA S a p b c (setP u.1 u.2.1 F1) H C:=I.like rfl (by unfold setP;simp);have ah:=zoG (ay q3) u.2.1 (y:=F1) (by decide) (by decide);have ax:(setP u.1 u.2.1 F1).d=u.1.d:=rfl;rw [<- ax] at U aa ⊢;clear aj am ak W A;generalize setP u.1 u.2.1 F1=y3 at *;refine r3_ ?_;refine vu (zab rfl) zat rfl rfl ?_;intro aJ ao;have V:=ao
   repeat ((with_reducible replace V:=zaa V);obtain ⟨V,_⟩:=V)
   refine vJ (n:=1) (o:=o) (k:=l.length) (m:=1) (cs:=l.flatMap i64s) (news:=[.int .i64 (u.2.1:Nat)]) (zab rfl) zat rfl rfl (zas zj8 l) U (aa.temp ao) rfl (zfy (vf _ _ _) List.prefix_rfl) rfl (ztX [((u.2.1:Nat):Int)]) vd vd ?_;intro o2 aD;refine r9_ ?_;refine ⟨(i+1,y3,Y,H,C,o2,l ++ [((u.2.1:Nat):Int)]),?_,?_,?_,?_⟩<;>try dsimp only
   ·exact ⟨rfl,by rw [List.length_append];rfl,rfl,rfl,trivial⟩
   ·exact zfZ (by rw [List.flatMap_append];rfl)
   ·exact ⟨hc,ah,aq,by rw [List.length_append];exact aD,by rw [List.length_append,aC];rfl,J⟩
   (show m-(i+1)<m-i;omega)
  rw [if_neg q3] at J;refine r7_ ?_;refine kw_ [0,6,17,18,19,7,8,26] ?_;refine cT_ ?_;rw [J];refine r14_ ?_;refine ⟨_,arM (devM S p u.1.d H C) a p b c u.1 Y,⟨_,_,rfl,⟨_,_,rfl,rfl,rfl⟩,rfl⟩,zbr A,?_⟩;exact ⟨_,rfl,Y,H,C,none,I,zbO _,rfl,rfl⟩
 have hc:i=m:=by have:=of_decide_eq_false hc;omega
 subst hc;rw [Nat.sub_self,leaseN] at J;rw [J];refine r13_ ?_;refine ⟨_,outN 1 (arM (devM S p y.d ae af) a p b c y k') o 3 (l.flatMap i64s),⟨_,_,rfl,⟨_,_,rfl,rfl,rfl⟩,rfl⟩,Mem.Less.refl _,?_⟩;exact ⟨_,rfl,k',ae,af,o,ac,al,rfl,rfl⟩
end
end Go.Proofs.YtopiogkolaelnaaGreatDoor
