/-
  Texts that belong together: DrawS, Flw3, Run4, Run5, Run6, LoserMath2, VLos1, VLos2, VLos3, VLos4, VLos5, VLos10, Mg1, Mg2, Mg3, Mg4, Mg5, Mg6, Mg7, Srt1, Srt2, MgL0, CmI, Ints.
-/
import Derived.Test.YtoaoibeobhcgmaaGreatDoorBSo5
set_option linter.unusedVariables false
set_option linter.unusedSimpArgs false
set_option linter.unusedSectionVars false
namespace Go.Proofs.YtoaoibeobhcgmaaGreatDoor
section
open Go.RowKit
namespace Mv
section
variable {P:Program} {N:Nat}
theorem zrE {l:List Oper} {W:List Nat} {S0 SB:Mem} {w0:World} {K:Env→Mem→Prop} (hsel:Region.noSelect l.toArray=true):∀ (st:List (Nat × Bool)) (listed:Array Bool) (E:Env) (S:Mem) (a:Act) (w:World),
  stepsOK l W st listed=true→Closed l.toArray listed→DrawRun P N l W S0 st K E S→Good N E a→View S w→Step SB w0 S w→wpAnyG P l.toArray (Q0 N K SB w0) (fun i=>W.contains i) (View S0) st.length listed a w:=by
 intro st
 induction st with
 | nil =>
  intro listed E S a w hr hcl h g hv hs
  exact ⟨by simpa [stepsOK] using hr,E,S,h,g,hs⟩
 | cons p is ih =>
  obtain ⟨i,b⟩:=p
  intro listed E S a w hr hcl h g hv hs
  cases b with
  | false =>
   simp only [stepsOK,Bool.and_eq_true,beq_iff_eq,Bool.false_eq_true,if_false] at hr
   obtain ⟨hr1,hr2⟩:=hr
   refine ⟨fun h0=>(by rw [hr1] at h0;cases h0),fun j hj=>?_⟩
   have hj':=hj
   rw [hr1] at hj
   obtain rfl:j=i:=by simpa using hj
   obtain ⟨o,ho,hop⟩:=h
   have h1:=hop a w g hv
   unfold wpOp
   have ho':l.toArray[j]?=some o:=by simpa using ho
   simp only [ho']
   have next:∀ a1 w1,Post N (fun E' S'=>(W.contains j=false→S0.Less S')∧DrawRun P N l W S0 is K E' S') S w a1 w1→(W.contains j=false→View S0 w→View S0 w1)∧wpAnyG P l.toArray (Q0 N K SB w0) (fun i=>W.contains i) (View S0) is.length (listed.setIfInBounds j true) a1 w1:=fun a1 w1 ⟨E1,S1,⟨k1,k2⟩,g1,s1⟩ =>
    ⟨fun hw _=>s1.view.less (k1 hw),ih _ E1 S1 a1 w1 hr2 (zbB hcl hj') k2 g1 s1.view (hs.trans s1)⟩
   split
   ·rename_i hw;rw [if_pos hw] at h1
    exact .inl (zeA (Oper.wp_mono next h1))
   ·rename_i hw;rw [if_neg hw] at h1
    exact next _ _ h1
  | true =>
   simp only [stepsOK,Bool.and_eq_true,if_true] at hr
   obtain ⟨hc1,hc2⟩:=hr
   obtain ⟨o,d,v,ho,hd,hn,hless,hcalm,hrest⟩:=h
   simp only [mayFirst,Bool.and_eq_true,Bool.or_eq_true] at hc1
   obtain ⟨⟨hr,hf⟩,hp⟩:=hc1
   have ho':l.toArray[i]?=some o:=by simpa using ho
   have hri:i ∈ Region.ready .any l.toArray listed:=by simpa using hr
   let D:World→Prop:=fun w'=>if pureOp o=true then True else View S0 w'
   have hDw:D w:=by
    simp only [D]
    split
    ·trivial
    ·rename_i hx
     exact hv.less (hless.resolve_left hx)
   have hmem:∀ w',D w'→View (if pureOp o then noMem else S0) w':=fun w' h=>by
    simp only [D] at h
    split
    ·exact zd3 _
    ·rename_i hx;rw [if_neg hx] at h;exact h
   refine zcN (D:=D) (v:=v) ho' (Region.noSelect_spec hsel) (fun c a w h=>h) ?_ is.length listed a w hcl (Region.free_spec ho' hf) hri ?_ hDw ?_
   ·intro j w1 w2 listed' hcl' hun hj hD1 hpres
    simp only [D] at hD1 ⊢
    split
    ·trivial
    ·rename_i hx
     rw [if_neg hx] at hD1
     refine hpres ?_ hD1
     rcases hp with hp | hp
     ·rw [ho] at hp;exact absurd (by simpa using hp) hx
     ·cases hwc:W.contains j with
      | false=>rfl
      | true =>
       have h1:=List.all_eq_true.1 hp j (by simpa using hwc)
       obtain ⟨hju,oj,hoj,hall⟩:=mem_ready.1 hj
       have h2:=zcs h1 listed' hcl' fun o2 ho2 e he hb=>by
        obtain rfl:oj=o2:=Option.some.inj (hoj.symm.trans ho2)
        exact hall e he hb
       rcases Nat.lt_or_ge i listed'.size with hlt | hge
       ·simp [hlt] at hun h2;rw [hun] at h2;cases h2
       ·simp [Array.getElem?_eq_none hge] at h2
   ·by_cases hw:Region.wanted o (yielded l.toArray a.tmps)=true
    ·refine .inl ⟨hw,fun w' hD'=>?_⟩
     rcases hcalm a w' g (hmem w' hD') with h1 | h1
     ·exact h1.2
     ·rw [hw] at h1;cases h1.1
    ·rcases hcalm a w g (hmem w hDw) with h1 | h1
     ·exact absurd h1.1 hw
     ·exact .inr h1
   ·rw [hd]
    exact ih (listed.setIfInBounds i true) _ S _ w hc2 (zbB hcl hri) hrest (g.put hn v) hv hs
theorem AWP.drawS {id:Nat} {l:List Oper} {Q:Exit→Env→Mem→Prop} {E:Env} {S:Mem} (S0:Mem) (hl:S0.Less S) (st:List (Nat × Bool)) (W:List Nat) (hm:P.follows .mixedOrders=true) (hok:drawOK l st W=true)
  (h:DrawRun P N l W S0 st (Q .normal) E S):AWP P N (.region id l.toArray true) Q E S:=fun a w g hv=>by
 simp only [drawOK,Bool.and_eq_true,beq_iff_eq] at hok
 obtain ⟨⟨h1,h2⟩,h3⟩:=hok
 refine wp_mono (Q:=Q0 N (Q .normal) S w) ?_ (fun e a' w' x=>by cases e <;> first | exact x | exact x.elim)
 refine wp_region_any hm ?_
 refine zc0 (W:=fun i=>W.contains i) (C:=View S0) _ _ _ _ ?_
 have hsz:l.toArray.size=st.length:=by simp [h2]
 rw [hsz]
 have hst:Step S w S { w with drawn:=w.drawn+1 }:=Step.drawn hv _
 exact zrE h1 st _ E S a _ (by rw [h2];exact h3) (zcM _ _) h g hst.view hst
end
end Mv
end
section
open Go.RowKit
open Mv Disk Num
set_option maxRecDepth 4000
namespace Sto
theorem zrF {S:Mem} {t:Nat} {k:Blk} (h:S.own t=some k):(S.del t).set t k=S:=by
 have:(S.del t).set t k=S.set t k:=by
  cases S
  simp only [Mem.set,Mem.del,Mem.mk.injEq,and_true]
  funext i
  by_cases e:i=t
  ·simp [e]
  ·simp [e]
 rw [this,Mem.set_same _ _ _ h]
theorem zpr {S:Mem} (t:Nat):(S.del t).Less S:=⟨fun b r h=>by
 by_cases e:b=t
 ·subst e;simp [Mem.del] at h
 ·rwa [Mem.own_del_other _ e] at h,rfl⟩
theorem zjP {S S':Mem} {o:Option (Nat × Nat)} {n:Nat} (h:OkO S o n) (hl:S'.Less S):OkO S' o n:=⟨h.nil,fun b c e=>⟨(h.own b c e).1.less hl,(h.own b c e).2⟩⟩
theorem zhJ {n:Nat} {S S':Mem} {o:Option (Nat × Nat)} {e:TypeId} {cs:List Value} (hl:S'.Less S):(outN n S' o e cs).Less (outN n S o e cs):=by
 cases o with
 | none=>exact hl
 | some q=>exact Mv.Less.set hl _ _
theorem zhK {n:Nat} {S:Mem} {o:Option (Nat × Nat)} {e:TypeId} {cs:List Value} {t:Nat} (h:S.own t=none) (hne:∀ q c,o=some (q,c)→t≠q):(outN n S o e cs).own t=none:=by
 cases o with
 | none=>exact h
 | some q=>exact (Mem.own_set_other _ _ (hne q.1 q.2 rfl)).trans h
theorem ztp {S T:Mem} {a p b c:Nat} {x:Pl} {t:Nat} {k:Blk} (h:ArS S a p b c x T) (ht:S.own t=some k):∃ T0,ArS (S.del t) a p b c x T0∧T=T0.set t k∧T0.own t=none:=by
 obtain ⟨i,oE,oW,ok,rfl⟩:=h
 have hb:=zek ok ht
 have hl:=zpr (S:=S) t
 have l1:(outN 2 (S.del t) oE extT (x.d.ext.flatMap extF)).Less (outN 2 S oE extT (x.d.ext.flatMap extF)):=zhJ hl
 have l2:(dkM (S.del t) x.d oE oW).Less (dkM S x.d oE oW):=zhJ l1
 have l3:(devM (S.del t) p x.d oE oW).Less (devM S p x.d oE oW):=Mv.Less.set l2 _ _
 have ok':OkA (S.del t) a p b c x oE oW:=⟨⟨⟨zjP ok.v.dk.e hl,zjP ok.v.dk.w l1⟩,ok.v.fr.less l2⟩,ok.fb.less l3,ok.fa.less l3,ok.ab,ok.l⟩
 obtain ⟨_,g2⟩:=ziP (k:=i) ok' ⟨hb.e,hb.w,hb.p,hb.b,hb.a⟩ k
 rw [zrF ht] at g2
 have hd:(S.del t).own t=none:=by simp [Mem.del]
 have hn:(arM (devM (S.del t) p x.d oE oW) a p b c x i).own t=none:=by
  unfold arM devM
  rw [Mem.own_set_other _ _ hb.a,Mem.own_set_other _ _ hb.b,Mem.own_set_other _ _ hb.p]
  exact zhK (zhK hd hb.e) hb.w
 exact ⟨_,⟨i,oE,oW,ok',rfl⟩,g2.symm,hn⟩
structure WkS (S:Mem) (a wk:Nat) (u:W5) (o:Option (Nat × Nat)) (ts:List ByteArray):Prop where
  own:S.own wk=some (wkB a u (outV o ts.length))
  gro:Gro S o 9 (ts.map Value.string)
theorem WkS.away {S:Mem} {a wk:Nat} {u:W5} {o:Option (Nat × Nat)} {ts:List ByteArray} (h:WkS S a wk u o ts) {t:Nat} {k:Blk} (hk:S.own t=some k) (hne:k.elem≠9):Away o t:=fun q c e eq=>by
 subst eq
 have:=(h.gro.own q c e).1
 rw [hk] at this
 exact hne (by rw [Option.some.inj this])
theorem WkS.awk {S:Mem} {a wk:Nat} {u:W5} {o:Option (Nat × Nat)} {ts:List ByteArray} (h:WkS S a wk u o ts):Away o wk:=h.away h.own (by show ¬ 107=9;decide)
theorem WkS.set {S:Mem} {a wk:Nat} {u:W5} {o:Option (Nat × Nat)} {ts:List ByteArray} (h:WkS S a wk u o ts) {t:Nat} (k:Blk) (h1:t≠wk) (h2:Away o t):WkS (S.set t k) a wk u o ts:=⟨(Mem.own_set_other _ _ (Ne.symm h1)).trans h.own,h.gro.set k h2⟩
theorem ztq {S T:Mem} {a p b c:Nat} {x:Pl} {wk:Nat} {u:W5} {o:Option (Nat × Nat)} {ts:List ByteArray} (h:ArS S a p b c x T) (hw:WkS S a wk u o ts):∃ T0,ArS (delo S o) a p b c x T0∧T0.Less T ∧ ∀ t r,Fresh T t→AppO (T.set t r) T0 o 9 (ts.map Value.string):=by
 cases o with
 | none=>exact ⟨T,h,Mem.Less.refl _,fun t r ht=>⟨fun _=>⟨hw.gro.nil rfl,Mem.less_set _ _ _ ht.1⟩,fun b c e=>(by cases e)⟩⟩
 | some q =>
  obtain ⟨b1,b2,b3⟩:=hw.gro.own q.1 q.2 rfl
  obtain ⟨T0,g1,g2,g3⟩:=ztp h b1
  refine ⟨T0,g1,by rw [g2];exact Mem.less_set _ _ _ g3,fun t r ht=>⟨fun e=>(by cases e),fun b' c' e=>?_⟩⟩
  cases e
  dsimp only at *
  have ho:T.own b'=some ⟨9,ts.map Value.string,c'⟩:=zaj h b1
  have hne:b'≠t:=ht.ne ho
  refine ⟨(Mem.own_set_other _ _ hne).trans ho,⟨fun i k hi=>?_,by rw [g2];rfl⟩⟩
  have hiq:i≠b':=fun e=>by rw [e,g3] at hi;cases hi
  have hiT:T.own i=some k:=by rw [g2];exact (Mem.own_set_other _ _ hiq).trans hi
  have hit:i≠t:=ht.ne hiT
  rw [Mem.own_del_other _ hiq,Mem.own_set_other _ _ hit]
  exact hiT
structure Temped (S:Mem) (a p b c wk:Nat) (u:W5) (o:Option (Nat × Nat)) (ts:List ByteArray) (x:Pl) (s:ByteArray) (w ct n B:Nat) (T':Mem) (q:Nat) (y:Pl) (S':Mem) (o':Option (Nat × Nat)):Prop where
  wt:WtS S' a p b c q ⟨s,w,0,0,0,0⟩ y n B [] T'
  md:Made x y s (Rec.needN w ct)
  wks:WkS S' a wk u o' (ts ++ [s])
  kp:∀ t k,S.own t=some k→Away o t→t≠wk→S'.own t=some k∧t≠q
  ro:S'.ro=S.ro
  new:S.own q=none
  na:∀ t c,o'=some (t,c)→S.own t=none ∨ ∃ c',o=some (t,c')
theorem temped {S T1 T2:Mem} {a p b c wk q bn cn:Nat} {u:W5} {o:Option (Nat × Nat)} {ts:List ByteArray} {x y:Pl} {s:ByteArray} {w ct n B:Nat} (k2:WtS (S.set q (wtB a ⟨s,w,0,0,0,0⟩)) a p b c q ⟨s,w,0,0,0,0⟩ y n B [] T1) (k3:Made x y s (Rec.needN w ct)) (hwk:WkS S a wk u o ts) (hqw:q≠wk) (hqa:Away o q) (k1:Fresh S q)
  (m1:Fresh (delo (S.set q (wtB a ⟨s,w,0,0,0,0⟩)) o) bn) (hwd:(delo (S.set q (wtB a ⟨s,w,0,0,0,0⟩)) o).own wk=some (wkB a u (outV o ts.length))) (hqd:(delo (S.set q (wtB a ⟨s,w,0,0,0,0⟩)) o).own q=some (wtB a ⟨s,w,0,0,0,0⟩)) (hwb:wk≠bn) (hqb:q≠bn) (hc:ts.length+1≤cn)
  (m3:ArS (((delo (S.set q (wtB a ⟨s,w,0,0,0,0⟩)) o).set bn ⟨9,ts.map Value.string ++ [.string s],cn⟩).set wk (wkB a u (outV (some (bn,cn)) (ts.length+1)))) a p b c y T2) :
  Temped S a p b c wk u o ts x s w ct n B T2 q y (((delo (S.set q (wtB a ⟨s,w,0,0,0,0⟩)) o).set bn ⟨9,ts.map Value.string ++ [.string s],cn⟩).set wk (wkB a u (outV (some (bn,cn)) (ts.length+1)))) (some (bn,cn)) where
 wt:=⟨m3,(Mem.own_set_other _ _ hqw).trans ((Mem.own_set_other _ _ hqb).trans hqd),k2.ps,k2.us,k2.nb,k2.at_,k2.wr⟩
 md:=k3
 wks:=⟨by rw [List.length_append];exact Mem.own_set_same _ _ _,⟨fun e=>(by cases e),fun q' c' e=>by
  cases e
  refine ⟨(Mem.own_set_other _ _ (Ne.symm hwb)).trans ?_,by rw [List.length_map,List.length_append];exact hc,fun a v hv=>m1.2 a v hv⟩
  rw [List.map_append];exact Mem.own_set_same _ _ _⟩⟩
 kp:=fun t k ht ha hne=>by
  have htq:t≠q:=k1.ne ht
  have hd:(delo (S.set q (wtB a ⟨s,w,0,0,0,0⟩)) o).own t=some k:=zeN ((Mem.own_set_other _ _ htq).trans ht) (fun c e=>ha t c e rfl)
  exact ⟨(Mem.own_set_other _ _ hne).trans ((Mem.own_set_other _ _ (m1.ne hd)).trans hd),htq⟩
 ro:=by
  show (delo (S.set q (wtB a ⟨s,w,0,0,0,0⟩)) o).ro=S.ro
  rw [zrt];rfl
 new:=k1.1
 na:=fun t c e=>by
  cases e
  by_cases h:∃ c',o=some (bn,c')
  ·exact .inr h
  ·refine .inl ?_
   cases e:S.own bn with
   | none=>rfl
   | some k =>
    have htq:bn≠q:=k1.ne e
    have hd:(delo (S.set q (wtB a ⟨s,w,0,0,0,0⟩)) o).own bn=some k:=zeN ((Mem.own_set_other _ _ htq).trans e) (fun c e'=>h ⟨c,e'⟩)
    rw [m1.1] at hd;cases hd
set_option maxHeartbeats 4000000 in
theorem zrG (S:Mem) (a p b c wk:Nat) (u:W5) (o:Option (Nat × Nat)) (ts:List ByteArray) (x:Pl) (s:ByteArray) (w ct n B:Nat) (T:Mem) (h:ArS S a p b c x T) (hwk:WkS S a wk u o ts) (hts:ts.length≤10000) (hp:Ps x n) (hs:nm s) (h0:ns x.d s=0) (hw:w≤8) (hct:ct≤65536) (hr:(used x.d.ext:Int)+(Rec.needN w ct:Nat)≤x.d.size) (hB:nb x.fr≤B) :
  ACall Tryz.prog 93 #[self wk,.string s,.int .i64 (w:Nat),.int .u64 (ct:Nat)] T fun v T'=>∃ q y S' o',v = .tuple #[self q,.nilIface]∧Temped S a p b c wk u o ts x s w ct n B T' q y S' o':=by
 have hto:=zto S a p b c wk u _ x s w ct n B T h hwk.own hp hs h0 hw hct hr hB
 refine k_E4 (rs:=[.tmp 8,.tmp 9]) 34 Tryz.func93 rfl rfl rfl ?_
 refine r12_ ?_
 refine ca_ rfl (hto) ?_
 rintro _ T1 ⟨q,y,rfl,k1,k2,k3⟩
 have hqw:q≠wk:=Ne.symm (k1.ne hwk.own)
 have hqa:Away o q:=fun t c e eq=>k1.ne (hwk.gro.own t c e).1 eq
 have hw2:=hwk.set (wtB a ⟨s,w,0,0,0,0⟩) hqw hqa
 obtain ⟨T0,g1,g2,g3⟩:=ztq k2.ar hw2
 have o1:=zaj k2.ar hw2.own
 unfold wkB at o1
 refine r11_ ?_
 refine rC (Calm.bin rfl rfl Er.eqNil) ?_
 refine r2_ ?_
 refine cT_ ?_
 refine r7_ ?_
 refine ARun.build1s (zab rfl) zaN rfl rfl ?_
 intro b28 f28
 have g28:=f28
 repeat ((with_reducible replace g28:=zaa g28);obtain ⟨g28,_⟩:=g28)
 have:=g28.ne o1;have:=g28.ne' o1
 refine ARun.appendO (S:=T0) (zab rfl) zaN rfl (by rw [List.length_map]) (g3 _ _ f28) rfl (news:=[.string s]) (zbA (r:=⟨9,[.string s],1⟩) (Mem.own_set_same _ _ _)) rfl (by decide) (fun v hv=>by rw [List.mem_singleton.1 hv];rfl) (by omega) (by omega) ?_
 intro bn cn hok
 obtain ⟨j1,j2⟩:=hok.own bn cn rfl
 obtain ⟨m1,m2⟩:=zdU g1 j1 ⟨9,ts.map Value.string ++ [.string s],cn⟩
 have hwd:(delo (S.set q (wtB a ⟨s,w,0,0,0,0⟩)) o).own wk=some (wkB a u (outV o ts.length)):=zeN hw2.own (fun c e=>hw2.awk wk c e rfl)
 have hqd:(delo (S.set q (wtB a ⟨s,w,0,0,0,0⟩)) o).own q=some (wtB a ⟨s,w,0,0,0,0⟩):=zeN (Mem.own_set_same _ _ _) (fun c e=>hqa q c e rfl)
 have hwb:wk≠bn:=m1.ne hwd
 have hqb:q≠bn:=m1.ne hqd
 have o2:=zaj m2 ((Mem.own_set_other _ _ hwb).trans hwd)
 have m3:=zcL m2 ((Mem.own_set_other _ _ hwb).trans hwd) (wkB a u (outV (some (bn,cn)) (ts.length+1)))
 unfold wkB at o2
 unfold outM
 skip
 refine r2_ ?_
 refine ARun.store1 rfl rfl zeX rfl o2 (show 6<10 by decide) rfl ?_
 try simp only [k_ms,k_sz,k_ss,k_za,Nat.reduceAdd]
 refine r2_ ?_
 have hfin:=temped (n:=n) (B:=B) k2 k3 hwk hqw hqa k1 m1 hwd hqd hwb hqb j2 m3
 refine r9_ ?_
 refine ⟨_,_,⟨_,_,rfl,⟨_,_,rfl,rfl,rfl⟩,rfl⟩,Mem.Less.refl _,?_⟩
 exact ⟨q,y,_,_,rfl,hfin⟩
end Sto
end
section
open Go.RowKit
open Mv Disk Num
set_option maxRecDepth 4000
namespace Sto
def blk (i j:Nat):List Fr:=List.replicate i F1 ++ List.replicate j F0
theorem zdB (i j:Nat):(blk i j).length=i+j:=by unfold blk;simp
theorem zqu (i j k:Nat):(blk i j).getD k F0=if k<i then F1 else F0:=by
 unfold blk
 rw [List.getD_eq_getElem?_getD]
 by_cases q:k<i
 ·rw [List.getElem?_append_left (by simpa using q),List.getElem?_replicate,if_pos q,if_pos q];rfl
 ·rw [List.getElem?_append_right (by simpa using q),List.getElem?_replicate,if_neg q]
  split <;> rfl
theorem F10:F1≠F0:=fun e=>by have:=congrArg Fr.leased e;cases this
theorem zps {p:Pl} {i j:Nat} (h:p.fr=blk i (j+1)):takeP p=(p,i,0):=by
 have hf:p.fr.findIdx (fun x=>decide (x=F0))=i:=by
  rw [h,List.findIdx_eq (by rw [zdB];omega)]
  have e:∀ k (hk:k<(blk i (j+1)).length),(blk i (j+1))[k]=if k<i then F1 else F0:=fun k hk=>by
   have:=zqu i (j+1) k
   rwa [List.getD_eq_getElem?_getD,List.getElem?_eq_getElem hk,Option.getD_some] at this
  refine ⟨by rw [e,if_neg (Nat.lt_irrefl i)];simp,fun k hk=>?_⟩
  rw [e k (by rw [zdB];omega),if_pos hk]
  simp [F10]
 unfold takeP
 rw [hf,if_pos (by rw [h,zdB];omega)]
theorem zrH (i j:Nat):(blk i (j+1)).set i F1=blk (i+1) j:=by
 unfold blk
 rw [List.set_append_right _ _ (by simp),List.length_replicate,Nat.sub_self,List.replicate_succ,List.set_cons_zero,List.replicate_succ',List.append_assoc]
 rfl
theorem zhL:∀ (k i j:Nat) (p:Pl) (l:List Int),p.fr=blk i (j+k) → ∃ l',leaseN k p l=({ p with fr:=blk (i+k) j },l',0)∧l'.length=l.length+k
 | 0,i,j,p,l,h=>⟨l,by
  unfold leaseN
  rw [show blk (i+0) j=p.fr from h.symm],rfl⟩
 | k+1,i,j,p,l,h=>by
  have ht:=zps (p:=p) (i:=i) (j:=j+k) h
  obtain ⟨l',e,el⟩:=zhL k (i+1) j { p with fr:=blk (i+1) (j+k) } (l ++ [(i:Int)]) rfl
  refine ⟨l',?_,by rw [el,List.length_append,List.length_singleton];omega⟩
  unfold leaseN
  rw [ht]
  simp only [if_pos]
  have hs:setP p i F1 = { p with fr:=blk (i+1) (j+k) }:=by unfold setP;rw [h,show j+(k+1)=j+k+1 from rfl,zrH]
  rw [hs,e,show i+1+k=i+(k+1) from by omega]
theorem zqv (i j:Nat):nb (blk i j)=i:=by
 unfold nb blk
 rw [List.countP_append,List.countP_replicate,List.countP_replicate,if_pos (by simp [ztc]),if_neg (by simp [show F0.idle from .inl rfl])]
 rfl
theorem zm7 (p:Pl) (i j:Nat) (h:p.fr=blk i j):idlesP p=j:=by
 unfold idlesP
 rw [h]
 unfold blk
 rw [List.countP_append,List.countP_replicate,List.countP_replicate,if_neg (by simp [ztc]),if_pos (by simp [show F0.idle from .inl rfl]),Nat.zero_add]
theorem zpt {p:Pl} {i k m:Nat} (h:p.fr=blk i (m+k)):∃ l',leaseP p (k:Int)=({ p with fr:=blk (i+k) m },l',0)∧l'.length=k:=by
 obtain ⟨l',e,el⟩:=zhL k i m p [] h
 refine ⟨l',?_,by rw [el];simp⟩
 unfold leaseP
 rw [if_neg (by omega),zm7 p i (m+k) h,if_neg (by omega),Int.toNat_natCast,e]
theorem zm8 (p:Pl) {i j:Nat} (h:p.fr=blk i j) (k:Nat):atF p k=F0∨atF p k=F1:=by
 unfold atF
 rw [h,zqu]
 split
 ·exact .inr rfl
 ·exact .inl rfl
theorem zm9 {p:Pl} {i j n:Nat} (h:p.fr=blk i j) (hd:Dw p.d n) (h1:1≤i+j) (h2:i+j≤256):Ps p n where
 d:=hd
 ok:=fun k _=>by rcases zm8 p h k with e | e;exact .inl e;exact .inr (.inl e)
 ap:=fun k l _ _ _ hs=>by
  rcases zm8 p h k with e | e
  ·rw [e] at hs;exact n0 hs.1
  ·rw [e] at hs;exact n1 hs.1
 l1:=by rw [h,zdB];exact h1
 l2:=by rw [h,zdB];exact h2
theorem zqw {p:Pl} {i j:Nat} (h:p.fr=blk i j) (s:ByteArray) (k:Int) (l:Nat):isF s k (atF p l)=false:=by
 rcases zm8 p h l with e | e
 ·rw [e];exact zeu _ _
 ·rw [e];exact zs_ _ _
theorem zm_ {p:Pl} {i j:Nat} (h:p.fr=blk i j) (s:ByteArray):Use p s 0 0 where
 pins:=fun k _ hh _=>by
  rcases zm8 p h k with e | e
  ·rw [e] at hh;exact absurd hh n0
  ·rw [e] at hh;exact absurd hh n1
 at_:=fun h=>absurd h (Nat.lt_irrefl 0)
 z0:=fun k _=>zqw h s 0 k
theorem zjQ {p:Pl} {i j:Nat} (h:p.fr=blk i j) (s:ByteArray) (k:Int):vw p s k=seen p.d s k:=zey fun l _=>zqw h s k l
theorem zna {p:Pl} {i j:Nat} (h:p.fr=blk i j) (k:Nat):(atF p k).dirty=false:=by
 rcases zm8 p h k with e | e <;> rw [e] <;> rfl
theorem Has.blank {x y:Pl} {s:ByteArray} {w c i j i' j':Nat} {L:List UInt8} (h:Has x s w c L) (hx:x.fr=blk i j) (hy:y.fr=blk i' j') (hd:y.d=x.d):Has y s w c L:=by
 have e:∀ s k,vw y s k=vw x s k:=fun s k=>by rw [zjQ hx,zjQ hy,hd]
 refine ⟨by rw [hd];exact h.n,by rw [e];exact h.h,fun j hj=>?_,h.l⟩
 rw [hd] at hj
 rw [← h.b j hj]
 unfold byt
 rw [e]
theorem Wrote.blank {x y:Pl} {s:ByteArray} {i j i' j':Nat} {L:List UInt8} (h:Wrote x s L) (hx:x.fr=blk i j) (hy:y.fr=blk i' j') (hd:y.d=x.d):Wrote y s L:=fun j hj=>by
 rw [hd] at hj
 rw [← h j hj]
 unfold byt
 rw [zjQ hx,zjQ hy,hd]
theorem zjR {p q:Pl} {i e:Int} (h:ret1 p i=(q,e)) (j:Nat):atF q j=atF p j∨atF q j=F0:=by
 unfold ret1 at h
 split at h
 ·rw [← (Prod.mk.inj h).1];exact .inl rfl
 ·split at h
  ·rw [← (Prod.mk.inj h).1];exact .inl rfl
  ·rename_i h1 _
   rw [← (Prod.mk.inj h).1,zaR F0 (by omega)]
   split
   ·exact .inr rfl
   ·exact .inl rfl
theorem ztr {p q:Pl} {i e:Int} (h:ret1 p i=(q,e)) (hl:q.fr.length=p.fr.length) (hc:∀ j,j<p.fr.length→(atF p j).dirty=false):∀ j,j<q.fr.length→(atF q j).dirty=false:=fun j hj=>by
 rcases zjR h j with e | e <;> rw [e]
 ·exact hc j (by omega)
 ·rfl
theorem znb {p q:Pl} {i e:Int} (h:ret1 p i=(q,e)) (hl:q.fr.length=p.fr.length) {s:ByteArray} (hu:Use p s 0 0):Use q s 0 0 :=
 ⟨fun j hj hh hn=>by
  rcases zjR h j with e | e <;> rw [e] at hh hn ⊢
  ·exact hu.pins j (by omega) hh hn
  ·exact absurd hh n0,fun h=>absurd h (Nat.lt_irrefl 0),fun j hj=>by
  rcases zjR h j with e | e <;> rw [e]
  ·exact hu.z0 j (by omega)
  ·exact zbz fun e=>n0 (zan.1 e).1⟩
theorem zts {p q:Pl} {i e:Int} (h:ret1 p i=(q,e)) (hl:q.fr.length=p.fr.length):nb q.fr≤nb p.fr:=nb_le hl fun j _ hid=>by
 rcases zjR h j with e | e <;> rw [e]
 ·exact hid
 ·exact .inl rfl
/-! ### Names -/
open Run (nameS dig)
theorem zdb (s:ByteArray) (i:Nat):(nameS s i).size=s.size+4:=by
 unfold Run.nameS
 rw [ByteArray.size_append,zaD];rfl
theorem zgL {i j k:Nat} (h:dig i k=dig j k):i / 10 ^ k % 10=j / 10 ^ k % 10:=by
 unfold Run.dig at h
 have:=congrArg UInt8.toNat h
 rw [UInt8.toNat_ofNat',UInt8.toNat_ofNat'] at this
 generalize i / 10 ^ k=a at *
 generalize j / 10 ^ k=b at *
 omega
theorem zhM {s:ByteArray} {i j:Nat} (hi:i≤9999) (hj:j≤9999) (h:nameS s i=nameS s j):i=j:=by
 unfold Run.nameS at h
 have h2:=congrArg (fun b:ByteArray=>b.data.toList) h
 simp only [ByteArray.data_append,Array.toList_append,bs_data] at h2
 have h3:=List.append_cancel_left h2
 simp only [List.cons.injEq,and_true] at h3
 obtain ⟨a3,a2,a1,a0⟩:=h3
 have b3:=zgL a3
 have b2:=zgL a2
 have b1:=zgL a1
 have b0:=zgL a0
 omega
theorem zpu {s:ByteArray} (h1:s.size≤12) (i:Nat):nm (nameS s i):=by
 unfold nm
 rw [zdb];omega
theorem znc {w c:Nat} (h:w≤8):Rec.needN w c≤2+c:=by
 unfold Rec.needN
 have:=Nat.mul_le_mul_right c (Rec.zeG h)
 omega
end Sto
end
section
open Go.RowKit
open Mv Disk Num
set_option maxRecDepth 4000
namespace Sto
open Run (nameS)
theorem WkS.grew {S S':Mem} {a wk q:Nat} {u:W5} {o:Option (Nat × Nat)} {ts:List ByteArray} (h:WkS S a wk u o ts) (g:Grew S S' q) (h1:q≠wk) (h2:Away o q):WkS S' a wk u o ts where
 own:=g.own wk _ (Ne.symm h1) h.own
 gro:=⟨h.gro.nil,fun t c e=>by
  obtain ⟨a1,a2,a3⟩:=h.gro.own t c e
  exact ⟨g.own t _ (h2 t c e) a1,a2,fun z v hz=>a3 z v (by rw [← g.ro];exact hz)⟩⟩
theorem zrI {S:Mem} {t t' a:Nat} {r:Rd} {k:Blk} (h:S.own t=some (rdB a r)) (h':S.own t'=some k) (hne:k.elem≠115):t≠t':=fun e=>by
 subst e
 rw [h] at h'
 exact hne (by rw [← Option.some.inj h'];rfl)
theorem Use.fr_ {x y:Pl} {s:ByteArray} {f hl:Nat} (h:Use x s f hl) (e:y.fr=x.fr):Use y s f hl:=by
 have a:∀ i,atF y i=atF x i:=fun i=>by unfold atF;rw [e]
 exact ⟨fun i hi hh hn=>by rw [a] at hh hn ⊢;exact h.pins i (by rw [← e];exact hi) hh hn,fun h0=>by rw [a,e];exact h.at_ h0,fun i hi=>by rw [a];exact h.z0 i (by rw [← e];exact hi)⟩
structure RunI (a p b c wk q:Nat) (u:W5) (fn pre:ByteArray) (w m N:Nat) (rows:List (List Nat)) (x0:Pl) (Z M:Mem) (y:Pl) (f:Nat) (o:Option (Nat × Nat)) (ts:List ByteArray) (done:List (List (List Nat))) (i0:Nat) (K:Mem):Prop where
  e0:i0=min (done.length*N) rows.length
  ar:ArS Z a p b c y M
  ps:Ps y 0
  ow:Z.own q=some (rdB a ⟨fn,w,rows.length,5*w*i0,f,0⟩)
  wks:WkS Z a wk u o ts
  te:ts=(List.range done.length).map (nameS pre)
  us:Use y fn f 0
  nb:nb y.fr≤m-8
  ln:y.fr.length=m
  hs:Has y fn w rows.length (rows.flatMap recB)
  dn:∀ j (h:j<done.length),Has y (nameS pre j) w done[j].length (done[j].flatMap recB)
  no:∀ j,done.length≤j→j≤9999→ns y.d (nameS pre j)=0
  z:y.d.size=x0.d.size
  ud:used y.d.ext≤used x0.d.ext+2*done.length+i0
  pm:done.flatten.Perm (rows.take i0)
  so:∀ r ∈ done,SortedR r∧RowsOK w r∧r ≠ []
  cl:∀ j,j<y.fr.length→(atF y j).dirty=false
  ot:∀ s,(∀ j,s≠nameS pre j)→ns y.d s=ns x0.d s
  mn:done.length=0∨(done.length-1)*N<rows.length
  ud2:∀ j,j<done.length→Use y (nameS pre j) 0 0
  ou:∀ s,s≠fn→(∀ j,s≠nameS pre j)→Use x0 s 0 0→Use y s 0 0
  ov:∀ s L,(∀ j,s≠nameS pre j)→Wrote x0 s L→Wrote y s L
  kb:K.Less Z
  kq:K.own q=none
  kw:K.own wk=none
  ko:∀ t c,o=some (t,c)→K.own t=none
theorem RunI.tl {a p b c wk q:Nat} {u:W5} {fn pre:ByteArray} {w m N:Nat} {rows:List (List Nat)} {x0:Pl} {Z M:Mem} {y:Pl} {f:Nat} {o:Option (Nat × Nat)} {ts:List ByteArray} {done:List (List (List Nat))} {i0:Nat} {K:Mem} (h:RunI a p b c wk q u fn pre w m N rows x0 Z M y f o ts done i0 K):ts.length=done.length:=by rw [h.te];simp
theorem RunI.qwk {a p b c wk q:Nat} {u:W5} {fn pre:ByteArray} {w m N:Nat} {rows:List (List Nat)} {x0:Pl} {Z M:Mem} {y:Pl} {f:Nat} {o:Option (Nat × Nat)} {ts:List ByteArray} {done:List (List (List Nat))} {i0:Nat} {K:Mem} (h:RunI a p b c wk q u fn pre w m N rows x0 Z M y f o ts done i0 K):q≠wk∧Away o q :=
 ⟨zrI h.ow h.wks.own (by show ¬ 107=115;decide),h.wks.away h.ow (by show ¬ 115=9;decide)⟩
theorem RunI.rd {a p b c wk q:Nat} {u:W5} {fn pre:ByteArray} {w m N:Nat} {rows:List (List Nat)} {x0:Pl} {Z M:Mem} {y:Pl} {f:Nat} {o:Option (Nat × Nat)} {ts:List ByteArray} {done:List (List (List Nat))} {i0:Nat} {K:Mem} (h:RunI a p b c wk q u fn pre w m N rows x0 Z M y f o ts done i0 K):RdS Z a p b c q ⟨fn,w,rows.length,5*w*i0,f,0⟩ y 0 (m-8) M :=
 ⟨h.ar,h.ow,h.ps,h.us,by show _≤_+if 0<0 then 1 else 0;rw [if_neg (Nat.lt_irrefl 0)];exact h.nb⟩
theorem RunI.next {a p b c wk q:Nat} {u:W5} {fn pre:ByteArray} {w m N:Nat} {rows:List (List Nat)} {x0:Pl} {Z M:Mem} {y:Pl} {f:Nat} {o:Option (Nat × Nat)} {ts:List ByteArray} {done:List (List (List Nat))} {i0:Nat} {K:Mem} (h:RunI a p b c wk q u fn pre w m N rows x0 Z M y f o ts done i0 K)
  {X:GX} (hG:GI Z a p b c q ⟨fn,w,rows.length,5*w*i0,f,0⟩ y 0 (m-8) rows i0 X.Z X.M X.R X.r X.y X.o X.hs) (hk:X.hs.length=min N (rows.length-i0)) (hh:X.r.held=0) (hlt:i0<rows.length) (hN:1≤N) (h8:w≤8) (h1:1≤w) (hr:RowsOK w rows) (hdl:done.length≤9999) (hfn:∀ j,fn≠nameS pre j)
  {S' T2 T3:Mem} {y2 y3:Pl} {q2 n2:Nat} {o2:Option (Nat × Nat)} (hT:Temped X.Z a p b c wk u o ts X.y (nameS pre done.length) w X.hs.length n2 (m-8) T2 q2 y2 S' o2)
  {r':Wt} {rows':List (List Nat)} (hp:rows'.Perm ((rows.drop i0).take X.hs.length)) (hso:SortedR rows') (hA:ArS (S'.set q2 (wtB a r')) a p b c y3 T3) (hS:Sealed y2 y3 (nameS pre done.length) w X.hs.length (m-8) (rows'.flatMap recB)) :
  RunI a p b c wk q u fn pre w m N rows x0 (S'.set q2 (wtB a r')) T3 y3 X.r.fr o2 (ts ++ [nameS pre done.length]) (done ++ [rows']) (i0+X.hs.length) K:=by
 obtain ⟨d1,d2⟩:=h.qwk
 have hl:rows'.length=X.hs.length:=by rw [hp.length_eq,List.length_take,List.length_drop];omega
 have hXr:X.r=⟨fn,w,rows.length,5*w*(i0+X.hs.length),X.r.fr,0⟩:=by
  have e1:=hG.nm
  have e2:=hG.w
  have e3:=hG.ct
  have e4:=hG.at_
  dsimp only at e1 e2 e3 e4
  cases e:X.r with
  | mk a1 a2 a3 a4 a5 a6 =>
   rw [e] at e1 e2 e3 e4 hh
   dsimp only at e1 e2 e3 e4 hh
   rw [e1,e2,e3,e4,hh]
 have hqX:=hG.rd.ow
 have hwX:=h.wks.grew hG.gr d1 d2
 obtain ⟨k1,k2⟩:=hT.kp q _ hqX (hwX.away hqX (by show ¬ 115=9;decide)) d1
 have hq2:q2≠wk:=fun e=>by
  have:=hT.wt.ow
  rw [e,hT.wks.own] at this
  have:=congrArg Blk.elem (Option.some.inj this)
  exact absurd (show 107=179 from this) (by decide)
 have hnX:∀ s,ns X.y.d s=ns y.d s:=hG.st.n
 have hne:∀ j,j<done.length→nameS pre j≠nameS pre done.length:=fun j hj e=>by have:=zhM (by omega) hdl e;omega
 have hnd:=znc (c:=X.hs.length) h8
 have hkey:∀ {s:ByteArray} {cc:Nat} {L:List UInt8},s≠nameS pre done.length→Has y s w cc L→Has y3 s w cc L:=fun hs hH=>((hH.stays hG.st).made hT.md hs).near hS.st hs
 have hrow':RowsOK w rows':=fun r hm=>hr r (List.mem_of_mem_drop (List.mem_of_mem_take (hp.mem_iff.1 hm)))
 have hnew:Has y3 (nameS pre done.length) w rows'.length (rows'.flatMap recB):=by
  refine ⟨?_,by rw [hl];exact hS.hd,hS.wr,zeO h1 hrow'⟩
  rw [hS.st.n,hT.md.n,if_pos rfl,hl]
 have hdl':(done ++ [rows']).length=done.length+1:=by rw [List.length_append];rfl
 have e0:=h.e0
 have hi0:i0=done.length*N:=by omega
 have hKX:K.Less X.Z:=⟨fun t k ht=>hG.gr.own t k (fun e=>by rw [e,h.kq] at ht;cases ht) (h.kb.own ht),h.kb.2.trans hG.gr.ro.symm⟩
 have hKS:K.Less S':=⟨fun t k ht=>(hT.kp t k (hKX.own ht) (fun g cc e eq=>by subst eq;rw [h.ko g cc e] at ht;cases ht) (fun eq=>by rw [eq,h.kw] at ht;cases ht)).1,hKX.2.trans hT.ro.symm⟩
 have hKq2:K.own q2=none:=by
  cases e:K.own q2 with
  | none=>rfl
  | some k =>
   have:=hKX.own e
   rw [hT.new] at this;cases this
 have hfr:∀ i,atF y2 i=atF X.y i:=fun i=>by unfold atF;rw [hT.md.fr]
 have huf:∀ s,s≠fn→Use y s 0 0→Use y2 s 0 0:=fun s hs hu=>(hu.oth hG.ot hs hG.st.l).fr_ hT.md.fr
 refine ⟨?_,hA,hS.ps,?_,hT.wks.set _ hq2 (hT.wks.away hT.wt.ow (by show ¬ 179=9;decide)),by rw [hdl',List.range_succ,List.map_append,h.te];rfl,?_,hS.nb,hS.st.l.trans ((congrArg List.length hT.md.fr).trans (hG.st.l.trans h.ln)),hkey (hfn _) h.hs,fun j hj=>?_,fun j hj hj2=>?_,?_,?_,?_,fun r hm=>?_,hS.cl,fun s hs=>?_,.inr (by rw [hdl',Nat.add_sub_cancel,← hi0];exact hlt),fun j hj=>?_,fun s h1 h2 hu=>?_,fun s L h2 hw=>?_,?_,h.kq,h.kw,fun t c e=>?_⟩
 ·rw [hdl',Nat.add_mul,Nat.one_mul];omega
 ·rw [← hXr]
  exact (Mem.own_set_other _ _ k2).trans k1
 ·refine hS.us _ _ _ (hfn _) ?_
  have hu:=hG.rd.us
  rw [hh,hG.nm] at hu
  exact ⟨fun i hi hh hn=>by rw [hfr] at hh hn ⊢;exact hu.pins i (by rw [hT.md.fr] at hi;exact hi) hh hn,fun h=>absurd h (Nat.lt_irrefl 0),fun i hi=>by rw [hfr];exact hu.z0 i (by rw [hT.md.fr] at hi;exact hi)⟩
 ·by_cases q1:j<done.length
  ·rw [List.getElem_append_left q1]
   exact hkey (hne j q1) (h.dn j q1)
  ·obtain rfl:j=done.length:=by rw [hdl'] at hj;omega
   rw [List.getElem_append_right (Nat.le_refl _)]
   simp only [Nat.sub_self,List.getElem_cons_zero]
   exact hnew
 ·rw [hdl'] at hj
  rw [hS.st.n,hT.md.n,if_neg (fun e=>by have:=zhM hdl hj2 e;omega),hnX]
  exact h.no j (by omega) hj2
 ·rw [hS.st.z,hT.md.z,hG.st.z,h.z]
 ·rw [hS.st.u,hT.md.u,hG.st.u,hdl']
  have:=h.ud
  omega
 ·rw [List.flatten_append,List.flatten_singleton,List.take_add]
  exact h.pm.append hp
 ·rcases List.mem_append.1 hm with hm | hm
  ·exact h.so r hm
  ·rw [List.mem_singleton.1 hm]
   exact ⟨hso,hrow',fun e=>by rw [e] at hl;simp at hl;omega⟩
 ·rw [hS.st.n,hT.md.n,if_neg (fun e=>hs _ e.symm),hnX]
  exact h.ot s hs
 ·rw [hdl'] at hj
  by_cases q1:j=done.length
  ·subst q1;exact hS.uo
  ·exact hS.us _ _ _ (hne j (by omega)) (huf _ (Ne.symm (hfn j)) (h.ud2 j (by omega)))
 ·exact hS.us _ _ _ (h2 _) (huf _ h1 (h.ou s h1 h2 hu))
 ·have h3:=(h.ov s L h2 hw).stays hG.st
  have h4:Wrote y2 s L:=fun j hj=>by
   rw [hT.md.n,if_neg (fun e=>h2 _ e.symm)] at hj
   rw [← h3 j hj]
   unfold byt
   rw [hT.md.v s _ hj]
  exact h4.near hS.st (h2 _)
 ·exact zap hKS hKq2
 ·rcases hT.na t c e with h' | ⟨c',h'⟩
  ·cases e2:K.own t with
   | none=>rfl
   | some k=>rw [hKX.own e2] at h';cases h'
  ·exact h.ko t c' h'
end Sto
end
section
open Go.RowKit
open Mv Disk Num
set_option maxRecDepth 4000
namespace Sto
open Run (nameS sizeN)
structure RuX where
  Z:Mem
  M:Mem
  y:Pl
  f:Nat
  o:Option (Nat × Nat)
  ts:List ByteArray
  done:List (List (List Nat))
  i0:Nat
structure RunE (a p b c wk:Nat) (u:W5) (fn pre:ByteArray) (w m N:Nat) (rows:List (List Nat)) (x0:Pl) (Z M:Mem) (y:Pl) (o:Option (Nat × Nat)) (ts:List ByteArray) (done:List (List (List Nat))) (K:Mem):Prop where
  ar:ArS Z a p b c y M
  ps:Ps y 0
  wks:WkS Z a wk u o ts
  dn:∀ j (h:j<done.length),Has y (nameS pre j) w done[j].length (done[j].flatMap recB)
  z:y.d.size=x0.d.size
  ud:used y.d.ext≤used x0.d.ext+2*done.length+rows.length
  pm:done.flatten.Perm rows
  so:∀ r ∈ done,SortedR r∧RowsOK w r∧r ≠ []
  cl:∀ j,j<y.fr.length→(atF y j).dirty=false
  ot:∀ s,(∀ j,s≠nameS pre j)→ns y.d s=ns x0.d s
  mn:done.length=0∨(done.length-1)*N<rows.length
  te:ts=(List.range done.length).map (nameS pre)
  nb:Sto.nb y.fr≤m-8
  ln:y.fr.length=m
  ud2:∀ j,j<done.length→Use y (nameS pre j) 0 0
  ou:∀ s,s≠fn→(∀ j,s≠nameS pre j)→Use x0 s 0 0→Use y s 0 0
  ov:∀ s L,(∀ j,s≠nameS pre j)→Wrote x0 s L→Wrote y s L
  kb:K.Less Z
  ko:∀ t c,o=some (t,c)→K.own t=none
theorem RunE.ret {a p b c wk:Nat} {u:W5} {fn pre:ByteArray} {w m N:Nat} {rows:List (List Nat)} {x0:Pl} {Z M M':Mem} {y z:Pl} {o:Option (Nat × Nat)} {ts:List ByteArray} {done:List (List (List Nat))} {i e:Int} {K:Mem} (h:RunE a p b c wk u fn pre w m N rows x0 Z M y o ts done K) (hr:ret1 y i=(z,e)) (hp:Ps z 0) (hs:Stays y z) (hA:ArS Z a p b c z M'):RunE a p b c wk u fn pre w m N rows x0 Z M' z o ts done K :=
 ⟨hA,hp,h.wks,fun j hj=>(h.dn j hj).stays hs,hs.z.trans h.z,by rw [hs.u];exact h.ud,h.pm,h.so,ztr hr hs.l h.cl,fun s hs'=>(hs.n s).trans (h.ot s hs'),h.mn,h.te,Nat.le_trans (zts hr hs.l) h.nb,hs.l.trans h.ln,fun j hj=>znb hr hs.l (h.ud2 j hj),fun s h1 h2 hu=>znb hr hs.l (h.ou s h1 h2 hu),fun s L h2 hw=>(h.ov s L h2 hw).stays hs,h.kb,h.ko⟩
theorem RunI.done {a p b c wk q:Nat} {u:W5} {fn pre:ByteArray} {w m N:Nat} {rows:List (List Nat)} {x0:Pl} {Z M:Mem} {y:Pl} {f:Nat} {o:Option (Nat × Nat)} {ts:List ByteArray} {done:List (List (List Nat))} {i0:Nat} {K:Mem} (h:RunI a p b c wk q u fn pre w m N rows x0 Z M y f o ts done i0 K) (hi : ¬ i0<rows.length):RunE a p b c wk u fn pre w m N rows x0 Z M y o ts done K:=by
 have e:=h.e0
 have hi:i0=rows.length:=by omega
 subst hi
 exact ⟨h.ar,h.ps,h.wks,h.dn,h.z,h.ud,by have:=h.pm;rwa [List.take_length] at this,h.so,h.cl,h.ot,h.mn,h.te,h.nb,h.ln,h.ud2,h.ou,h.ov,h.kb,h.ko⟩
theorem RunI.start {S T:Mem} {a p b c wk q:Nat} {u:W5} {fn pre:ByteArray} {w m N:Nat} {rows:List (List Nat)} {x:Pl} {y:Pl} (h:ArS S a p b c y T) (hq:S.own q=some (rdB a ⟨fn,w,rows.length,0,0,0⟩)) (hwk:WkS S a wk u none []) (hx:x.fr=blk 0 m) (hy:y.fr=blk (m-8) 8) (hyd:y.d=x.d) (hd:Dw x.d 0)
  (hH:Has x fn w rows.length (rows.flatMap recB)) (hm1:24≤m) (hm2:m≤256) (hno:∀ j,ns x.d (nameS pre j)=0) {K:Mem} (k1:K.Less S) (k2:K.own q=none) (k3:K.own wk=none):RunI a p b c wk q u fn pre w m N rows x S T y 0 none [] [] 0 K where
 e0:=by simp
 ar:=h
 ps:=zm9 hy (by rw [hyd];exact hd) (by omega) (by omega)
 ow:=hq
 wks:=hwk
 te:=rfl
 us:=zm_ hy fn
 nb:=by rw [hy,zqv];exact Nat.le_refl _
 ln:=by rw [hy,zdB];omega
 hs:=hH.blank hx hy hyd
 dn:=fun j h=>absurd h (Nat.not_lt_zero j)
 no:=fun j _ _=>by rw [hyd];exact hno j
 z:=by rw [hyd]
 ud:=by rw [hyd];exact Nat.le_refl _
 pm:=by simp
 so:=fun r hr=>by cases hr
 cl:=fun j _=>zna hy j
 ot:=fun s _=>by rw [hyd]
 mn:=.inl rfl
 ud2:=fun j h=>absurd h (Nat.not_lt_zero j)
 ou:=fun s _ _ _=>zm_ hy s
 ov:=fun s L _ hw=>hw.blank hx hy hyd
 kb:=k1
 kq:=k2
 kw:=k3
 ko:=fun t c e=>by cases e
theorem znd {Z Z' S' M T' R:Mem} {a p b c wk q q2:Nat} {u:W5} {o o2 oh:Option (Nat × Nat)} {ts:List ByteArray} {r r1:Rd} {x y y2:Pl} {n n2 B B2 i0 w ct:Nat} {rows:List (List Nat)} {hs:List Value} {s:ByteArray} (hw:WkS Z a wk u o ts) (hG:GI Z a p b c q r x n B rows i0 Z' M R r1 y oh hs) (hT:Temped Z' a p b c wk u o ts y s w ct n2 B2 T' q2 y2 S' o2):R.Less S'∧R.own q2=none:=by
 refine ⟨⟨fun t k ht=>(hT.kp t k (hG.rl.own ht) (fun g cc e eq=>?_) (fun eq=>?_)).1,hG.rl.2.trans hT.ro.symm⟩,?_⟩
 ·subst eq
  have:=hG.rn _ _ (hw.gro.own g cc e).1
  rw [ht] at this;cases this
 ·subst eq
  have:=hG.rn _ _ hw.own
  rw [ht] at this;cases this
 ·cases e:R.own q2 with
  | none=>rfl
  | some k =>
   have:=hG.rl.own e
   rw [hT.new] at this;cases this
theorem zpv (rows:List (List Nat)) (i0 k:Nat) {i:Nat} (h:i<k):((rows.drop i0).take k).getD i []=rows.getD (i0+i) []:=by
 rw [List.getD_eq_getElem?_getD,List.getD_eq_getElem?_getD,List.getElem?_take_of_lt h,List.getElem?_drop]
set_option maxHeartbeats 8000000 in
theorem zpw (S:Mem) (a p b c wk q:Nat) (u:W5) (fn pre:ByteArray) (w m:Nat) (rows:List (List Nat)) (x:Pl) (T:Mem) (h:ArS S a p b c x T) (hq:S.own q=some (rdB a ⟨fn,w,rows.length,0,0,0⟩)) (hwk:WkS S a wk u none []) (hx:x.fr=blk 0 m) (hd:Dw x.d 0)
  (hH:Has x fn w rows.length (rows.flatMap recB)) (hm1:24≤m) (hm2:m≤256) (h1:1≤w) (h8:w≤8) (hr:RowsOK w rows) (hc:rows.length≤9999) (hsm:5*w*rows.length+5*w*rows.length+512≤16384) (hp1:pre.size≠0) (hp2:pre.size≤12) (hfn:∀ j,fn≠nameS pre j) (hno:∀ j,ns x.d (nameS pre j)=0) (hroom:(used x.d.ext:Int)+rows.length+2*(rows.length / sizeN m w:Nat)+2≤x.d.size) (K:Mem) (k1:K.Less S) (k2:K.own q=none) (k3:K.own wk=none) :
  ACall Tryz.prog 49 #[self wk,self q,.string pre] T fun v T'=>∃ Z y o ts done,v = .tuple #[.int .i64 (List.length done:Nat),.nilIface]∧RunE a p b c wk u fn pre w m (sizeN m w) rows x Z T' y o ts done K:=by
 have hps:Ps x 0:=zm9 hx hd (by omega) (by omega)
 have hlen:x.fr.length=m:=by rw [hx,zdB];omega
 have hsz:=Run.zpl m w
 have hN:=Run.zpm hm1 h8 h1
 have hN2:=Run.zm2 m w hm2
 obtain ⟨l,hle,hll⟩:=zpt (p:=x) (i:=0) (k:=m-8) (m:=8) (by rw [hx];congr 1;omega)
 rw [show ((m-8:Nat):Int)=(m:Int)-8 from by omega] at hle
 have hle2:=zdj h (fun k oE oW ok=>zmQ a p b c x ((m:Int)-8) k S oE oW ok (zel hps))
 rw [hle] at hle2
 have hqw:=zrI hq hwk.own (by show ¬ 107=115;decide)
 have oT:=zaj h hwk.own
 obtain ⟨i1,hA1⟩:=zcd h
 have oq:=zaj h hq
 unfold wkB at oT
 unfold arB at hA1
 unfold rdB at oq
 dsimp only at oq
 rw [hlen] at hA1
 generalize sizeN m w=N at *
 refine k_E3 (rs:=[.tmp 6,.tmp 7]) 120 Tryz.func49 rfl rfl rfl ?_
 refine r26_ ?_
 refine ca_ rfl (hsz _ hm1 hm2 h1 h8) ?_
 rintro _ S1 ⟨rfl,h1'⟩
 rw [h1'];clear h1' S1
 refine r15_ ?_
 refine ca_ rfl (hle2) ?_
 rintro _ S1 ⟨v,rfl,i2,oE2,oW2,ol,ok2,hol,rfl,h1'⟩
 rw [h1'];clear h1' S1
 dsimp only at ok2 hol ⊢
 rw [hll] at hol ⊢
 obtain ⟨gl,gc,rfl⟩:=hol.some (by omega)
 obtain ⟨hgl,hgc⟩:=hol.own gl gc rfl
 have hA0:ArS S a p b c { x with fr:=blk (0+(m-8)) 8 } (arM (devM S p x.d oE2 oW2) a p b c { x with fr:=blk (0+(m-8)) 8 } i2):=⟨i2,oE2,oW2,ok2,rfl⟩
 have hI0:RunI a p b c wk q u fn pre w m N rows x S _ _ 0 none [] [] 0 K:=RunI.start hA0 hq hwk hx (by show blk (0+(m-8)) 8=_;rw [Nat.zero_add]) rfl hd hH hm1 hm2 hno k1 k2 k3
 clear ok2 hol hA0 hle2
 generalize arM (devM S p x.d oE2 oW2) a p b c { x with fr:=blk (0+(m-8)) 8 } i2=M0 at *
 refine r7_ ?_
 refine AWP.less (M0.set gl ⟨3,l.flatMap i64s,gc*1⟩) (Mem.Less.refl _) ?_
 have oq0:=zaj hI0.ar hq
 (unfold rdB at oq0;dsimp only at oq0)
 have hqg:q≠gl:=hgl.ne' oq0 |>.symm
 have oq1:=(Mem.own_set_other M0 ⟨3,l.flatMap i64s,gc*1⟩ hqg).trans oq0
 refine r7_ ?_
 refine cF_ ?_
 refine r18_ ?_
 refine zh9 0 1 2 6 7 8 9 11 12 51 13 14 ?_
 refine s1_ ?_
 refine AWP.loop (X:=RuX) (fun X=>[(0,self wk),(1,self q),(2,.string pre),(9,.int .i64 (N:Nat)),(11,.slice (some ⟨gl,0,none⟩) (m-8) gc),(13,.int .i64 (X.done.length:Nat)),(14,.int .i64 ((rows.length:Int)-((X.done.length*N:Nat):Int)))]) (fun X=>X.M.set gl ⟨3,l.flatMap i64s,gc*1⟩) (fun X=>RunI a p b c wk q u fn pre w m N rows x X.Z X.M X.y X.f X.o X.ts X.done X.i0 K∧Fresh X.M gl) (fun X=>rows.length-X.i0) (⟨S,M0,{ x with fr:=blk (0+(m-8)) 8 },0,none,[],[],0⟩) ⟨rfl,rfl,rfl,rfl,rfl,rfl,zai (by simp),trivial⟩ (Mem.Less.refl _) (⟨hI0,hgl⟩) ?_
 rintro ⟨Z,M,y,f,o,ts,done,i0⟩ ⟨hI,hf⟩
 (try dsimp only at *)
 clear hI0 hgl oq0 oq1
 replace hI:RunI a p b c wk q u fn pre w m N rows x Z M y f o ts done i0 K:=hI
 replace hf:Fresh M gl:=hf
 have e0:=hI.e0
 by_cases q1:i0<rows.length
 ·have hi0:i0=done.length*N:=by omega
  have hdl:done.length≤i0:=by rw [hi0];exact Nat.le_mul_of_pos_right _ (by omega)
  have hdv:done.length≤rows.length / N:=by rw [Nat.le_div_iff_mul_le (by omega)];omega
  have hga:=(zkN Z a p b c q _ y 0 (m-8) N i0 M rows hI.rd hI.hs hr rfl h1 h8 (by omega) rfl (by omega) (by omega) (by show 0+5*w*rows.length≤_;omega) (by rw [hI.ln];omega)).frame (r:=⟨3,l.flatMap i64s,gc*1⟩) hf
  refine r7_ ?_
  refine cT_ ?_
  refine r8_ ?_
  refine ca_ rfl (hga) ?_
  rintro _ S1 ⟨Sa,⟨⟨Z1,M1,R1,r1,y1,oh,hs1⟩,rfl,hXk,hSa,hG,hXh⟩,hf1,h1'⟩
  rw [h1'];clear h1' S1
  dsimp only at hXk hSa hG hXh hf1 ⊢
  obtain ⟨g,ch,rfl⟩:=hG.oo.some (by omega)
  obtain ⟨hg,hgc1⟩:=hG.oo.own g ch rfl
  replace hSa:Sa=M1.set g ⟨22,hs1,ch*1⟩:=hSa
  subst hSa
  obtain ⟨hfg,hgg⟩:=zaa hf1
  obtain ⟨d1,d2⟩:=hI.qwk
  have hqX:=hG.rd.ow
  have hwX:=hI.wks.grew hG.gr d1 d2
  have r1w:r1.w=w:=hG.w
  have or0:=zaj hG.rd.ar hqX
  (unfold rdB at or0;rw [r1w] at or0)
  have qg:q≠g:=(hg.ne or0)
  have qgl:q≠gl:=(hfg.ne or0)
  have or1:=(Mem.own_set_other M1 ⟨22,hs1,ch*1⟩ qg).trans or0
  have or2:=(Mem.own_set_other (M1.set g ⟨22,hs1,ch*1⟩) ⟨3,l.flatMap i64s,gc*1⟩ qgl).trans or1
  have hchl:((rows.drop i0).take hs1.length).length=hs1.length:=by rw [List.length_take,List.length_drop];omega
  have hnds:=znc (c:=hs1.length) h8
  have hud:=hI.ud
  refine r10_ ?_
  refine ca_ rfl (zce _ _) ?_
  rintro _ S1 ⟨rfl,h1'⟩
  rw [h1'];clear h1' S1
  refine r6_ ?_
  refine rC (Calm.bin rfl rfl Er.neNil) ?_
  refine r2_ ?_
  refine cF_ ?_
  refine r6_ ?_
  refine ca_ rfl (Run.zgJ pre done.length _ hp1 hp2 (by omega)) ?_
  rintro _ S1 ⟨rfl,h1'⟩
  rw [h1'];clear h1' S1
  have htp:=((zrG Z1 a p b c wk u o ts y1 (nameS pre done.length) w hs1.length (0+5*w*hs1.length) (m-8) M1 hG.rd.ar hwX (by rw [hI.tl];omega) hG.rd.ps (zpu hp2 _) (by rw [hG.st.n];exact hI.no _ (Nat.le_refl _) (by omega)) h8 (by omega) (by rw [hG.st.u,hG.st.z,hI.z];omega) (by have:=hG.rd.nb;rw [hXh,if_neg (Nat.lt_irrefl 0)] at this;exact this)).frame (r:=⟨22,hs1,ch*1⟩) hg).frame (r:=⟨3,l.flatMap i64s,gc*1⟩) hf1
  refine r7_ ?_
  refine zh9 0 1 2 9 11 13 14 60 15 16 73 17 ?_
  refine r11_ ?_
  refine ca_ rfl (htp) ?_
  rintro _ S1 ⟨Sb,⟨Sc,⟨q2,y2,S',o2,rfl,hT⟩,hgS,hSb⟩,hf2,h1'⟩
  rw [h1'];clear h1' S1
  subst hSb
  refine r11_ ?_
  refine rC (Calm.bin rfl rfl Er.eqNil) ?_
  refine r2_ ?_
  refine cT_ ?_
  obtain ⟨hRS,hRq2⟩:=znd hI.wks hG hT
  have hy2:y2.fr.length=m:=(congrArg List.length hT.md.fr).trans (hG.st.l.trans hI.ln)
  have hmk:5*w*hs1.length≤5*w*rows.length:=Nat.mul_le_mul_left _ (by omega)
  have hpo:=(zpq S' a p b c q2 (nameS pre done.length) w y2 (0+5*w*hs1.length) (m-8) Sc R1 g ch (ch*1) hs1 ((rows.drop i0).take hs1.length) hT.wt hgS hRS hRq2 hchl.symm (fun i hi=>by rw [zpv rows i0 _ hi];exact hG.rr i hi) (fun r hm=>hr r (List.mem_of_mem_drop (List.mem_of_mem_take hm))) h1 h8 (by omega) (by rw [hT.md.n,if_pos rfl,hchl]) (by rw [hchl,hy2];omega) (by rw [hy2];omega)).frame (r:=⟨3,l.flatMap i64s,gc*1⟩) hf2
  rw [hchl] at hpo
  refine r3_ ?_
  refine ca_ rfl (hpo) ?_
  rintro _ S1 ⟨Sd,⟨rfl,r',y3,rows',hp,hso,hA,hS⟩,hf3,h1'⟩
  rw [h1'];clear h1' S1
  refine r7_ ?_
  refine rC (Calm.bin rfl rfl Er.neNil) ?_
  refine r2_ ?_
  refine cF_ ?_
  refine r9_ ?_
  refine ztT 0 1 2 9 11 13 14 60 15 16 73 17 19 20 96 101 ?_
  refine r7_ ?_
  refine ⟨⟨S'.set q2 (wtB a r'),Sd,y3,r1.fr,o2,ts ++ [nameS pre done.length],done ++ [rows'],i0+hs1.length⟩,?_,?_,?_,?_⟩
  all_goals (try dsimp only)
  ·exact ⟨rfl,rfl,rfl,rfl,rfl,zai (by rw [List.length_append];simp),zai (by rw [List.length_append,List.length_singleton,Nat.add_mul,Nat.one_mul];omega),trivial⟩
  ·exact Mem.Less.refl _
  ·exact ⟨hI.next (X:=⟨Z1,M1,R1,r1,y1,some (g,ch),hs1⟩) hG hXk hXh q1 hN h8 h1 hr (by omega) hfn hT hp hso hA hS,hf3⟩
  ·omega
 ·refine r7_ ?_
  refine cF_ ?_
  refine r14_ ?_
  refine AWP.loop (X:=Mem × Pl × Nat) (fun X=>[(0,self wk),(13,.int .i64 (done.length:Nat)),(106,.slice (some ⟨gl,0,none⟩) (m-8) gc),(107,.int .i64 ((m-8:Nat):Int)),(108,.int .i64 (X.2.2:Nat))]) (fun X=>X.1.set gl ⟨3,l.flatMap i64s,gc*1⟩) (fun X=>RunE a p b c wk u fn pre w m N rows x Z X.1 X.2.1 o ts done K∧Fresh X.1 gl∧X.2.2≤m-8) (fun X=>m-8-X.2.2) ((M,y,0)) ⟨rfl,rfl,rfl,rfl,rfl,trivial⟩ (Mem.Less.refl _) (⟨hI.done q1,hf,Nat.zero_le _⟩) ?_
  rintro ⟨M3,y3,i⟩ ⟨hE,hf3,hi⟩
  (try dsimp only at *)
  clear hI e0 hf
  replace hE:RunE a p b c wk u fn pre w m N rows x Z M3 y3 o ts done K:=hE
  replace hf3:Fresh M3 gl:=hf3
  replace hi:i≤m-8:=hi
  by_cases q2:i<m-8
  ·have hil:i<l.length:=by omega
   have ow0:=zaj hE.ar hE.wks.own
   unfold wkB at ow0
   have owg:wk≠gl:=hf3.ne ow0
   have ow1:=(Mem.own_set_other M3 ⟨3,l.flatMap i64s,gc*1⟩ owg).trans ow0
   obtain ⟨li,hli⟩ : ∃ li,li=l[i]:=⟨_,rfl⟩
   obtain ⟨z,e,r1,r2,r3⟩:=ztd hE.ps li
   have hre:=(zdj hE.ar (fun k oE oW ok=>zkJ a p b c y3 li k Z oE oW ok (zel hE.ps))).frame (r:=⟨3,l.flatMap i64s,gc*1⟩) hf3
   rw [r1] at hre
   refine r6_ ?_
   refine cT_ ?_
   refine r7_ ?_
   refine rC (Calm.load zba rfl (v:=.int .i64 li) (zbt (Mem.own_set_same _ _ _) (by show (l.flatMap i64s)[0+(i:Int).toNat*1]?=_;have:=zdE ziO l i hil 0 (.int .i64 li) (by rw [hli];rfl);rw [show i*1+0=0+(i:Int).toNat*1 from by omega] at this;exact this))) ?_
   refine r9_ ?_
   refine ca_ rfl (hre) ?_
   rintro _ S1 ⟨Sa,⟨_,hA⟩,hf4,h1'⟩
   rw [h1'];clear h1' S1
   refine r8_ ?_
   refine ⟨(Sa,z,i+1),?_,?_,?_,?_⟩
   all_goals (try dsimp only)
   ·exact ⟨rfl,rfl,rfl,rfl,rfl,trivial⟩
   ·exact Mem.Less.refl _
   ·exact ⟨hE.ret r1 r2 r3 hA,hf4,q2⟩
   ·(show m-8-(i+1)<m-8-i;omega)
  ·refine r6_ ?_
   refine cF_ ?_
   refine r13_ ?_
   refine ⟨_,M3,⟨_,_,rfl,⟨_,_,rfl,rfl,rfl⟩,rfl⟩,Mem.less_set _ _ _ hf3.1,?_⟩
   exact ⟨Z,y3,o,ts,done,rfl,hE⟩
end Sto
end
section
namespace Loser
open Num
theorem zdW (ks:List (List Nat)) (w i:Nat) (x:List Nat) (h:i≠w):key (ks.set w x) i=key ks i:=by simp [key,List.getD,Ne.symm h]
theorem zcf (ks:List (List Nat)) (i:Nat) (h:i<ks.length):key ks i=ks[i]:=by simp [key,List.getD,h]
theorem zhN (ks:List (List Nat)) (w a b:Nat) (x:List Nat) (ha:a≠w) (hb:b≠w):beatsP (ks.set w x) a b=beatsP ks a b:=by
 unfold beatsP;rw [zdW _ _ _ _ ha,zdW _ _ _ _ hb]
theorem ziX (ks:List (List Nat)) (w n:Nat) (x:List Nat) (hn:1≤n) (h:n<2*ks.length) (hu : ¬ under ks.length n w):win (ks.set w x) n=win ks n:=by
 have hl:(ks.set w x).length=ks.length:=List.length_set
 have hne:∀ i,under ks.length n i→i≠w:=fun i hi e=>hu (e ▸ hi)
 refine zjN hn (by rw [hl];exact h) (by rw [hl];exact zco hn h) (by rw [hl];exact zbQ hn h) fun i hi hui hni=>?_
 rw [hl] at hi hui
 rw [zhN _ _ _ _ _ (hne _ (zbQ hn h)) (hne i hui)]
 exact zcp hn h hi hui hni
theorem zrJ (ks:List (List Nat)) (w n:Nat) (x:List Nat) (hn:1≤n) (h:n<ks.length) (hu : ¬ under ks.length n w):los (ks.set w x) n=los ks n:=by
 have h1 : ¬ under ks.length (2*n) w:=fun e=>hu ((zbY h).2 (.inl e))
 have h2 : ¬ under ks.length (2*n+1) w:=fun e=>hu ((zbY h).2 (.inr e))
 unfold los
 rw [ziX ks w (2*n) x (by omega) (by omega) h1,ziX ks w (2*n+1) x (by omega) (by omega) h2]
 have ha:=zbQ (ks:=ks) (n:=2*n) (by omega) (by omega)
 have hb:=zbQ (ks:=ks) (n:=2*n+1) (by omega) (by omega)
 have hb':win ks (2*n+1)≠w:=fun e=>by rw [e] at hb;exact h2 hb
 have ha':win ks (2*n)≠w:=fun e=>by rw [e] at ha;exact h1 ha
 rw [zhN _ _ _ _ _ hb' ha']
theorem zpx (ks:List (List Nat)) (n:Nat) (hn:1≤n) (h:n<2*ks.length) (hu:under ks.length n (win ks 1)):win ks n=win ks 1:=by
 have h1:1<2*ks.length:=by omega
 exact zjN hn h (zco (by decide) h1) hu fun i hi _ hne=>zcp (by decide) h1 hi (zdV hi) hne
theorem ztt (ks:List (List Nat)) (n c s:Nat) (x:List Nat) (hn:1≤n) (h:n<ks.length) (hc:(c=2*n∧s=2*n+1)∨(c=2*n+1∧s=2*n)) (hu:under ks.length c (win ks 1)):los ks n=win (ks.set (win ks 1) x) s:=by
 have hs : ¬ under ks.length s (win ks 1):=fun e=>by
  rcases hc with ⟨rfl,rfl⟩ | ⟨rfl,rfl⟩
  ·exact zcI hn hu e
  ·exact zcI hn e hu
 rw [ziX ks _ s x (by omega) (by omega) hs]
 have hcw:=zpx ks c (by omega) (by omega) hu
 have hsu:=zbQ (ks:=ks) (n:=s) (by omega) (by omega)
 have hne:win ks s≠win ks 1:=fun e=>hs (e ▸ hsu)
 have hb:beatsP ks (win ks 1) (win ks s)=true:=zcp (by decide) (by omega) (zco (by omega) (by omega)) (zdV (zco (by omega) (by omega))) hne
 unfold los
 rcases hc with ⟨rfl,rfl⟩ | ⟨rfl,rfl⟩
 ·rw [hcw,zcH _ _ _ hb];simp
 ·rw [hcw,hb];simp
theorem game (ks:List (List Nat)) (n c s:Nat) (hn:1≤n) (h:n<ks.length) (hc:(c=2*n∧s=2*n+1)∨(c=2*n+1∧s=2*n)) :
  (beatsP ks (win ks s) (win ks c)=true→win ks n=win ks s∧los ks n=win ks c)∧(beatsP ks (win ks s) (win ks c)=false→win ks n=win ks c∧los ks n=win ks s):=by
 have hne:=ztn hn h
 rw [zjM ks n hn h];unfold los
 rcases hc with ⟨rfl,rfl⟩ | ⟨rfl,rfl⟩
 ·constructor <;> intro hb <;> rw [hb] <;> simp
 ·rw [zhH ks _ _ (Ne.symm hne)]
  constructor <;> intro hb
  ·have:beatsP ks (win ks (2*n+1)) (win ks (2*n))=false:=by simpa using hb
   rw [this];simp
  ·have:beatsP ks (win ks (2*n+1)) (win ks (2*n))=true:=by simpa using hb
   rw [this];simp
structure RepI (ks:List (List Nat)) (x:List Nat) (c:Nat) (tr:List Int):Prop where
  len:tr.length=ks.length
  old:∀ m,1≤m→m<ks.length→under ks.length m (win ks 1)→m<c→tr[m]?=some (los ks m:Int)
  new:∀ m,1≤m→m<ks.length → ¬ (under ks.length m (win ks 1)∧m<c)→tr[m]?=some (los (ks.set (win ks 1) x) m:Int)
  at_:1≤c∧c<2*ks.length∧under ks.length c (win ks 1)
theorem zdc (ks:List (List Nat)) (m:Nat) (h1:1≤m) (h:m<ks.length):(treeOf ks)[m]?=some (los ks m:Int):=by
 simp [treeOf,h];omega
theorem zb3 (ks:List (List Nat)) (h:1≤ks.length):(treeOf ks)[0]?=some (win ks 1:Int):=by
 have:0<ks.length:=by omega
 simp [treeOf,this]
theorem RepI.start (ks:List (List Nat)) (x:List Nat) (h:1≤ks.length):RepI ks x (ks.length+win ks 1) (treeOf ks):=by
 have hw:=zco (ks:=ks) (n:=1) (by decide) (by omega)
 refine ⟨zaW ks,fun m h1 h2 _ _=>zdc ks m h1 h2,fun m h1 h2 hn=>?_,by omega,by omega,⟨0,by simp⟩⟩
 rw [zdc ks m h1 h2,zrJ ks _ m x h1 h2 (fun e=>hn ⟨e,by omega⟩)]
theorem RepI.sib {ks:List (List Nat)} {x:List Nat} {c:Nat} {tr:List Int} (h:RepI ks x c tr) (hn:1≤c / 2) :
  ∃ s,((c=2*(c / 2)∧s=2*(c / 2)+1)∨(c=2*(c / 2)+1∧s=2*(c / 2)))∧tr[c / 2]?=some (win (ks.set (win ks 1) x) s:Int)∧c / 2<ks.length∧s<2*ks.length∧1≤s:=by
 obtain ⟨h1,h2,h3⟩:=h.at_
 have hk:c / 2<ks.length:=by omega
 have hu:under ks.length (c / 2) (win ks 1):=by obtain ⟨j,hj⟩:=h3;exact ⟨j+1,by rw [zbP,hj]⟩
 have hs:∃ s,(c=2*(c / 2)∧s=2*(c / 2)+1)∨(c=2*(c / 2)+1∧s=2*(c / 2)):=by
  rcases Nat.mod_two_eq_zero_or_one c with e | e
  ·exact ⟨_,.inl ⟨by omega,rfl⟩⟩
  ·exact ⟨_,.inr ⟨by omega,rfl⟩⟩
 obtain ⟨s,hs⟩:=hs
 refine ⟨s,hs,?_,hk,by omega,by omega⟩
 rw [h.old (c / 2) hn hk hu (by omega),ztt ks (c / 2) c s x hn hk hs h3]
theorem RepI.step {ks:List (List Nat)} {x:List Nat} {c:Nat} {tr:List Int} (h:RepI ks x c tr) (hn:1≤c / 2):RepI ks x (c / 2) (tr.set (c / 2) (los (ks.set (win ks 1) x) (c / 2):Int)):=by
 obtain ⟨h1,h2,h3⟩:=h.at_
 have hk:c / 2<ks.length:=by omega
 have hu:under ks.length (c / 2) (win ks 1):=by obtain ⟨j,hj⟩:=h3;exact ⟨j+1,by rw [zbP,hj]⟩
 refine ⟨by rw [List.length_set];exact h.len,fun m q1 q2 q3 q4=>?_,fun m q1 q2 q3=>?_,hn,by omega,hu⟩
 ·rw [List.getElem?_set_ne (by omega)];exact h.old m q1 q2 q3 (by omega)
 ·by_cases e:c / 2=m
  ·subst e;rw [List.getElem?_set_self (by rw [h.len];exact hk)]
  ·rw [List.getElem?_set_ne e]
   refine h.new m q1 q2 fun ⟨r1,r2⟩=>?_
   have:=zfn h3 r1 r2
   exact q3 ⟨r1,by omega⟩
theorem RepI.done {ks:List (List Nat)} {x:List Nat} {tr:List Int} (h:RepI ks x 1 tr) (hk:1≤ks.length):tr.set 0 (win (ks.set (win ks 1) x) 1:Int)=treeOf (ks.set (win ks 1) x):=by
 have hl:(ks.set (win ks 1) x).length=ks.length:=List.length_set
 apply List.ext_getElem?
 intro m
 by_cases hm:m<ks.length
 ·cases m with
  | zero=>rw [List.getElem?_set_self (by rw [h.len];omega),zb3 _ (by rw [hl];exact hk)]
  | succ m=>rw [List.getElem?_set_ne (by omega),h.new (m+1) (by omega) hm (fun e=>by omega),zdc _ _ (by omega) (by rw [hl];exact hm)]
 ·rw [List.getElem?_eq_none (by rw [List.length_set,h.len];omega),List.getElem?_eq_none (by rw [zaW,hl];omega)]
structure GroI (ks:List (List Nat)) (n:Nat) (ws tr:List Int):Prop where
  wl:ws.length=2*ks.length
  tl:tr.length=ks.length
  win_:∀ m,n<m→m<2*ks.length→ws[m]?=some (win ks m:Int)
  los_:∀ m,n<m→1≤m→m<ks.length→tr[m]?=some (los ks m:Int)
  zero:tr[0]?=some 0∨ks.length=0
theorem GroI.step {ks:List (List Nat)} {n:Nat} {ws tr:List Int} (h:GroI ks n ws tr) (hn:1≤n) (hk:n<ks.length):GroI ks (n-1) (ws.set n (win ks n:Int)) (tr.set n (los ks n:Int)):=by
 refine ⟨by simp [h.wl],by simp [h.tl],fun m q1 q2=>?_,fun m q1 q2 q3=>?_,?_⟩
 ·by_cases e:n=m
  ·subst e;rw [List.getElem?_set_self (by rw [h.wl];omega)]
  ·rw [List.getElem?_set_ne e];exact h.win_ m (by omega) q2
 ·by_cases e:n=m
  ·subst e;rw [List.getElem?_set_self (by rw [h.tl];omega)]
  ·rw [List.getElem?_set_ne e];exact h.los_ m (by omega) q2 q3
 ·rw [List.getElem?_set_ne (by omega)];exact h.zero
theorem GroI.done {ks:List (List Nat)} {ws tr:List Int} (h:GroI ks 0 ws tr) (hk:1<ks.length):tr.set 0 (win ks 1:Int)=treeOf ks:=by
 apply List.ext_getElem?
 intro m
 by_cases hm:m<ks.length
 ·cases m with
  | zero=>rw [List.getElem?_set_self (by rw [h.tl];omega),zb3 _ (by omega)]
  | succ m=>rw [List.getElem?_set_ne (by omega),h.los_ (m+1) (by omega) (by omega) hm,zdc _ _ (by omega) hm]
 ·rw [List.getElem?_eq_none (by rw [List.length_set,h.tl];omega),List.getElem?_eq_none (by rw [zaW];omega)]
theorem GroI.done1 {ks:List (List Nat)} {ws tr:List Int} (h:GroI ks 0 ws tr) (hk:ks.length≤1):tr=treeOf ks:=by
 apply List.ext_getElem?
 intro m
 by_cases hm:m<ks.length
 ·obtain rfl:m=0:=by omega
  rw [zb3 _ (by omega),zeP _ _ (by omega),show 1-ks.length=0 from by omega]
  rcases h.zero with q | q
  ·exact q
  ·omega
 ·rw [List.getElem?_eq_none (by rw [h.tl];omega),List.getElem?_eq_none (by rw [zaW];omega)]
end Loser
end
section
open Go.RowKit
open Mv Num Loser
set_option maxRecDepth 4000
def treeB (hk ht:Value):Blk:=⟨244,[hk,ht],2⟩
def intB (l:List Int) (c:Nat):Blk:=⟨3,l.map (fun x=>Value.int .i64 x),c⟩
theorem zne (ks:List (List Nat)) (a b:Nat) (hx:key ks a ≠ []) (hy:key ks b ≠ []):beatsP ks a b=(decide (cmpB (key ks a) (key ks b)<0) || (decide (cmpB (key ks a) (key ks b)=0) && decide (a<b))):=by
 unfold beatsP
 rw [ziy]
 have h1:kLess (key ks a) (key ks b)=lessB (key ks a) (key ks b):=by
  generalize key ks a=x at *;generalize key ks b=y at *
  cases x with
  | nil=>exact absurd rfl hx
  | cons _ _=>cases y with
   | nil=>exact absurd rfl hy
   | cons _ _=>rfl
 have h2:∀ x y:List Nat,cmpB x y=0 ↔ x=y:=by
  intro x
  induction x with
  | nil=>intro y;cases y <;> simp [cmpB]
  | cons a x ih =>
   intro y
   cases y with
   | nil=>simp [cmpB]
   | cons b y =>
    simp only [cmpB]
    split
    ·simp;omega
    ·split
     ·simp;omega
     ·rw [ih];simp;omega
 rw [h1]
 congr 1;congr 1;rw [Bool.eq_iff_iff];simp [h2]
set_option maxHeartbeats 1000000 in
theorem zf5 (p:Nat) (hk ht:Value) (ks:List (List Nat)) (a b:Nat) (S:Mem) (hp:S.own p=some (treeB hk ht)) (hks:SlOf RowR S hk ks) (ha:a<ks.length) (hb:b<ks.length) :
  ACall Tryz.prog 202 #[.pointer (some ⟨p,0,none⟩),.int .i64 a,.int .i64 b] S fun r S'=>r = .bool (beatsP ks a b)∧S'=S:=by
 unfold treeB at hp
 obtain ⟨hs,hsl,⟨pa,ca,rfl,h1,h2,h3⟩,hse⟩:=hks
 obtain ⟨b0,off,rfl,hkn⟩:=h3.resolve_left (by intro h;rw [h] at hsl;simp at hsl;omega)
 have hka:=hkn a (by omega)
 have hkb:=hkn b (by omega)
 have hra:=hse a ha (by omega)
 have hrb:=hse b hb (by omega)
 rw [← zcf ks a ha] at hra
 rw [← zcf ks b hb] at hrb
 have hcmp:=zne ks a b
 have hb1:key ks a = []→key ks b = []→beatsP ks a b=decide (a<b):=fun h1 h2=>by unfold beatsP;rw [h1,h2];simp [kLess]
 have hb2:key ks a = []→key ks b ≠ []→beatsP ks a b=false:=fun h1 h2=>by
  unfold beatsP;rw [h1]
  have:decide ([]=key ks b)=false:=decide_eq_false (Ne.symm h2)
  rw [this];simp [kLess]
 have hb3:key ks a ≠ []→key ks b = []→beatsP ks a b=true:=fun h1 h2=>by
  unfold beatsP;rw [h2]
  cases h:key ks a with
  | nil=>exact absurd h h1
  | cons _ _=>rfl
 have hlt:decide ((a:Int)<(b:Int))=decide (a<b):=by rw [Bool.eq_iff_iff];simp
 have lz:∀ l:List Nat,l.length=0 ↔ l = []:=fun l=>List.length_eq_zero_iff
 generalize key ks a=x at *
 generalize key ks b=y at *
 obtain ⟨ga,hga⟩ : ∃ g,g=hs[a]:=⟨_,rfl⟩
 obtain ⟨gb,hgb⟩ : ∃ g,g=hs[b]:=⟨_,rfl⟩
 rw [← hga] at hka hra
 rw [← hgb] at hkb hrb
 obtain ⟨qa,da,rfl,xa1,xa2,_⟩:=id hra
 obtain ⟨qb,db,rfl,xb1,xb2,_⟩:=id hrb
 by_cases hx:x.length=0
 ·by_cases hy:y.length=0
  ·rw [hb1 ((lz x).1 hx) ((lz y).1 hy)]
   refine k_E3 (rs:=[.tmp 6]) 60 Tryz.func202 rfl rfl rfl ?_
   refine r6_ ?_
   refine AWP.draw [(0,true),(1,true),(2,true),(3,true),(4,true),(5,true),(6,true),(7,true),(8,true),(9,true),(10,true),(11,true),(12,true),(13,true),(14,true),(15,true),(16,true),(17,true)] [] mixed (by kernel_rfl) ?_
   refine r35_ ?_
   refine cT_ ?_
   refine r4_ ?_
   refine rC (Calm.bin rfl rfl (zag (zbc _ _) hlt)) ?_
   refine r6_ ?_
   refine ⟨_,S,⟨_,_,rfl,rfl,rfl⟩,zad,?_⟩
   exact ⟨rfl,rfl⟩
  ·rw [hb2 ((lz x).1 hx) (fun e=>hy ((lz y).2 e))]
   refine k_E3 (rs:=[.tmp 6]) 60 Tryz.func202 rfl rfl rfl ?_
   refine r6_ ?_
   refine AWP.draw [(0,true),(1,true),(2,true),(3,true),(4,true),(5,true),(6,true),(7,true),(8,true),(9,true),(10,true),(11,true),(12,true),(13,true),(14,true),(15,true),(16,true),(17,true)] [] mixed (by kernel_rfl) ?_
   refine r35_ ?_
   refine k_v7 0 1 2 6 7 8 26 ?_
   refine cF_ ?_
   refine r13_ ?_
   refine cT_ ?_
   refine r11_ ?_
   refine ⟨_,S,⟨_,_,rfl,rfl,rfl⟩,zad,?_⟩
   exact ⟨rfl,rfl⟩
 ·by_cases hy:y.length=0
  ·rw [hb3 (fun e=>hx ((lz x).2 e)) ((lz y).1 hy)]
   refine k_E3 (rs:=[.tmp 6]) 60 Tryz.func202 rfl rfl rfl ?_
   refine r6_ ?_
   refine AWP.draw [(0,true),(1,true),(2,true),(3,true),(4,true),(5,true),(6,true),(7,true),(8,true),(9,true),(10,true),(11,true),(12,true),(13,true),(14,true),(15,true),(16,true),(17,true)] [] mixed (by kernel_rfl) ?_
   refine r35_ ?_
   refine cF_ ?_
   refine r13_ ?_
   refine k_v8 0 1 2 6 7 8 26 38 ?_
   refine cT_ ?_
   refine r11_ ?_
   refine ⟨_,S,⟨_,_,rfl,rfl,rfl⟩,zad,?_⟩
   exact ⟨rfl,rfl⟩
  ·rw [hcmp (fun e=>hx ((lz x).2 e)) (fun e=>hy ((lz y).2 e))]
   by_cases hc:cmpB x y=0
   ·have hc0:=hc
    refine k_E3 (rs:=[.tmp 6]) 60 Tryz.func202 rfl rfl rfl ?_
    refine r6_ ?_
    refine AWP.draw [(0,true),(1,true),(2,true),(3,true),(4,true),(5,true),(6,true),(7,true),(8,true),(9,true),(10,true),(11,true),(12,true),(13,true),(14,true),(15,true),(16,true),(17,true)] [] mixed (by kernel_rfl) ?_
    refine r35_ ?_
    refine cF_ ?_
    refine r13_ ?_
    refine cF_ ?_
    refine r8_ ?_
    refine ca_ rfl (zcY x y _ _ S hra hrb) ?_
    rintro _ S1 ⟨rfl,h1⟩
    rw [h1];clear h1 S1
    refine r3_ ?_
    refine k_v9 0 1 2 6 7 8 26 38 9 ?_
    refine r6_ ?_
    refine cF_ ?_
    refine r6_ ?_
    refine rC (Calm.bin rfl rfl (zag (zbc _ _) hlt)) ?_
    refine r4_ ?_
    refine ⟨_,S,⟨_,_,rfl,rfl,rfl⟩,zad,?_⟩
    exact ⟨by rw [hc];rfl,rfl⟩
   ·have hc0:=hc
    refine k_E3 (rs:=[.tmp 6]) 60 Tryz.func202 rfl rfl rfl ?_
    refine r6_ ?_
    refine AWP.draw [(0,true),(1,true),(2,true),(3,true),(4,true),(5,true),(6,true),(7,true),(8,true),(9,true),(10,true),(11,true),(12,true),(13,true),(14,true),(15,true),(16,true),(17,true)] [] mixed (by kernel_rfl) ?_
    refine r35_ ?_
    refine cF_ ?_
    refine r13_ ?_
    refine k_v8 0 1 2 6 7 8 26 38 ?_
    refine cF_ ?_
    refine r8_ ?_
    refine ca_ rfl (zcY x y _ _ S hra hrb) ?_
    rintro _ S1 ⟨rfl,h1⟩
    rw [h1];clear h1 S1
    refine r9_ ?_
    refine cT_ ?_
    refine r9_ ?_
    refine ⟨_,S,⟨_,_,rfl,rfl,rfl⟩,zad,?_⟩
    exact ⟨by simp [Mv.one,hc],rfl⟩
theorem znf (n m:Nat) (h:m<n):(List.replicate n (0:Int))[m]?=some 0:=by simp [h]
set_option maxRecDepth 10000 in
set_option maxHeartbeats 4000000 in
theorem zng (p:Nat) (hk ht:Value) (ks:List (List Nat)) (S:Mem) (hf:Fresh S p) (hks:SlOf RowR S hk ks) (hl1:1≤ks.length) (hl2:ks.length≤256) :
  ACall Tryz.prog 201 #[.pointer (some ⟨p,0,none⟩)] (S.set p (treeB hk ht)) fun r S'=>∃ q,Fresh S q∧q≠p∧S'=(S.set q (intB (treeOf ks) ks.length)).set p (treeB hk (.slice (some ⟨q,0,none⟩) ks.length ks.length)):=by
 unfold treeB intB
 obtain ⟨pa,ca,rfl⟩ : ∃ pa ca,hk = .slice pa ks.length ca:=by
  obtain ⟨hs,hsl,⟨pa,ca,e,_⟩,_⟩:=id hks
  exact ⟨pa,ca,by rw [e,hsl]⟩
 refine k_E1 (rs:=[]) 80 Tryz.func201 rfl rfl rfl ?_
 refine r15_ ?_
 refine ARun.makeSlice (zab rfl) zb6 rfl rfl (by omega) (by omega) (by omega) (by omega) ?_
 intro b16 f16
 have g16:=f16
 repeat ((with_reducible replace g16:=zaa g16);obtain ⟨g16,_⟩:=g16)
 refine r6_ ?_
 simp only [Nat.mul_one,za8,Int.toNat_natCast]
 refine r4_ ?_
 refine ARun.makeSlice (zab rfl) zb6 rfl rfl (by omega) (by omega) (by omega) (by omega) ?_
 intro b22 f22
 have g22:=f22
 repeat ((with_reducible replace g22:=zaa g22);obtain ⟨g22,_⟩:=g22)
 refine r3_ ?_
 have em2:(2*(ks.length:Int)).toNat=2*ks.length:=by omega
 simp only [Nat.mul_one,za8,em2]
 have hz:∀ n,List.replicate n (Value.int .i64 0)=(List.replicate n (0:Int)).map fun x=>Value.int .i64 x:=fun n=>by simp
 rw [hz,hz]
 refine r8_ ?_
 refine AWP.loop (X:=Nat × List Int) (fun x=>[(0,.pointer (some ⟨p,0,none⟩)),(2,.int .i64 ks.length),(3,.slice (some ⟨b22,0,none⟩) (2*ks.length) (2*ks.length)),(23,.int .i64 ks.length),(24,.int .i64 x.1)]) (fun x=>((S.set b16 ⟨3,(List.replicate ks.length (0:Int)).map (fun x=>Value.int .i64 x),ks.length⟩).set b22 ⟨3,x.2.map (fun x=>Value.int .i64 x),2*ks.length⟩).set p ⟨244,[.slice pa ks.length ca,.slice (some ⟨b16,0,none⟩) ks.length ks.length],2⟩) (fun x=>x.1≤ks.length∧x.2.length=2*ks.length ∧ ∀ m,ks.length≤m→m<ks.length+x.1→x.2[m]?=some ((m-ks.length:Nat):Int)) (fun x=>ks.length-x.1) ((0,List.replicate (2*ks.length) (0:Int))) ⟨rfl,rfl,rfl,rfl,rfl,trivial⟩ zad (⟨Nat.zero_le _,by simp,fun m h1 h2=>by omega⟩) ?_
 rintro ⟨i,ws⟩ ⟨hi,hwl,hw⟩
 (try dsimp only at *)
 refine r6_ ?_
 refine AWP.condB rfl (fun hil=>?_) (fun hil=>?_)
 ·have hil:i<ks.length:=by have:=of_decide_eq_true hil;omega
  have eki:((ks.length:Int)+(i:Int)).toNat=ks.length+i:=by omega
  refine r21_ ?_
  refine k_v7 0 2 3 23 24 25 4 ?_
  simp only [Nat.zero_add,Nat.mul_one,eki,zbW]
  refine r5_ ?_
  refine ⟨(i+1,ws.set (ks.length+i) (i:Int)),?_,?_,?_,?_⟩
  all_goals (try dsimp only)
  ·exact ⟨rfl,rfl,rfl,rfl,rfl,trivial⟩
  ·exact zad
  ·exact ⟨hil,by rw [List.length_set];exact hwl,fun m h1 h2=>by by_cases e:ks.length+i=m;(subst e;rw [List.getElem?_set_self (by omega)];simp);(rw [List.getElem?_set_ne e];exact hw m h1 (by omega))⟩
  ·omega
 ·have hil:i=ks.length:=by have:=of_decide_eq_false hil;omega
  have hG:GroI ks (ks.length-1) ws (List.replicate ks.length (0:Int)):=⟨hwl,by simp,fun m h1 h2=>by rw [hw m (by omega) (by omega),zeP ks m (by omega)],fun m h1 h2 h3=>by omega,.inl (znf _ 0 (by omega))⟩
  refine r14_ ?_
  refine AWP.loop (X:=Nat × List Int × List Int) (fun x=>[(0,.pointer (some ⟨p,0,none⟩)),(2,.int .i64 ks.length),(3,.slice (some ⟨b22,0,none⟩) (2*ks.length) (2*ks.length)),(5,.int .i64 x.1)]) (fun x=>((S.set b16 ⟨3,x.2.2.map (fun x=>Value.int .i64 x),ks.length⟩).set b22 ⟨3,x.2.1.map (fun x=>Value.int .i64 x),2*ks.length⟩).set p ⟨244,[.slice pa ks.length ca,.slice (some ⟨b16,0,none⟩) ks.length ks.length],2⟩) (fun x=>x.1<ks.length∧GroI ks x.1 x.2.1 x.2.2) (fun x=>x.1) ((ks.length-1,ws,List.replicate ks.length (0:Int))) ⟨rfl,rfl,rfl,zai (by omega),trivial⟩ zad (⟨by omega,hG⟩) ?_
  rintro ⟨n,vs,tr⟩ ⟨hn,hI⟩
  (try dsimp only at *)
  have hvl:=hI.wl
  have htl:=hI.tl
  by_cases hn1:1≤n
  ·refine r7_ ?_
   refine cT_ ?_
   have k1:=zgY (S:=((S.set b16 ⟨3,tr.map (fun x=>Value.int .i64 x),ks.length⟩).set b22 ⟨3,vs.map (fun x=>Value.int .i64 x),2*ks.length⟩).set p ⟨244,[.slice pa ks.length ca,.slice (some ⟨b16,0,none⟩) ks.length ks.length],2⟩) (b:=b22) own_ (2*n) (hI.win_ (2*n) (by omega) (by omega))
   have k2:=zgY (S:=((S.set b16 ⟨3,tr.map (fun x=>Value.int .i64 x),ks.length⟩).set b22 ⟨3,vs.map (fun x=>Value.int .i64 x),2*ks.length⟩).set p ⟨244,[.slice pa ks.length ca,.slice (some ⟨b16,0,none⟩) ks.length ks.length],2⟩) (b:=b22) own_ (2*n+1) (hI.win_ (2*n+1) (by omega) (by omega))
   have hw1:=zco (ks:=ks) (n:=2*n) (by omega) (by omega)
   have hw2:=zco (ks:=ks) (n:=2*n+1) (by omega) (by omega)
   have hg:=game ks n (2*n) (2*n+1) hn1 hn (.inl ⟨rfl,rfl⟩)
   refine r5_ ?_
   refine AWP.draw [(0,true),(1,true),(2,true),(3,true),(4,true),(5,true),(6,true),(7,true),(8,true),(9,true),(10,true),(11,true),(12,true)] [] mixed (by kernel_rfl) ?_
   refine r21_ ?_
   refine ca_ rfl (zf5 p _ _ ks _ _ _ own_ (hks.less zbN zad) hw2 hw1) ?_
   rintro _ S1 ⟨rfl,h1⟩
   rw [h1];clear h1 S1
   refine r2_ ?_
   rcases Bool.eq_false_or_eq_true (beatsP ks (win ks (2*n+1)) (win ks (2*n))) with hb | hb
   ·obtain ⟨e1,e2⟩:=hg.1 hb
    refine AWP.condT rfl (hb) ?_
    refine r7_ ?_
    refine k_v8 0 2 3 5 37 6 7 54 ?_
    refine r18_ ?_
    simp only [Nat.zero_add,Nat.mul_one,Int.toNat_natCast,zbW]
    rw [← e1,← e2]
    refine r6_ ?_
    refine ⟨(n-1,vs.set n (win ks n:Int),tr.set n (los ks n:Int)),?_,?_,?_,?_⟩
    all_goals (try dsimp only)
    ·exact ⟨rfl,rfl,rfl,zai (by omega),trivial⟩
    ·exact zad
    ·exact ⟨by omega,hI.step hn1 hn⟩
    ·omega
   ·obtain ⟨e1,e2⟩:=hg.2 hb
    refine AWP.condF rfl (hb) ?_
    refine r20_ ?_
    simp only [Nat.zero_add,Nat.mul_one,Int.toNat_natCast,zbW]
    rw [← e1,← e2]
    refine r6_ ?_
    refine ⟨(n-1,vs.set n (win ks n:Int),tr.set n (los ks n:Int)),?_,?_,?_,?_⟩
    all_goals (try dsimp only)
    ·exact ⟨rfl,rfl,rfl,zai (by omega),trivial⟩
    ·exact zad
    ·exact ⟨by omega,hI.step hn1 hn⟩
    ·omega
  ·obtain rfl:n=0:=by omega
   refine r7_ ?_
   refine cF_ ?_
   by_cases hk1:1<ks.length
   ·refine r11_ ?_
    refine cT_ ?_
    have k1:=zgY (S:=((S.set b16 ⟨3,tr.map (fun x=>Value.int .i64 x),ks.length⟩).set b22 ⟨3,vs.map (fun x=>Value.int .i64 x),2*ks.length⟩).set p ⟨244,[.slice pa ks.length ca,.slice (some ⟨b16,0,none⟩) ks.length ks.length],2⟩) (b:=b22) own_ 1 (hI.win_ 1 (by omega) (by omega))
    refine AWP.draw [(0,true),(1,true),(2,true),(3,true),(4,true),(5,true),(6,true),(7,true),(8,true),(9,false)] [9] mixed (by kernel_rfl) ?_
    refine r9_ ?_
    refine zac rfl ?_
    refine s1_ ?_
    refine zae ⟨fun h=>absurd h (by decide),?_⟩
    refine s1_ ?_
    simp only [Nat.zero_add,Nat.mul_one,Int.toNat_zero,zbW,hI.done hk1]
    refine ⟨_,(S.set b16 ⟨3,(treeOf ks).map (fun x=>Value.int .i64 x),ks.length⟩).set p ⟨244,[.slice pa ks.length ca,.slice (some ⟨b16,0,none⟩) ks.length ks.length],2⟩,rfl,zad,?_⟩
    exact ⟨b16,g16,by assumption,rfl⟩
   ·refine r11_ ?_
    refine k_v6 0 2 3 5 37 70 ?_
    refine cF_ ?_
    rw [hI.done1 (by omega)]
    refine s1_ ?_
    refine ⟨_,(S.set b16 ⟨3,(treeOf ks).map (fun x=>Value.int .i64 x),ks.length⟩).set p ⟨244,[.slice pa ks.length ca,.slice (some ⟨b16,0,none⟩) ks.length ks.length],2⟩,rfl,zad,?_⟩
    exact ⟨b16,g16,by assumption,rfl⟩
theorem zrK (hk:Value) (ks:List (List Nat)) (S:Mem) (hks:SlOf RowR S hk ks) (hl1:1≤ks.length) (hl2:ks.length≤256) :
  ACall Tryz.prog 151 #[hk] S fun r S'=>∃ p q,Fresh S p∧Fresh S q∧q≠p∧r = .pointer (some ⟨p,0,none⟩)∧S'=(S.set q (intB (treeOf ks) ks.length)).set p (treeB hk (.slice (some ⟨q,0,none⟩) ks.length ks.length)):=by
 obtain ⟨pa,ca,rfl⟩ : ∃ pa ca,hk = .slice pa ks.length ca:=by
  obtain ⟨hs,hsl,⟨pa,ca,e,_⟩,_⟩:=id hks
  exact ⟨pa,ca,by rw [e,hsl]⟩
 refine k_E1 (rs:=[.tmp 2]) 11 Tryz.func151 rfl rfl rfl ?_
 refine r10_ ?_
 refine ARun.boxA (cs:=[_,_]) (zab rfl) rfl ?_
 intro b7 f7
 have g7:=f7
 repeat ((with_reducible replace g7:=zaa g7);obtain ⟨g7,_⟩:=g7)
 refine nl_ ?_
 refine r6_ ?_
 refine ca_ rfl (zng b7 _ _ ks S g7 hks hl1 hl2) ?_
 rintro _ S1 ⟨q,hq1,hq2,h1⟩
 rw [h1];clear h1 S1
 refine r9_ ?_
 refine ⟨_,_,⟨_,_,rfl,rfl,rfl⟩,Mem.Less.refl _,?_⟩
 exact ⟨b7,q,g7,hq1,hq2,rfl,rfl⟩
/-! ### Copies, and lists that are held against each other -/
end
section
open Go.RowKit
open Mv Num Loser
set_option maxRecDepth 4000
/-! ### Plain answers -/
namespace Loser
end Loser
def LoV (S:Mem) (hk ht:Value) (ks:List (List Nat)) (tr:List Int):Prop:=SlOf RowR S hk ks∧Sl 1 i64s S ht tr
theorem zrL {S:Mem} {q:Nat} {l:List Int} {c len:Nat} (h:S.own q=some (intB l c)) (hl:l.length=len) (hc:len≤c) (hm:len≤9223372036854775807):Sl 1 i64s S (.slice (some ⟨q,0,none⟩) len c) l :=
 Sl.own1 (g:=fun x:Int=>Value.int .i64 x) h List.prefix_rfl hl hc hm
end
section
open Go.RowKit
open Mv Num Loser
set_option maxRecDepth 4000
theorem zpy (ks:List (List Nat)) (h:0<(treeOf ks).length):(treeOf ks)[0]=(win ks 1:Int):=by
 have h1:=zb3 ks (by rw [zaW] at h;omega)
 rw [List.getElem?_eq_getElem h] at h1
 exact Option.some.inj h1
set_option maxHeartbeats 1000000 in
theorem zpz (p:Nat) (hk ht:Value) (ks:List (List Nat)) (S:Mem) (hp:S.own p=some (treeB hk ht)) (hl:LoV S hk ht ks (treeOf ks)) (h1:1≤ks.length) :
  ACall Tryz.prog 152 #[.pointer (some ⟨p,0,none⟩)] S fun r S'=>r = .tuple #[.int .i64 (win ks 1:Nat),.bool (decide (key ks (win ks 1) ≠ []))]∧S'=S:=by
 unfold treeB at hp
 have hw:=zco (ks:=ks) (n:=1) (by decide) (by omega)
 have htl:=zaW ks
 obtain ⟨hks,hts⟩:=hl
 obtain ⟨gs,hgl,hga,hge⟩:=hks
 obtain ⟨pa,ca,rfl,a1,a2,a3⟩:=id hga
 obtain ⟨pt,ct,rfl,t1,t2,t3⟩:=id hts
 obtain ⟨b0,off,rfl,_⟩:=a3.resolve_left (by intro h;rw [h] at hgl;simp at hgl;omega)
 obtain ⟨bt,offt,rfl,_⟩:=t3.resolve_left (by intro h;rw [h] at htl;simp at htl;omega)
 have k0:=hts.at1 0 (by omega)
 rw [zpy ks (by omega)] at k0
 unfold i64s at k0
 have k1:=hga.at1 (win ks 1) (by omega)
 have hr:=hge (win ks 1) hw (by omega)
 rw [← zcf ks _ hw] at hr
 obtain ⟨g,hg⟩ : ∃ g,g=gs[win ks 1]:=⟨_,rfl⟩
 rw [← hg] at k1 hr
 obtain ⟨qa,da,rfl,x1,x2,_⟩:=hr
 have hd:decide ((0:Int)<((key ks (win ks 1)).length:Int))=decide (key ks (win ks 1) ≠ []):=by
  rw [Bool.eq_iff_iff];simp only [decide_eq_true_eq,ne_eq,← List.length_eq_zero_iff];omega
 refine k_E1 (rs:=[.tmp 2,.tmp 3]) 23 Tryz.func152 rfl rfl rfl ?_
 refine r19_ ?_
 refine AWP.draw [(0,true),(1,true),(2,true),(3,true),(4,true),(5,true),(6,true),(7,true),(8,true),(9,true),(10,true),(11,true),(12,true)] [] mixed (by kernel_rfl) ?_
 refine r10_ ?_
 refine dP (hc:=fun _=>Calm.bin rfl rfl (zag (zf_ _ _) hd)) (h:=?_)
 refine r5_ ?_
 refine ⟨_,S,⟨_,_,rfl,⟨_,_,rfl,rfl,rfl⟩,rfl⟩,zad,?_⟩
 exact ⟨rfl,rfl⟩
end
section
open Go.RowKit
open Mv Num Loser
set_option maxRecDepth 4000
theorem zpA {l:List Int} {n:Nat} {v:Int} (h:l[n]?=some v):l.set n v=l:=by
 apply List.ext_getElem?
 intro m
 by_cases e:n=m
 ·subst e
  have:=(List.getElem?_eq_some_iff.1 h).1
  rw [List.getElem?_set_self this,h]
 ·rw [List.getElem?_set_ne e]
def losM (M:Mem) (b q p:Nat) (hs:List Value) (tr:List Int) (k c:Nat):Mem :=
  ((M.set b ⟨22,hs,k⟩).set q ⟨3,tr.map (fun x=>Value.int .i64 x),c⟩).set p ⟨244,[.slice (some ⟨b,0,none⟩) k k,.slice (some ⟨q,0,none⟩) k c],2⟩
structure LosF (M:Mem) (b q p:Nat):Prop where
  fb:Fresh M b
  fq:Fresh M q
  fp:Fresh M p
  bq:b≠q
  bp:b≠p
  qp:q≠p
theorem zf6 {M:Mem} {b q p:Nat} {hs:List Value} {tr:List Int} {k c:Nat} (h:LosF M b q p):(losM M b q p hs tr k c).own b=some ⟨22,hs,k⟩:=by
 unfold losM;rw [Mem.own_set_other _ _ h.bp,Mem.own_set_other _ _ h.bq,Mem.own_set_same]
theorem zem {M:Mem} {b q p:Nat} {hs:List Value} {tr:List Int} {k c:Nat} (h:LosF M b q p):(losM M b q p hs tr k c).own q=some ⟨3,tr.map (fun x=>Value.int .i64 x),c⟩:=by
 unfold losM;rw [Mem.own_set_other _ _ h.qp,Mem.own_set_same]
theorem zen {M:Mem} {b q p:Nat} {hs:List Value} {tr:List Int} {k c:Nat}:(losM M b q p hs tr k c).own p=some (treeB (.slice (some ⟨b,0,none⟩) k k) (.slice (some ⟨q,0,none⟩) k c)):=Mem.own_set_same _ _ _
theorem zhO {M:Mem} {b q p:Nat} {hs:List Value} {tr:List Int} {k c:Nat} (h:LosF M b q p):M.Less (losM M b q p hs tr k c) :=
 (Mem.less_set _ _ _ h.fb.1).trans ((Mem.less_set _ _ _ (by rw [Mem.own_set_other _ _ (Ne.symm h.bq)];exact h.fq.1)).trans (Mem.less_set _ _ _ (by rw [Mem.own_set_other _ _ (Ne.symm h.qp),Mem.own_set_other _ _ (Ne.symm h.bp)];exact h.fp.1)))
theorem zhP {M:Mem} {b q p:Nat} {hs:List Value} {tr:List Int} {k c:Nat} {ks:List (List Nat)} (h:LosF M b q p) (hhl:hs.length=ks.length) (hk:k=ks.length) (hb:k≤256) (hr:∀ i (h:i<ks.length) (h':i<hs.length),RowR M hs[i] ks[i]):SlOf RowR (losM M b q p hs tr k c) (.slice (some ⟨b,0,none⟩) k k) ks:=by
 subst hk
 exact ⟨hs,hhl,Sl.own1 (g:=fun x:Value=>x) (r:=⟨_,hs,ks.length⟩) (zf6 h) (by simp) hhl (Nat.le_refl _) (by omega),fun i h1 h2=>zbN _ _ _ _ (hr i h1 h2) (zhO h)⟩
theorem zrM {M:Mem} {b q p:Nat} {hs:List Value} {tr:List Int} {k c:Nat} {ks:List (List Nat)} (h:LosF M b q p) (hhl:hs.length=ks.length) (hk:k=ks.length) (hb:k≤256) (htl:tr.length=k) (hc:k≤c) (hr:∀ i (h:i<ks.length) (h':i<hs.length),RowR M hs[i] ks[i]):LoV (losM M b q p hs tr k c) (.slice (some ⟨b,0,none⟩) k k) (.slice (some ⟨q,0,none⟩) k c) ks tr :=
 ⟨zhP h hhl hk hb hr,zrL (zem h) htl hc (by omega)⟩
theorem zpB {M:Mem} {hs:List Value} {ks:List (List Nat)} {w:Nat} {vx:Value} {x:List Nat} (hr:∀ i (h:i<ks.length) (h':i<hs.length),RowR M hs[i] ks[i]) (hx:RowR M vx x):∀ i (h:i<(ks.set w x).length) (h':i<(hs.set w vx).length),RowR M (hs.set w vx)[i] (ks.set w x)[i]:=fun i h h'=>by
 by_cases e:w=i
 ·subst e;simpa using hx
 ·rw [List.getElem_set_ne e,List.getElem_set_ne e];exact hr i (by simpa using h) (by simpa using h')
set_option maxHeartbeats 4000000 in
theorem zhQ (b q p:Nat) (ks:List (List Nat)) (hs:List Value) (k c:Nat) (x:List Nat) (vx:Value) (M:Mem) (hF:LosF M b q p) (hhl:hs.length=ks.length) (hk:k=ks.length) (hk1:1≤k) (hk2:k≤256) (hc:k≤c) (hr:∀ i (h:i<ks.length) (h':i<hs.length),RowR M hs[i] ks[i]) (hx:RowR M vx x) :
  ACall Tryz.prog 153 #[.pointer (some ⟨p,0,none⟩),vx] (losM M b q p hs (treeOf ks) k c) fun r S'=>S'=losM M b q p (hs.set (win ks 1) vx) (treeOf (ks.set (win ks 1) x)) k c:=by
 obtain ⟨pv,cv,rfl,xv1,xv2,_⟩:=id hx
 have hw:=zco (ks:=ks) (n:=1) (by decide) (by omega)
 have htl:=zaW ks
 have hksl:(ks.set (win ks 1) x).length=ks.length:=List.length_set
 have hhl':(hs.set (win ks 1) (.slice pv x.length cv)).length=(ks.set (win ks 1) x).length:=by simp [hhl]
 have hr':=zpB (w:=win ks 1) hr hx
 have hwl0:win (ks.set (win ks 1) x) (ks.length+win ks 1)=win ks 1:=by rw [zeP _ (ks.length+win ks 1) (by rw [hksl];omega),hksl];omega
 have nbq:=hF.bq;have nbp:=hF.bp;have nqp:=hF.qp
 have t0:=zgY (zem (hs:=hs) (tr:=treeOf ks) (k:=k) (c:=c) hF) 0 (zb3 ks (by omega))
 unfold losM at t0 ⊢
 refine k_E2 (rs:=[]) 68 Tryz.func153 rfl rfl rfl ?_
 refine r25_ ?_
 simp only [Nat.zero_add,Nat.mul_one,Int.toNat_natCast]
 refine r16_ ?_
 refine AWP.loop (X:=Nat × List Int) (fun y=>[(0,.pointer (some ⟨p,0,none⟩)),(4,.int .i64 (win (ks.set (win ks 1) x) y.1:Nat)),(5,.int .i64 (y.1 / 2:Nat))]) (fun y=>losM M b q p (hs.set (win ks 1) (.slice pv x.length cv)) y.2 k c) (fun y=>RepI ks x y.1 y.2) (fun y=>y.1) ((ks.length+win ks 1,treeOf ks)) ⟨rfl,zai (by simp only [hwl0]),zai (by omega),trivial⟩ (by unfold losM;exact zad) (RepI.start ks x (by omega)) ?_
 rintro ⟨nd,tr⟩ hI
 (try dsimp only at *)
 obtain ⟨a1,a2,a3⟩:=hI.at_
 have htrl:=hI.len
 have hsl:=zhP (tr:=tr) (c:=c) hF hhl' (by omega) hk2 hr'
 have hop:=zen (M:=M) (b:=b) (q:=q) (p:=p) (hs:=hs.set (win ks 1) (.slice pv x.length cv)) (tr:=tr) (k:=k) (c:=c)
 by_cases hn1:1≤nd / 2
 ·refine r7_ ?_
  refine cT_ ?_
  obtain ⟨s,hcs,hts,hs1,hs2,hs3⟩:=hI.sib hn1
  have hws:=zco (ks:=ks.set (win ks 1) x) (n:=s) (by omega) (by omega)
  have hwc:=zco (ks:=ks.set (win ks 1) x) (n:=nd) (by omega) (by omega)
  have hg:=game (ks.set (win ks 1) x) (nd / 2) nd s hn1 (by omega) hcs
  have hst:=hI.step hn1
  have kt:=zgY (zem (hs:=hs.set (win ks 1) (.slice pv x.length cv)) (tr:=tr) (k:=k) (c:=c) hF) (nd / 2) hts
  unfold losM at kt hop hsl ⊢
  refine r16_ ?_
  refine ca_ rfl (zf5 p _ _ (ks.set (win ks 1) x) _ _ _ hop hsl hws hwc) ?_
  rintro _ S1 ⟨rfl,h1⟩
  rw [h1];clear h1 S1
  refine r2_ ?_
  refine k_v5 0 4 5 31 44 ?_
  rcases Bool.eq_false_or_eq_true (beatsP (ks.set (win ks 1) x) (win (ks.set (win ks 1) x) s) (win (ks.set (win ks 1) x) nd)) with hb | hb
  ·obtain ⟨e1,e2⟩:=hg.1 hb
   refine AWP.condT rfl (hb) ?_
   refine AWP.draw [(0,true),(1,true),(2,true),(3,true),(4,true),(5,true),(6,true),(7,true),(8,true),(9,true),(10,true),(11,true),(12,true),(13,true),(14,true),(15,true),(16,true),(17,false)] [17] mixed (by kernel_rfl) ?_
   refine r17_ ?_
   refine zac rfl ?_
   refine s1_ ?_
   refine zae ⟨fun h=>absurd h (by decide),?_⟩
   refine r3_ ?_
   simp only [Nat.zero_add,Nat.mul_one,Int.toNat_natCast,zbW]
   refine r6_ ?_
   refine ⟨(nd / 2,tr.set (nd / 2) (los (ks.set (win ks 1) x) (nd / 2):Int)),?_,?_,?_,?_⟩
   all_goals (try dsimp only)
   ·exact ⟨rfl,zai (by rw [e1]),zai (by omega),trivial⟩
   ·rw [e2];exact zad
   ·exact hst
   ·omega
  ·obtain ⟨e1,e2⟩:=hg.2 hb
   rw [← e2] at hts
   rw [zpA hts] at hst
   refine AWP.condF rfl (hb) ?_
   refine r9_ ?_
   refine ⟨(nd / 2,tr),?_,?_,?_,?_⟩
   all_goals (try dsimp only)
   ·exact ⟨rfl,zai (by rw [e1]),zai (by omega),trivial⟩
   ·exact Mem.Less.refl _
   ·exact hst
   ·omega
 ·refine r7_ ?_
  refine cF_ ?_
  obtain rfl:nd=1:=by omega
  have hdn:=hI.done (by omega)
  unfold losM
  refine r15_ ?_
  simp only [Nat.zero_add,Nat.mul_one,Int.toNat_zero,zbW,hdn]
  refine ⟨_,losM M b q p (hs.set (win ks 1) (.slice pv x.length cv)) (treeOf (ks.set (win ks 1) x)) k c,rfl,(by unfold losM;exact zad),?_⟩
  rfl
end
section
open Go.RowKit
open Mv Num Loser
set_option maxRecDepth 4000
theorem ziY (x y:List Nat) (hx:x ≠ []) (hy:y ≠ []):kLess x y=lessB x y:=by
 cases x with
 | nil=>exact absurd rfl hx
 | cons _ _=>cases y with
  | nil=>exact absurd rfl hy
  | cons _ _=>rfl
end
section
open Go.RowKit
open Mv Num Loser
set_option maxRecDepth 4000
theorem ziZ (ks:List (List Nat)) (j:Nat) (hj:j<ks.length) (hk:key ks (win ks 1) ≠ []) (hx:ks[j] ≠ []) :
  lessB ks[j] (key ks (win ks 1))=false∧(lessB (key ks (win ks 1)) ks[j]=true∨(lessB (key ks (win ks 1)) ks[j]=false∧win ks 1≤j)):=by
 by_cases e:j=win ks 1
 ·rw [← zcf ks j hj,e]
  exact ⟨zbg _,.inr ⟨zbg _,Nat.le_refl _⟩⟩
 ·have hb:=zcp (ks:=ks) (n:=1) (by decide) (by omega) hj (zdV hj) e
  unfold beatsP at hb
  rw [← zcf ks j hj] at hx ⊢
  rw [ziY _ _ hk hx] at hb
  simp only [Bool.or_eq_true,Bool.and_eq_true,decide_eq_true_eq] at hb
  rcases hb with hb | ⟨hb,hb'⟩
  ·refine ⟨?_,.inl hb⟩
   cases h:lessB (key ks j) (key ks (win ks 1)) with
   | false=>rfl
   | true=>have:=zcG _ _ _ hb h;rw [zbg] at this;cases this
  ·rw [hb];exact ⟨zbg _,.inr ⟨zbg _,by omega⟩⟩
end
section
open Go.RowKit
open Mv Disk Num Loser
set_option maxRecDepth 4000
namespace Sto
def hds (rem:List (List (List Nat))):List (List Nat):=rem.map fun r=>r.headD []
theorem zgM (rem:List (List (List Nat))) {i:Nat} (h:i<rem.length):key (hds rem) i=rem[i].headD []:=by
 rw [zcf _ _ (by unfold hds;simpa using h)]
 unfold hds
 simp
theorem zrN (rem:List (List (List Nat))) (i:Nat) (t:List (List Nat)):hds (rem.set i t)=(hds rem).set i (t.headD []):=by unfold hds;rw [List.map_set]
structure MgI (all:List (List Nat)) (rem:List (List (List Nat))) (out:List (List Nat)):Prop where
  so:∀ r ∈ rem,SortedR r
  os:SortedR out
  le:∀ x ∈ out,∀ r ∈ rem,∀ y ∈ r,lessB y x=false
  pm:(out ++ rem.flatten).Perm all
  ne:∀ r ∈ rem,∀ y ∈ r,y ≠ []
theorem MgI.start {rem:List (List (List Nat))} (h1:∀ r ∈ rem,SortedR r) (h2:∀ r ∈ rem,∀ y ∈ r,y ≠ []):MgI rem.flatten rem [] :=
 ⟨h1,List.Pairwise.nil,fun x h=>(by cases h),List.Perm.refl _,h2⟩
theorem zeC {rem:List (List (List Nat))} {i:Nat} (h:i<rem.length) {x:List Nat} {t:List (List Nat)} (e:rem[i]=x :: t):rem.flatten.Perm (x :: (rem.set i t).flatten):=by
 have e1:rem=rem.take i ++ rem[i] :: rem.drop (i+1):=by rw [← List.drop_eq_getElem_cons h,List.take_append_drop]
 rw [List.set_eq_take_append_cons_drop,if_pos h]
 conv=>lhs;rw [e1,e]
 rw [List.flatten_append,List.flatten_cons,List.flatten_append,List.flatten_cons,List.cons_append]
 exact List.perm_middle
theorem MgI.step {all:List (List Nat)} {rem:List (List (List Nat))} {out:List (List Nat)} (h:MgI all rem out) (h1:1≤rem.length) (he:key (hds rem) (win (hds rem) 1) ≠ []) :
  ∃ (hw:win (hds rem) 1<rem.length),∃ x t,rem[win (hds rem) 1]=x :: t∧key (hds rem) (win (hds rem) 1)=x∧MgI all (rem.set (win (hds rem) 1) t) (out ++ [x]):=by
 have hl:(hds rem).length=rem.length:=by unfold hds;simp
 have hw:win (hds rem) 1<rem.length:=by have:=zco (ks:=hds rem) (n:=1) (by decide) (by omega);omega
 have hle:=fun j hj hx=>(ziZ (hds rem) j hj he hx).1
 have hkw:=zgM rem hw
 generalize win (hds rem) 1=i at *
 refine ⟨hw,?_⟩
 cases e:rem[i] with
 | nil=>rw [e] at hkw;exact absurd hkw he
 | cons x t =>
  rw [e] at hkw
  have hkw:key (hds rem) i=x:=hkw
  rw [hkw] at hle
  have hmem:rem[i] ∈ rem:=List.getElem_mem hw
  have hsr:=h.so _ hmem
  rw [e] at hsr
  have hxt:∀ y ∈ t,lessB y x=false:=fun y hy=>(List.pairwise_cons.1 hsr).1 y hy
  have hsub:∀ {r:List (List Nat)},r ∈ rem.set i t → ∀ y ∈ r,∃ r' ∈ rem,y ∈ r':=fun hr y hy=>by
   rcases List.mem_or_eq_of_mem_set hr with h' | h'
   ·exact ⟨_,h',hy⟩
   ·subst h';exact ⟨_,hmem,by rw [e];exact List.mem_cons_of_mem _ hy⟩
  have hall:∀ r ∈ rem.set i t,∀ y ∈ r,lessB y x=false:=fun r hr y hy=>by
   rcases List.mem_or_eq_of_mem_set hr with h' | h'
   ·obtain ⟨j,hj,ej⟩:=List.getElem_of_mem h'
    cases e2:rem[j] with
    | nil=>rw [ej] at e2;rw [e2] at hy;cases hy
    | cons x' t' =>
     have hj2:j<(hds rem).length:=by omega
     have hk2:(hds rem)[j]=x':=by
      have:=zgM rem hj
      rw [zcf _ _ hj2,e2] at this;exact this
     have hx':x' ≠ []:=h.ne _ (List.getElem_mem hj) _ (by rw [e2];exact List.mem_cons_self ..)
     have h3:=hle j hj2 (by rw [hk2];exact hx')
     rw [hk2] at h3
     rw [← ej,e2] at hy
     rcases List.mem_cons.1 hy with rfl | hy
     ·exact h3
     ·have hs2:=h.so _ (List.getElem_mem hj)
      rw [e2] at hs2
      exact zf4 _ _ _ ((List.pairwise_cons.1 hs2).1 y hy) h3
   ·subst h';exact hxt y hy
  refine ⟨x,t,rfl,hkw,fun r hr=>?_,?_,fun z hz r hr y hy=>?_,?_,fun r hr y hy=>?_⟩
  ·rcases List.mem_or_eq_of_mem_set hr with h' | h'
   ·exact h.so r h'
   ·subst h';exact (List.pairwise_cons.1 hsr).2
  ·refine List.pairwise_append.2 ⟨h.os,List.pairwise_singleton _ _,fun z hz y hy=>?_⟩
   rw [List.mem_singleton.1 hy]
   exact h.le z hz _ hmem x (by rw [e];exact List.mem_cons_self ..)
  ·rcases List.mem_append.1 hz with hz | hz
   ·obtain ⟨r',h1,h2⟩:=hsub hr y hy
    exact h.le z hz r' h1 y h2
   ·rw [List.mem_singleton.1 hz];exact hall r hr y hy
  ·refine List.Perm.trans ?_ h.pm
   rw [List.append_assoc]
   exact List.Perm.append_left out (zeC hw e).symm
  ·obtain ⟨r',h1,h2⟩:=hsub hr y hy
   exact h.ne r' h1 y h2
theorem MgI.done {all:List (List Nat)} {rem:List (List (List Nat))} {out:List (List Nat)} (h:MgI all rem out) (h1:1≤rem.length) (he:key (hds rem) (win (hds rem) 1) = []):out.Perm all ∧ ∀ r ∈ rem,r = []:=by
 have hl:(hds rem).length=rem.length:=by unfold hds;simp
 have hz:∀ r ∈ rem,r = []:=fun r hr=>by
  obtain ⟨j,hj,ej⟩:=List.getElem_of_mem hr
  cases e2:r with
  | nil=>rfl
  | cons x t =>
   exfalso
   have hk:=zgM rem hj
   rw [ej,e2] at hk
   have hk:key (hds rem) j=x:=hk
   have hx:x ≠ []:=h.ne r hr _ (by rw [e2];exact List.mem_cons_self ..)
   by_cases q:j=win (hds rem) 1
   ·rw [← q,hk] at he;exact hx he
   ·have hb:=zcp (ks:=hds rem) (n:=1) (by decide) (by omega) (by omega:j<(hds rem).length) (zdV (by omega)) q
    unfold beatsP at hb
    rw [he,hk] at hb
    simp [kLess,Ne.symm hx] at hb
 refine ⟨?_,hz⟩
 have:rem.flatten = []:=List.flatten_eq_nil_iff.2 hz
 have hp:=h.pm
 rwa [this,List.append_nil] at hp
/-! ### Readers -/
def upd {α : Type} (f:Nat → α) (i:Nat) (v : α):Nat → α:=fun j=>if j=i then v else f j
theorem zaI {α : Type} (f:Nat → α) (i:Nat) (v : α):upd f i v i=v:=if_pos rfl
theorem zar {α : Type} (f:Nat → α) {i j:Nat} (v : α) (h:j≠i):upd f i v j=f j:=if_neg h
def hcnt (k:Nat) (f:Nat→Rd):Nat:=(List.range k).countP fun i=>decide (0<(f i).held)
theorem zhR (k:Nat) (f:Nat→Rd):hcnt (k+1) f=hcnt k f+if 0<(f k).held then 1 else 0:=by
 unfold hcnt
 rw [List.range_succ,List.countP_append,List.countP_cons,List.countP_nil,Nat.zero_add]
 simp
theorem zpC {k i:Nat} (f:Nat→Rd) (r:Rd) (h:k≤i):hcnt k (upd f i r)=hcnt k f:=by
 unfold hcnt
 refine List.countP_congr fun j hj=>?_
 have hjk:j<k:=List.mem_range.1 hj
 have hji:j≠i:=by omega
 rw [zar f r hji]
theorem zdd (f:Nat→Rd) (r:Rd) {i:Nat}:∀ {k:Nat},i<k→hcnt k (upd f i r)+(if 0<(f i).held then 1 else 0)=hcnt k f+if 0<r.held then 1 else 0
 | 0,h=>absurd h (Nat.not_lt_zero i)
 | k+1,h=>by
  rw [zhR,zhR]
  by_cases e:i=k
  ·subst e
   rw [zaI,zpC f r (Nat.le_refl i)]
   omega
  ·rw [zar f r (Ne.symm e)]
   have:=zdd f r (i:=i) (k:=k) (by omega)
   omega
theorem znh (k:Nat) (f:Nat→Rd):hcnt k f≤k:=by
 unfold hcnt
 have:=List.countP_le_length (p:=fun i=>decide (0<(f i).held)) (l:=List.range k)
 rwa [List.length_range] at this
end Sto
end
section
open Go.RowKit
open Mv Disk Num Loser
set_option maxRecDepth 4000
namespace Sto
def srB (q:Nat) (lv:Value):Blk:=⟨188,[self q,lv],2⟩
def LastV (T:Mem) (lv:Value) (last:List Nat):Prop:=(lv = .slice none 0 0∧last = []) ∨ ∃ g w,lv = .slice (some ⟨g,0,none⟩) w w∧RowR T lv last
theorem LastV.less {T T':Mem} {lv:Value} {last:List Nat} (h:LastV T lv last) (hl:T.Less T'):LastV T' lv last:=by
 rcases h with h | ⟨g,w,e,h⟩
 ·exact .inl h
 ·exact .inr ⟨g,w,e,h.less hl⟩
theorem zhS {S:Mem} {sb q a q':Nat} {lv:Value} {r:Rd} (h:S.own sb=some (srB q' lv)) (h':S.own q=some (rdB a r)):q≠sb:=zrI h' h (by show ¬ 188=115;decide)
structure SrcR (S:Mem) (a p b c sb q:Nat) (r r':Rd) (x y:Pl) (n B:Nat) (row:List Nat) (g:Nat) (T':Mem):Prop where
  rd:RdS (((S.set q (rdB a r')).set g ⟨24,row.map nU,r.w⟩).set sb (srB q (.slice (some ⟨g,0,none⟩) r.w r.w))) a p b c q r' y n B T'
  new:Fresh (S.set q (rdB a r')) g
  gs:g≠sb
  st:Stays x y
  ot:Oth x y r.nm
theorem srcR {S M:Mem} {a p b c sb q g n2 B:Nat} {r r':Rd} {x y:Pl} {row:List Nat} {lv:Value} (hT:RdT S a p b c q r r' x y n2 B M) (hg:Fresh M g) (hs:S.own sb=some (srB q lv)) (hqs:q≠sb) :
  SrcR S a p b c sb q r r' x y n2 B row g ((M.set g ⟨24,row.map nU,r.w⟩).set sb (srB q (.slice (some ⟨g,0,none⟩) r.w r.w))):=by
 obtain ⟨f1,hqg,h2⟩:=hT.s.new hg ⟨24,row.map nU,r.w⟩
 have hs2:=(Mem.own_set_other S (rdB a r') (Ne.symm hqs)).trans hs
 have hsg:sb≠g:=f1.ne hs2
 exact ⟨⟨zcL h2.ar ((Mem.own_set_other _ _ hsg).trans hs2) _,(Mem.own_set_other _ _ hqs).trans h2.ow,h2.ps,h2.us,h2.nb⟩,f1,Ne.symm hsg,hT.st,hT.ot⟩
set_option maxHeartbeats 4000000 in
theorem zrO (S:Mem) (a p b c sb q:Nat) (r:Rd) (x:Pl) (n B k:Nat) (T:Mem) (lv:Value) (last:List Nat) (rows:List (List Nat)) (h:RdS S a p b c q r x n B T) (hs:S.own sb=some (srB q lv)) (hH:Has x r.nm r.w rows.length (rows.flatMap recB)) (hr:RowsOK r.w rows) (hct:r.ct=rows.length) (hw1:1≤r.w) (hw8:r.w≤8) (hc:rows.length≤65536) (hat:r.at_=5*r.w*k) (hk:k<rows.length) (hn:n+5*r.w≤16384) (hB:B<x.fr.length) (R:Mem) (hR:R.Less S) (hRq:R.own q=none) (hlv:LastV R lv last) (hle:lessB rows[k] last=false) :
  ACall Tryz.prog 150 #[self sb] T fun v T'=>∃ g y f hd,v = .tuple #[.slice (some ⟨g,0,none⟩) r.w r.w,.nilIface]∧SrcR S a p b c sb q r { r with at_:=r.at_+5*r.w,fr:=f,held:=hd } x y (n+5*r.w) B rows[k] g T':=by
 have hqs:=zhS hs h.ow
 have os:=zaj h.ar hs
 unfold srB at os
 obtain ⟨b1,b2⟩:=zqt hH hw1 hk
 have hmul:5*r.w*rows.length≤40*65536:=Nat.mul_le_mul (by omega) hc
 have hnx:=zmY S a p b c q r x n B T h hw1 hw8 (by rw [hct];exact hc) (by rw [hat,hct];exact b1) (by rw [hat];exact b2) hn hB
 rw [show recW (run x r.nm r.at_ (5*r.w)) r.w=rows[k] from by rw [hat];exact zm1 hH hw1 rfl hr hk] at hnx
 obtain ⟨hrl,hrt⟩:=hr _ (List.getElem_mem hk)
 generalize rows[k]=row at *
 refine k_E1 (rs:=[.tmp 2,.tmp 3]) 48 Tryz.func150 rfl rfl rfl ?_
 refine r12_ ?_
 refine ca_ rfl (hnx) ?_
 rintro _ S1 ⟨y,f,hd,M,g,rfl,hg,h1,hT⟩
 rw [h1];clear h1 S1
 obtain ⟨f1,hqg,h2⟩:=hT.s.new hg ⟨24,row.map nU,r.w⟩
 have hs2:=(Mem.own_set_other S (rdB a { r with at_:=r.at_+5*r.w,fr:=f,held:=hd }) (Ne.symm hqs)).trans hs
 have os1:=zaj hT.s.ar hs2
 unfold srB at os1
 have hsg:sb≠g:=f1.ne hs2
 have hs3:=(Mem.own_set_other _ ⟨24,row.map nU,r.w⟩ hsg).trans hs2
 have os:=zaj h2.ar hs3
 have hrow:RowR (M.set g ⟨24,row.map nU,r.w⟩) (.slice (some ⟨g,0,none⟩) r.w r.w) row:=ziT hrl hw8 (Mem.own_set_same _ _ _)
 unfold srB at os
 have hRM:R.Less (M.set g ⟨24,row.map nU,r.w⟩):=((zap hR hRq).trans (zaQ hT.s.ar)).trans (Mem.less_set _ _ _ hg.1)
 have hfin:=srcR (row:=row) hT hg hs hqs
 refine r14_ ?_
 refine cF_ ?_
 rcases hlv with ⟨rfl,rfl⟩ | ⟨g0,w0,rfl,hl0⟩
 ·refine r20_ ?_
  refine cF_ ?_
  refine r18_ ?_
  refine k_v7 0 2 3 4 5 15 41 ?_
  refine s1_ ?_
  refine ⟨_,_,⟨_,_,rfl,⟨_,_,rfl,rfl,rfl⟩,rfl⟩,Mem.Less.refl _,?_⟩
  exact ⟨g,y,f,hd,rfl,hfin⟩
 ·refine r16_ ?_
  refine ARun.callG 5 true 34 rfl (zab rfl) rfl (zab rfl) zsV rfl (zmp row last _ _ _ hrow (hl0.less hRM)) ?_
  rintro _ S1 ⟨rfl,h1⟩
  rw [h1,hle];clear h1 S1
  refine r3_ ?_
  refine cF_ ?_
  refine r19_ ?_
  refine ⟨_,_,⟨_,_,rfl,⟨_,_,rfl,rfl,rfl⟩,rfl⟩,Mem.Less.refl _,?_⟩
  exact ⟨g,y,f,hd,rfl,hfin⟩
set_option maxHeartbeats 4000000 in
theorem zkO (S:Mem) (a p b c sb q:Nat) (r:Rd) (x:Pl) (n B:Nat) (T:Mem) (lv:Value) (h:RdS S a p b c q r x n B T) (hs:S.own sb=some (srB q lv)) (hw1:1≤r.w) (hw8:r.w≤8) (hc:r.ct≤65536) (hat:r.at_=5*r.w*r.ct) :
  ACall Tryz.prog 150 #[self sb] T fun v T'=>v = .tuple #[.slice none 0 0,.nilIface] ∧ ∃ y,RdT S a p b c q r { r with held:=0 } x y n B T':=by
 have os:=zaj h.ar hs
 unfold srB at os
 have hmul:5*r.w*r.ct≤40*65536:=Nat.mul_le_mul (by omega) hc
 have hno:=zf1 a q r T (zaj h.ar h.ow) hw8 hc (by omega) (by rw [zjK hw1];omega)
 have hcl:=zeM S a p b c q r x n B T h
 have hqs:=zhS hs h.ow
 refine k_E1 (rs:=[.tmp 2,.tmp 3]) 48 Tryz.func150 rfl rfl rfl ?_
 refine r12_ ?_
 refine ca_ rfl (hno) ?_
 rintro _ S1 ⟨rfl,h1⟩
 rw [h1];clear h1 S1
 refine r14_ ?_
 refine cT_ ?_
 refine r6_ ?_
 refine ca_ rfl (hcl) ?_
 rintro _ M ⟨_,y,hT⟩
 have oq:=zaj hT.s.ar hT.s.ow
 (unfold rdB at oq;dsimp only at oq)
 have os2:=zaj hT.s.ar ((Mem.own_set_other S (rdB a { r with held:=0 }) (Ne.symm hqs)).trans hs)
 unfold srB at os2
 refine r11_ ?_
 refine ca_ rfl (zce _ _) ?_
 rintro _ S1 ⟨rfl,h1⟩
 rw [h1];clear h1 S1
 refine r6_ ?_
 refine ⟨_,M,⟨_,_,rfl,⟨_,_,rfl,rfl,rfl⟩,rfl⟩,zad,?_⟩
 exact ⟨rfl,y,hT⟩
end Sto
end
section
open Go.RowKit
open Mv Disk Num Loser
set_option maxRecDepth 4000
namespace Sto
def Rd.hold (r:Rd) (h:Nat):Rd:={ r with held:=h }
theorem zuC (r:Rd) (h:Nat):(r.hold h).held=h:=rfl
structure Sc where
  q:Nat
  sb:Nat
  r:Rd
  lv:Value
  k:Nat
structure Src1 (S R:Mem) (a:Nat) (x:Pl) (w:Nat) (rows:List (List Nat)) (s:Sc):Prop where
  oq:S.own s.q=some (rdB a s.r)
  os:S.own s.sb=some (srB s.q s.lv)
  us:Use x s.r.nm s.r.fr s.r.held
  hs:Has x s.r.nm w rows.length (rows.flatMap recB)
  wd:s.r.w=w
  ct:s.r.ct=rows.length
  at_:s.r.at_=5*w*s.k
  le:s.k≤rows.length
  lv:∃ last,LastV R s.lv last ∧ ∀ h:s.k<rows.length,lessB rows[s.k] last=false
  rq:R.own s.q=none
  rs:R.own s.sb=none
structure FileOK (w:Nat) (rows:List (List Nat)):Prop where
  so:SortedR rows
  ok:RowsOK w rows
  c:rows.length≤65536
structure MgS (S T R:Mem) (a p b c:Nat) (x:Pl) (n W w:Nat) (files:List (List (List Nat))) (ss:Nat→Sc):Prop where
  ar:ArS S a p b c x T
  ps:Ps x n
  s1:∀ i (h:i<files.length),Src1 S R a x w files[i] (ss i)
  nb:nb x.fr≤W+hcnt files.length fun i=>(ss i).r
  df:∀ i j,i<files.length→j<files.length→i≠j→(ss i).q≠(ss j).q∧(ss i).sb≠(ss j).sb∧(ss i).r.nm≠(ss j).r.nm
  rl:R.Less S
def OfSc (m:Nat) (ss:Nat→Sc) (t:Nat):Prop:=∃ j,j<m∧(t=(ss j).q∨t=(ss j).sb)
structure Kept (S S':Mem) (D:Nat→Prop):Prop where
  own:∀ t k,¬ D t→S.own t=some k→S'.own t=some k
  ro:S'.ro=S.ro
theorem zt5 (ss:Nat→Sc) (i:Nat) (s:Sc):(fun j=>(upd ss i s j).r)=upd (fun j=>(ss j).r) i s.r:=by
 funext j
 by_cases e:j=i
 ·rw [e,zaI,zaI]
 ·rw [zar ss s e,zar _ _ e]
theorem q_sb {S R:Mem} {a:Nat} {x y:Pl} {w w':Nat} {rows rows':List (List Nat)} {s s':Sc} (h:Src1 S R a x w rows s) (g:Src1 S R a y w' rows' s'):s.q≠s'.sb:=zhS g.os h.oq
theorem MgS.rd {S T R:Mem} {a p b c:Nat} {x:Pl} {n W w:Nat} {files:List (List (List Nat))} {ss:Nat→Sc} (h:MgS S T R a p b c x n W w files ss) {i:Nat} (hi:i<files.length) :
  RdS S a p b c (ss i).q (ss i).r x n (W+hcnt files.length (upd (fun j=>(ss j).r) i ((ss i).r.hold 0))) T:=by
 have h1:=h.s1 i hi
 refine ⟨h.ar,h1.oq,h.ps,h1.us,?_⟩
 have h2:=zdd (fun j=>(ss j).r) ((ss i).r.hold 0) hi
 simp only [zuC,Nat.lt_irrefl,if_false] at h2
 have:=h.nb
 omega
theorem MgS.room {S T R:Mem} {a p b c:Nat} {x:Pl} {n W w:Nat} {files:List (List (List Nat))} {ss:Nat→Sc} (h:MgS S T R a p b c x n W w files ss) {i:Nat} (hi:i<files.length) (hm:files.length+W≤x.fr.length):W+hcnt files.length (upd (fun j=>(ss j).r) i ((ss i).r.hold 0))<x.fr.length:=by
 have h2:=zdd (fun j=>(ss j).r) ((ss i).r.hold 0) hi
 have h3:=zdd (fun j=>(ss j).r) ((ss i).r.hold 1) hi
 have h4:=znh files.length (upd (fun j=>(ss j).r) i ((ss i).r.hold 1))
 simp only [zuC,Nat.lt_irrefl,if_false,Nat.zero_lt_one,if_true] at h2 h3
 omega
theorem MgS.upd_ {S T R S' T' R':Mem} {a p b c:Nat} {x y:Pl} {n n' W w:Nat} {files:List (List (List Nat))} {ss:Nat→Sc} (h:MgS S T R a p b c x n W w files ss) {i:Nat} (hi:i<files.length) {s':Sc}
  (hA:ArS S' a p b c y T') (hp:Ps y n') (hst:Stays x y) (hot:Oth x y (ss i).r.nm) (hnb:Sto.nb y.fr≤W+hcnt files.length (upd (fun j=>(ss j).r) i ((ss i).r.hold 0))+if 0<s'.r.held then 1 else 0)
  (hk:Kept S S' fun t=>t=(ss i).q∨t=(ss i).sb) (hq:s'.q=(ss i).q) (hsb:s'.sb=(ss i).sb) (hnm:s'.r.nm=(ss i).r.nm) (h1:Src1 S' R' a y w files[i] s') (hRR:R.Less R') (hR:R'.Less S') (hRn:∀ t k,S.own t=some k→R.own t=none→R'.own t=none) :
  MgS S' T' R' a p b c y n' W w files (upd ss i s') where
 ar:=hA
 ps:=hp
 s1:=fun j hj=>by
  by_cases e:j=i
  ·subst e;rw [zaI];exact h1
  ·rw [zar ss s' e]
   have g:=h.s1 j hj
   have gi:=h.s1 i hi
   obtain ⟨d1,d2,d3⟩:=h.df j i hj hi e
   have k1 : ¬ ((ss j).q=(ss i).q∨(ss j).q=(ss i).sb):=fun e=>e.elim d1 (q_sb g gi)
   have k2 : ¬ ((ss j).sb=(ss i).q∨(ss j).sb=(ss i).sb):=fun e=>e.elim (fun e=>q_sb gi g e.symm) d2
   obtain ⟨last,l1,l2⟩:=g.lv
   exact ⟨hk.own _ _ k1 g.oq,hk.own _ _ k2 g.os,g.us.oth hot d3 hst.l,g.hs.stays hst,g.wd,g.ct,g.at_,g.le,⟨last,l1.less hRR,l2⟩,hRn _ _ g.oq g.rq,hRn _ _ g.os g.rs⟩
 nb:=by
  rw [zt5]
  have h2:=zdd (fun j=>(ss j).r) ((ss i).r.hold 0) hi
  have h3:=zdd (fun j=>(ss j).r) s'.r hi
  simp only [zuC,Nat.lt_irrefl,if_false] at h2
  omega
 df:=fun j l hj hl hne=>by
  have key:∀ m,(upd ss i s' m).q=(ss m).q∧(upd ss i s' m).sb=(ss m).sb∧(upd ss i s' m).r.nm=(ss m).r.nm:=fun m=>by
   by_cases e:m=i
   ·subst e;rw [zaI];exact ⟨hq,hsb,hnm⟩
   ·rw [zar ss s' e];exact ⟨rfl,rfl,rfl⟩
  obtain ⟨a1,a2,a3⟩:=key j
  obtain ⟨b1,b2,b3⟩:=key l
  rw [a1,a2,a3,b1,b2,b3]
  exact h.df j l hj hl hne
 rl:=hR
structure NextR (S R S' T' R':Mem) (a p b c:Nat) (x y:Pl) (n W w:Nat) (files:List (List (List Nat))) (ss:Nat→Sc) (i:Nat) (s':Sc) (v:Value) (row:List Nat):Prop where
  mg:MgS S' T' R' a p b c y n W w files (upd ss i s')
  st:Stays x y
  ot:Oth x y (ss i).r.nm
  kp:Kept S S' fun t=>t=(ss i).q∨t=(ss i).sb
  q:s'.q=(ss i).q∧s'.sb=(ss i).sb∧s'.r.nm=(ss i).r.nm
  rr:R.Less R'
  row:RowR R' v row
  rn:∀ t k,S.own t=some k→R.own t=none→R'.own t=none
theorem zpD (S T R:Mem) (a p b c:Nat) (x:Pl) (n W w:Nat) (files:List (List (List Nat))) (ss:Nat→Sc) (h:MgS S T R a p b c x n W w files ss) (i:Nat) (hi:i<files.length) (hf:FileOK w files[i]) (hw1:1≤w) (hw8:w≤8) (hn:n+5*w≤16384) (hm:files.length+W≤x.fr.length) (hlt:(ss i).k<files[i].length) :
  ACall Tryz.prog 150 #[self (ss i).sb] T fun v T'=>∃ u S' R' y s',v = .tuple #[u,.nilIface]∧s'.k=(ss i).k+1∧NextR S R S' T' R' a p b c x y (n+5*w) W w files ss i s' u files[i][(ss i).k]:=by
 have h1:=h.s1 i hi
 have hrd:=h.rd hi
 have hB:=h.room hi hm
 obtain ⟨last,l1,l2⟩:=h1.lv
 have e1:=h1.wd
 have hnx:=zrO S a p b c (ss i).sb (ss i).q (ss i).r x n _ (ss i).k T (ss i).lv last files[i] hrd h1.os (by rw [e1];exact h1.hs) (by rw [e1];exact hf.ok) h1.ct (by rw [e1];exact hw1) (by rw [e1];exact hw8) hf.c (by rw [e1];exact h1.at_) hlt (by rw [e1];exact hn) hB R h.rl h1.rq l1 (l2 hlt)
 refine hnx.mono fun v T' ⟨g,y,f,hd,hv,hR⟩=>?_
 obtain ⟨hrl,hrt⟩:=hf.ok _ (List.getElem_mem hlt)
 have hgn:=hR.new.1
 have hgq:g≠(ss i).q:=fun e=>by rw [e,Mem.own_set_same] at hgn;cases hgn
 have hSg:S.own g=none:=by rwa [Mem.own_set_other _ _ hgq] at hgn
 have hRg:R.own g=none:=by
  cases e:R.own g with
  | none=>rfl
  | some k=>have:=h.rl.own e;rw [hSg] at this;cases this
 have hqs:=zhS h1.os h1.oq
 have hkp:Kept S (((S.set (ss i).q (rdB a { (ss i).r with at_:=(ss i).r.at_+5*(ss i).r.w,fr:=f,held:=hd })).set g ⟨24,files[i][(ss i).k].map nU,(ss i).r.w⟩).set (ss i).sb (srB (ss i).q (.slice (some ⟨g,0,none⟩) (ss i).r.w (ss i).r.w))) fun t=>t=(ss i).q∨t=(ss i).sb:=⟨fun t k ht e=>by
  have t1:t≠(ss i).q:=fun e=>ht (.inl e)
  have t2:t≠(ss i).sb:=fun e=>ht (.inr e)
  have t3:t≠g:=fun e2=>by rw [e2,hSg] at e;cases e
  rw [Mem.own_set_other _ _ t2,Mem.own_set_other _ _ t3,Mem.own_set_other _ _ t1];exact e,rfl⟩
 have hRl:(R.set g ⟨24,files[i][(ss i).k].map nU,(ss i).r.w⟩).Less (((S.set (ss i).q (rdB a { (ss i).r with at_:=(ss i).r.at_+5*(ss i).r.w,fr:=f,held:=hd })).set g ⟨24,files[i][(ss i).k].map nU,(ss i).r.w⟩).set (ss i).sb (srB (ss i).q (.slice (some ⟨g,0,none⟩) (ss i).r.w (ss i).r.w))) :=
  zap (Mv.Less.set (zap h.rl h1.rq) g _) ((Mem.own_set_other _ _ (Ne.symm hR.gs)).trans h1.rs)
 have hrow:RowR (R.set g ⟨24,files[i][(ss i).k].map nU,(ss i).r.w⟩) (.slice (some ⟨g,0,none⟩) (ss i).r.w (ss i).r.w) files[i][(ss i).k]:=ziT (by rw [e1];exact hrl) (by rw [e1];exact hw8) (Mem.own_set_same _ _ _)
 have hRn:∀ t k,S.own t=some k→R.own t=none→(R.set g ⟨24,files[i][(ss i).k].map nU,(ss i).r.w⟩).own t=none:=fun t k ht hr=>(Mem.own_set_other _ _ (fun e=>by rw [e,hSg] at ht;cases ht)).trans hr
 refine ⟨_,_,R.set g ⟨24,files[i][(ss i).k].map nU,(ss i).r.w⟩,y,⟨(ss i).q,(ss i).sb,{ (ss i).r with at_:=(ss i).r.at_+5*(ss i).r.w,fr:=f,held:=hd },.slice (some ⟨g,0,none⟩) (ss i).r.w (ss i).r.w,(ss i).k+1⟩,hv,rfl,⟨?_,hR.st,hR.ot,hkp,⟨rfl,rfl,rfl⟩,Mem.less_set _ _ _ hRg,hrow,hRn⟩⟩
 refine h.upd_ hi hR.rd.ar (by rw [← e1];exact hR.rd.ps) hR.st hR.ot hR.rd.nb hkp rfl rfl rfl ?_ (Mem.less_set _ _ _ hRg) hRl hRn
 refine ⟨hR.rd.ow,Mem.own_set_same _ _ _,hR.rd.us,h1.hs.stays hR.st,e1,h1.ct,?_,hlt,⟨files[i][(ss i).k],.inr ⟨g,(ss i).r.w,rfl,hrow⟩,fun h2=>?_⟩,hRn _ _ h1.oq h1.rq,hRn _ _ h1.os h1.rs⟩
 ·show (ss i).r.at_+5*(ss i).r.w=5*w*((ss i).k+1)
  rw [h1.at_,e1,Nat.mul_add,Nat.mul_one]
 ·exact List.pairwise_iff_getElem.1 hf.so _ _ hlt h2 (Nat.lt_succ_self _)
theorem zpE (S T R:Mem) (a p b c:Nat) (x:Pl) (n W w:Nat) (files:List (List (List Nat))) (ss:Nat→Sc) (h:MgS S T R a p b c x n W w files ss) (i:Nat) (hi:i<files.length) (hf:FileOK w files[i]) (hw1:1≤w) (hw8:w≤8) (he:(ss i).k=files[i].length) :
  ACall Tryz.prog 150 #[self (ss i).sb] T fun v T'=>∃ S' y s',v = .tuple #[.slice none 0 0,.nilIface]∧s'.k=(ss i).k∧s'.r.held=0∧NextR S R S' T' R a p b c x y n W w files ss i s' (.slice none 0 0) []:=by
 have h1:=h.s1 i hi
 have hrd:=h.rd hi
 have e1:=h1.wd
 have hnx:=zkO S a p b c (ss i).sb (ss i).q (ss i).r x n _ T (ss i).lv hrd h1.os (by rw [e1];exact hw1) (by rw [e1];exact hw8) (by rw [h1.ct];exact hf.c) (by rw [e1,h1.ct,h1.at_,he])
 refine hnx.mono fun v T' ⟨hv,y,hT⟩=>?_
 have hqs:=zhS h1.os h1.oq
 have hkp:Kept S (S.set (ss i).q (rdB a { (ss i).r with held:=0 })) fun t=>t=(ss i).q∨t=(ss i).sb:=⟨fun t k ht e=>(Mem.own_set_other _ _ (fun e=>ht (.inl e))).trans e,rfl⟩
 refine ⟨_,y,⟨(ss i).q,(ss i).sb,{ (ss i).r with held:=0 },(ss i).lv,(ss i).k⟩,hv,rfl,rfl,⟨?_,hT.st,hT.ot,hkp,⟨rfl,rfl,rfl⟩,Mem.Less.refl _,Sl.nil _ _ _,fun _ _ _ h=>h⟩⟩
 refine h.upd_ hi hT.s.ar hT.s.ps hT.st hT.ot hT.s.nb hkp rfl rfl rfl ?_ (Mem.Less.refl _) (zap h.rl h1.rq) (fun _ _ _ h=>h)
 exact ⟨hT.s.ow,(Mem.own_set_other _ _ (Ne.symm hqs)).trans h1.os,hT.s.us,h1.hs.stays hT.st,e1,h1.ct,h1.at_,h1.le,h1.lv,h1.rq,h1.rs⟩
end Sto
end
section
open Go.RowKit
open Mv Disk Num Loser
set_option maxRecDepth 4000
namespace Sto
theorem zkP (x:List Nat):lessB x []=false:=by cases x <;> rfl
theorem zi0 {x y:Pl} (hf:y.fr=x.fr) (hd:y.d=x.d) (s:ByteArray) (k:Int):vw y s k=vw x s k:=by
 unfold vw atF;rw [hf,hd]
theorem Ps.same {x y:Pl} {n:Nat} (h:Ps x n) (hf:y.fr=x.fr) (hd:y.d=x.d):Ps y n:=by
 have a:∀ i,atF y i=atF x i:=fun i=>by unfold atF;rw [hf]
 exact ⟨by rw [hd];exact h.d,fun i hi=>by rw [a,hd];exact h.ok i (by rw [← hf];exact hi),fun i j h1 h2 hne=>by rw [a,a];exact h.ap i j (by rw [← hf];exact h1) (by rw [← hf];exact h2) hne,by rw [hf];exact h.l1,by rw [hf];exact h.l2⟩
theorem Has.same {x y:Pl} {s:ByteArray} {w c:Nat} {L:List UInt8} (h:Has x s w c L) (hf:y.fr=x.fr) (hd:y.d=x.d):Has y s w c L :=
 ⟨by rw [hd];exact h.n,by rw [zi0 hf hd];exact h.h,fun j hj=>by rw [hd] at hj;rw [← h.b j hj];unfold byt;rw [zi0 hf hd],h.l⟩
theorem zrP {S T:Mem} {a p b c:Nat} {x:Pl} {w B:Nat} (ss:Nat→Sc) (h:ArS S a p b c x T) (hp:Ps x 0) (hB:Sto.nb x.fr≤B):MgS S T (noMem S) a p b c x 0 B w [] ss :=
 ⟨h,hp,fun i h=>absurd h (Nat.not_lt_zero i),Nat.le_trans hB (Nat.le_add_right _ _),fun i j h=>absurd h (Nat.not_lt_zero i),⟨fun _ _ h=>(by cases h),rfl⟩⟩
theorem MgS.add {S T T2:Mem} {a p b c:Nat} {x y:Pl} {w B i q sb:Nat} {files:List (List (List Nat))} {ss:Nat→Sc} {nm:ByteArray} (h:MgS S T (noMem S) a p b c x 0 B w (files.take i) ss) (hi:i<files.length) (hu:Use x nm 0 0) (hyf:y.fr=x.fr) (hyd:y.d=x.d)
  (hA:ArS ((S.set q (rdB a ⟨nm,w,files[i].length,0,0,0⟩)).set sb (srB q (.slice none 0 0))) a p b c y T2) (hq:S.own q=none) (hsb:(S.set q (rdB a ⟨nm,w,files[i].length,0,0,0⟩)).own sb=none) (hH:Has x nm w files[i].length (files[i].flatMap recB)) (hnm:∀ j,j<i→(ss j).r.nm≠nm) (hnb:Sto.nb x.fr≤B) :
  MgS ((S.set q (rdB a ⟨nm,w,files[i].length,0,0,0⟩)).set sb (srB q (.slice none 0 0))) T2 (noMem S) a p b c y 0 B w (files.take (i+1)) (upd ss i ⟨q,sb,⟨nm,w,files[i].length,0,0,0⟩,.slice none 0 0,0⟩):=by
 have hl:(files.take (i+1)).length=i+1:=by rw [List.length_take];omega
 have hl0:(files.take i).length=i:=by rw [List.length_take];omega
 have hqsb:sb≠q:=fun e=>by rw [e,Mem.own_set_same] at hsb;cases hsb
 have hsb0:S.own sb=none:=by rwa [Mem.own_set_other _ _ hqsb] at hsb
 have hkeep:∀ t k,S.own t=some k→((S.set q (rdB a ⟨nm,w,files[i].length,0,0,0⟩)).set sb (srB q (.slice none 0 0))).own t=some k∧t≠q∧t≠sb:=fun t k ht=>by
  have t1:t≠q:=fun e=>by rw [e,hq] at ht;cases ht
  have t2:t≠sb:=fun e=>by rw [e,hsb0] at ht;cases ht
  exact ⟨(Mem.own_set_other _ _ t2).trans ((Mem.own_set_other _ _ t1).trans ht),t1,t2⟩
 refine ⟨hA,h.ps.same hyf hyd,fun j hj=>?_,by rw [hyf];exact Nat.le_trans hnb (Nat.le_add_right _ _),fun j l hj hl' hne=>?_,⟨fun _ _ h=>(by cases h),rfl⟩⟩
 ·rw [hl] at hj
  rw [List.getElem_take]
  by_cases e:j=i
  ·subst e
   rw [zaI]
   exact ⟨(Mem.own_set_other _ _ (Ne.symm hqsb)).trans (Mem.own_set_same _ _ _),Mem.own_set_same _ _ _,hu.fr_ hyf,hH.same hyf hyd,rfl,rfl,rfl,Nat.zero_le _,⟨[],.inl ⟨rfl,rfl⟩,fun _=>zkP _⟩,rfl,rfl⟩
  ·rw [zar ss _ e]
   have g:=h.s1 j (by omega)
   rw [List.getElem_take] at g
   exact ⟨(hkeep _ _ g.oq).1,(hkeep _ _ g.os).1,g.us.fr_ hyf,g.hs.same hyf hyd,g.wd,g.ct,g.at_,g.le,g.lv,rfl,rfl⟩
 ·rw [hl] at hj hl'
  by_cases e:j=i
  ·subst e
   rw [zaI,zar ss _ (Ne.symm hne)]
   have g:=h.s1 l (by omega)
   exact ⟨Ne.symm (hkeep _ _ g.oq).2.1,Ne.symm (hkeep _ _ g.os).2.2,Ne.symm (hnm l (by omega))⟩
  ·by_cases e2:l=i
   ·subst e2
    rw [zaI,zar ss _ hne]
    have g:=h.s1 j (by omega)
    exact ⟨(hkeep _ _ g.oq).2.1,(hkeep _ _ g.os).2.2,hnm j (by omega)⟩
   ·rw [zar ss _ e,zar ss _ e2]
    exact h.df j l (by omega) (by omega) hne
def strs (s:ByteArray):List Value:=[.string s]
def sumL (files:List (List (List Nat))):Nat:=(files.map List.length).sum
theorem zpF (files:List (List (List Nat))) {i:Nat} (h:i<files.length):sumL (files.take (i+1))=sumL (files.take i)+files[i].length:=by
 unfold sumL
 rw [List.take_succ_eq_append_getElem h,List.map_append,List.sum_append];simp
theorem ztu (files:List (List (List Nat))) (i:Nat):sumL (files.take i)≤sumL files:=by
 unfold sumL
 conv=>rhs;rw [← List.take_append_drop i files,List.map_append,List.sum_append]
 omega
structure OpX where
  S:Mem
  T:Mem
  x:Pl
  ss:Nat→Sc
  i:Nat
  o:Option (Nat × Nat)
structure OpI (S0:Mem) (a p b c wk:Nat) (u:W5) (tm:Value) (x0:Pl) (w B:Nat) (nms:List ByteArray) (files:List (List (List Nat))) (S T:Mem) (x:Pl) (ss:Nat→Sc) (i:Nat) (o:Option (Nat × Nat)):Prop where
  mg:MgS S T (noMem S) a p b c x 0 B w (files.take i) ss
  le:i≤files.length
  sl:S0.Less S
  xf:x.fr=x0.fr
  xd:x.d=x0.d
  oo:OkO T o i
  st:∀ j,j<i→(ss j).k=0∧(ss j).r.nm=nms.getD j ByteArray.empty∧S0.own (ss j).q=none∧S0.own (ss j).sb=none
def ptrs (ss:Nat→Sc) (k:Nat):List Value:=(List.range k).map fun j=>self (ss j).sb
theorem zjS (ss:Nat→Sc) (k:Nat):(ptrs ss k).length=k:=by unfold ptrs;simp
theorem zpG (ss:Nat→Sc) (i:Nat) (s:Sc):ptrs (upd ss i s) (i+1)=ptrs ss i ++ [self s.sb]:=by
 unfold ptrs
 rw [List.range_succ,List.map_append,List.map_singleton,zaI]
 congr 1
 exact List.map_congr_left fun j hj=>by rw [zar ss s (show j≠i from by have:=List.mem_range.1 hj;omega)]
set_option maxHeartbeats 8000000 in
theorem zkQ (S0 K:Mem) (a p b c wk:Nat) (u:W5) (tm:Value) (x0:Pl) (w B:Nat) (T0:Mem) (vn:Value) (nms:List ByteArray) (files:List (List (List Nat))) (h:ArS S0 a p b c x0 T0) (hwk:S0.own wk=some (wkB a u tm)) (hp:Ps x0 0) (hB:Sto.nb x0.fr≤B) (hcl:∀ j,j<x0.fr.length→(atF x0 j).dirty=false) (hK:K.Less S0) (hn:Sl 1 strs K vn nms) (hl:nms.length=files.length)
  (hF:∀ j (h:j<files.length) (h':j<nms.length),Use x0 nms[j] 0 0∧Has x0 nms[j] w files[j].length (files[j].flatMap recB)) (hfo:∀ f ∈ files,FileOK w f) (hdn:∀ i j (h:i<nms.length) (h':j<nms.length),i≠j→nms[i]≠nms[j]) (hns:∀ s ∈ nms,s.size≤1024) (h1:1≤w) (h8:w≤8) (hs:sumL files≤65536) (hfl:files.length≤256) :
  ACall Tryz.prog 102 #[self wk,vn] T0 fun v T'=>∃ X:OpX,v = .tuple #[outV X.o files.length,.int .u64 (sumL files:Nat),.nilIface]∧T'=outN 1 X.T X.o 189 (ptrs X.ss files.length)∧OpI S0 a p b c wk u tm x0 w B nms files X.S X.T X.x X.ss files.length X.o:=by
 obtain ⟨pn,cn,rfl,n1,n2,n3⟩:=id hn
 refine k_E2 (rs:=[.tmp 4,.tmp 5,.tmp 6]) 63 Tryz.func102 rfl rfl rfl ?_
 refine r31_ ?_
 refine AWP.loop (X:=OpX) (fun X=>[(0,self wk),(7,outV X.o X.i),(8,.int .u64 (sumL (files.take X.i):Nat)),(9,.nilIface),(14,.slice pn nms.length cn),(15,.int .i64 (nms.length:Nat)),(16,.int .i64 (X.i:Nat))]) (fun X=>outN 1 X.T X.o 189 (ptrs X.ss X.i)) (fun X=>OpI S0 a p b c wk u tm x0 w B nms files X.S X.T X.x X.ss X.i X.o) (fun X=>files.length-X.i) (⟨S0,T0,x0,fun _=>⟨0,0,⟨ByteArray.empty,0,0,0,0,0⟩,.nilIface,0⟩,0,none⟩) ⟨rfl,rfl,rfl,rfl,rfl,rfl,rfl,trivial⟩ (Mem.Less.refl _) (⟨zrP _ h hp hB,Nat.zero_le _,Mem.Less.refl _,rfl,rfl,zbR _,fun j h=>absurd h (Nat.not_lt_zero j)⟩) ?_
 rintro ⟨S,T,x,ss,i,o⟩ hI
 (try dsimp only at *)
 replace hI:OpI S0 a p b c wk u tm x0 w B nms files S T x ss i o:=hI
 have hile:=hI.le
 by_cases q1:i<files.length
 ·have hin:i<nms.length:=by omega
  obtain ⟨bn,off,rfl,hkn⟩:=n3.resolve_left (fun e=>by rw [e] at hin;simp at hin)
  have hki:=((hkn i hin).less ((hK.trans hI.sl).trans (zaQ hI.mg.ar))).less (za9 (n:=1) (e:=189) (cs:=ptrs ss i) hI.oo)
  unfold strs at hki
  obtain ⟨hu,hH0⟩:=hF i q1 hin
  have hH:=hH0.same hI.xf hI.xd
  have hu:=hu.fr_ hI.xf
  have hFi:=ziR hI.mg.ps (fun j hj=>by unfold atF;rw [hI.xf] at hj ⊢;exact hcl j hj) hH
  have hci:=(hfo _ (List.getElem_mem q1)).c
  have hfr:=(zm6 S a p b c wk u tm x nms[i] 0 w files[i].length T hI.mg.ar (hI.sl.own hwk) hI.mg.ps ((Rec.zc_ (Rec.zhw hFi) _).symm.trans (Rec.zfd h8 hci hFi)) h1 (hns _ (List.getElem_mem hin))).frameO (n:=1) (e:=189) (cs:=ptrs ss i) hI.oo
  refine r6_ ?_
  refine cT_ ?_
  refine r15_ ?_
  refine ca_ rfl (hfr) ?_
  rintro _ S1 ⟨T1,⟨q,y,rfl,hqn,hA,hyd,hyf⟩,hoo,h1'⟩
  rw [h1'];clear h1' S1
  refine r11_ ?_
  refine rC (Calm.bin rfl rfl Er.neNil) ?_
  refine r2_ ?_
  refine cF_ ?_
  refine r7_ ?_
  refine ARun.boxA (cs:=[_,_]) (zab rfl) rfl ?_
  intro b32 f32
  have g32:=f32
  repeat ((with_reducible replace g32:=zaa g32);obtain ⟨g32,_⟩:=g32)
  refine nl_ ?_
  obtain ⟨hf32,hn32⟩:=zaB f32
  rw [zbi (fun g cc e=>hn32 g cc e)]
  have hoo2:=hoo.set (r:=srB q (.slice none 0 0)) (fun g cc e=>hn32 g cc e)
  obtain ⟨k1,k2⟩:=zdU hA hf32 (srB q (.slice none 0 0))
  have happ:=zbK (n:=1) (e:=189) (cs:=ptrs ss i) hoo2 (by rw [zjS,Nat.mul_one])
  unfold srB at happ hoo2
  refine ARun.build1s (zab rfl) zg1 rfl rfl ?_
  intro b33 f33
  have g33:=f33
  repeat ((with_reducible replace g33:=zaa g33);obtain ⟨g33,_⟩:=g33)
  refine ARun.appendOK (n:=1) (o:=o) (k:=i) (m:=1) (cs:=ptrs ss i) (news:=[self b32]) (zab rfl) zg1 rfl rfl (by rw [zjS,Nat.mul_one]) hoo2 (happ.temp f33) rfl (zd6 (Mem.own_set_same _ _ _) List.prefix_rfl) rfl (fun v hv=>by rw [List.mem_singleton.1 hv];rfl) (by omega) (by omega) ?_
  intro o2 ho2
  obtain ⟨g,gc,rfl⟩:=ho2.some (by omega)
  obtain ⟨hg,hgc⟩:=ho2.own g gc rfl
  have hmg2:=hI.mg.add (nm:=nms[i]) q1 hu hyf hyd k2 hqn.1 k1.1 hH (fun j hj e=>by rw [(hI.st j hj).2.1,List.getD_eq_getElem?_getD,List.getElem?_eq_getElem (by omega)] at e;exact hdn j i (by omega) hin (by omega) e) (by rw [hI.xf];exact hB)
  have hst2:∀ j,j<i+1→(upd ss i ⟨q,b32,⟨nms[i],w,files[i].length,0,0,0⟩,.slice none 0 0,0⟩ j).k=0∧(upd ss i ⟨q,b32,⟨nms[i],w,files[i].length,0,0,0⟩,.slice none 0 0,0⟩ j).r.nm=nms.getD j ByteArray.empty∧S0.own (upd ss i ⟨q,b32,⟨nms[i],w,files[i].length,0,0,0⟩,.slice none 0 0,0⟩ j).q=none∧S0.own (upd ss i ⟨q,b32,⟨nms[i],w,files[i].length,0,0,0⟩,.slice none 0 0,0⟩ j).sb=none:=fun j hj=>by
   have hno:∀ {t:Nat},(S.own t=none∨(S.set q (rdB a ⟨nms[i],w,files[i].length,0,0,0⟩)).own t=none)→S0.own t=none:=fun {t} ht=>by
    cases e:S0.own t with
    | none=>rfl
    | some k =>
     have e2:=hI.sl.own e
     rcases ht with ht | ht
     ·rw [e2] at ht;cases ht
     ·rw [Mem.own_set_other _ _ (hqn.ne e2),e2] at ht;cases ht
   by_cases e:j=i
   ·subst e
    rw [zaI]
    exact ⟨rfl,by rw [List.getD_eq_getElem?_getD,List.getElem?_eq_getElem hin];rfl,hno (.inl hqn.1),hno (.inr k1.1)⟩
   ·rw [zar ss _ e];exact hI.st j (by omega)
  have hsl2:=hI.sl.trans ((Mem.less_set _ _ (rdB a ⟨nms[i],w,files[i].length,0,0,0⟩) hqn.1).trans (Mem.less_set _ _ (srB q (.slice none 0 0)) k1.1))
  have eP:ptrs ss i ++ [self b32]=ptrs (upd ss i ⟨q,b32,⟨nms[i],w,files[i].length,0,0,0⟩,.slice none 0 0,0⟩) (i+1):=(zpG ss i ⟨q,b32,⟨nms[i],w,files[i].length,0,0,0⟩,.slice none 0 0,0⟩).symm
  rw [eP]
  have oq:=zaj hmg2.ar ((Mem.own_set_other _ _ (fun e=>by have:=k1.1;rw [← e,Mem.own_set_same] at this;cases this)).trans (Mem.own_set_same S q (rdB a ⟨nms[i],w,files[i].length,0,0,0⟩)))
  generalize upd ss i ⟨q,b32,⟨nms[i],w,files[i].length,0,0,0⟩,.slice none 0 0,0⟩=ss2 at *
  have g0:=hmg2.s1 0 (by rw [List.length_take];omega)
  have oq0:=zaj hmg2.ar g0.oq
  have os0:=zaj hmg2.ar g0.os
  have hw0:=g0.wd
  unfold rdB at oq oq0
  unfold srB at os0 oq oq0
  dsimp only at oq
  rw [hw0] at oq0
  have n1':=hg.ne oq
  have n2':=hg.ne oq0
  have n3':=hg.ne os0
  have m1:=(Mem.own_set_other _ ⟨189,ptrs ss2 (i+1),gc*1⟩ n1').trans oq
  have m2:=(Mem.own_set_other _ ⟨189,ptrs ss2 (i+1),gc*1⟩ n2').trans oq0
  have m3:=(Mem.own_set_other _ ⟨189,ptrs ss2 (i+1),gc*1⟩ n3').trans os0
  have hp0:(ptrs ss2 (i+1))[0]?=some (self (ss2 0).sb):=by unfold ptrs;simp
  have hst:=zpF files q1
  have hsl3:=ztu files (i+1)
  skip
  refine r3_ ?_
  refine AWP.less ((T1.set b32 ⟨188,[self q,.slice none 0 0],2⟩).set g ⟨189,ptrs ss2 (i+1),gc*1⟩) (Mem.Less.refl _) ?_
  refine r2_ ?_
  refine AWP.draw [(0,true),(1,true),(2,true),(3,true),(4,true),(5,true),(6,true),(7,true),(8,true),(9,true),(10,true),(11,true),(12,true),(13,true)] [] mixed (by kernel_rfl) ?_
  refine r6_ ?_
  refine dC (hc:=Calm.load zb7 rfl (v:=self (ss2 0).sb) (zbt (Mem.own_set_same _ _ _) hp0)) (h:=?_)
  refine r9_ ?_
  refine zgg 0 7 8 9 14 15 16 17 11 12 13 27 48 ?_
  refine cF_ ?_
  refine r19_ ?_
  refine cF_ ?_
  refine r8_ ?_
  refine ⟨⟨(S.set q (rdB a ⟨nms[i],w,files[i].length,0,0,0⟩)).set b32 (srB q (.slice none 0 0)),T1.set b32 ⟨188,[self q,.slice none 0 0],2⟩,y,ss2,i+1,some (g,gc)⟩,?_,?_,?_,?_⟩
  all_goals (try dsimp only)
  ·exact ⟨rfl,rfl,zai (by omega),rfl,rfl,rfl,rfl,trivial⟩
  ·exact Mem.Less.refl _
  ·exact ⟨hmg2,q1,hsl2,hyf.trans hI.xf,hyd.trans hI.xd,ho2,hst2⟩
  ·omega
 ·obtain rfl:i=files.length:=by omega
  refine r6_ ?_
  refine cF_ ?_
  have hIm:=hI.mg
  refine r16_ ?_
  refine ⟨_,_,⟨_,_,rfl,⟨_,_,rfl,⟨_,_,rfl,rfl,rfl⟩,rfl⟩,rfl⟩,Mem.Less.refl _,?_⟩
  exact ⟨⟨S,T,x,ss,0,o⟩,by rw [List.take_length];rfl,rfl,hI⟩
end Sto
end
section
open Go.RowKit
open Mv Disk Num Loser
set_option maxRecDepth 4000
namespace Sto
def bxB (q:Nat):Blk:=⟨67,[self q],1⟩
structure MwS (S T R K:Mem) (a p b c qw bx:Nat) (x:Pl) (n w B:Nat) (files:List (List (List Nat))) (ss:Nat→Sc) (wt:Wt) (out:List (List Nat)):Prop where
  mg:MgS S T R a p b c x n (B+if 0<wt.held then 1 else 0) w files ss
  ow:S.own qw=some (wtB a wt)
  ob:S.own bx=some (bxB qw)
  us:Use x wt.nm wt.fr wt.held
  wd:wt.w=w
  ct:wt.ct=out.length
  at_:wt.at_=5*w*out.length
  wr:Wrote x wt.nm (out.flatMap recB)
  ok:RowsOK w out
  nn:∀ i,i<files.length→(ss i).r.nm≠wt.nm
  rq:R.own qw=none
  ns:ns x.d wt.nm=Rec.needN w (sumL files)
  kb:K.Less S
  kn:∀ t,OfSc files.length ss t∨t=qw→K.own t=none
theorem zhT {S:Mem} {s t:Nat} {j k:Blk} (h:S.own s=some j) (h':S.own t=some k) (hne:j.elem≠k.elem):s≠t:=fun e=>by
 subst e
 rw [h] at h'
 exact hne (by rw [Option.some.inj h'])
theorem zt6:179≠115:=by decide
theorem zt7:179≠188:=by decide
theorem zt8:67≠115:=by decide
theorem zt9:67≠188:=by decide
theorem zt_:67≠179:=by decide
theorem MwS.far {S T R K:Mem} {a p b c qw bx:Nat} {x:Pl} {n w' B:Nat} {files:List (List (List Nat))} {ss:Nat→Sc} {wt:Wt} {out:List (List Nat)} (h:MwS S T R K a p b c qw bx x n w' B files ss wt out) {i:Nat} (hi:i<files.length):(qw≠(ss i).q∧qw≠(ss i).sb)∧bx≠(ss i).q∧bx≠(ss i).sb :=
 ⟨⟨zhT h.ow (h.mg.s1 i hi).oq zt6,zhT h.ow (h.mg.s1 i hi).os zt7⟩,zhT h.ob (h.mg.s1 i hi).oq zt8,zhT h.ob (h.mg.s1 i hi).os zt9⟩
theorem MwS.next {S T R S' T' R' K:Mem} {a p b c qw bx:Nat} {x y:Pl} {n n' w' B:Nat} {files:List (List (List Nat))} {ss:Nat→Sc} {wt:Wt} {out:List (List Nat)} {i:Nat} {s':Sc} {v:Value} {row:List Nat} (h:MwS S T R K a p b c qw bx x n w' B files ss wt out) (hi:i<files.length) (hN:NextR S R S' T' R' a p b c x y n' (B+if 0<wt.held then 1 else 0) w' files ss i s' v row) :
  MwS S' T' R' K a p b c qw bx y n' w' B files (upd ss i s') wt out:=by
 obtain ⟨⟨f1,f2⟩,f3,f4⟩:=h.far hi
 obtain ⟨e1,e2,e3⟩:=hN.q
 refine ⟨hN.mg,hN.kp.own _ _ (fun e=>e.elim f1 f2) h.ow,hN.kp.own _ _ (fun e=>e.elim f3 f4) h.ob,h.us.oth hN.ot (Ne.symm (h.nn i hi)) hN.st.l,h.wd,h.ct,h.at_,h.wr.stays hN.st,h.ok,fun j hj=>?_,hN.rn _ _ h.ow h.rq,(hN.st.n _).trans h.ns,⟨fun t k ht=>hN.kp.own t k (fun e=>?_) (h.kb.own ht),h.kb.2.trans hN.kp.ro.symm⟩,fun t ht=>h.kn t ?_⟩
 ·by_cases e:j=i
  ·subst e;rw [zaI,e3];exact h.nn j hj
  ·rw [zar ss s' e];exact h.nn j hj
 ·have:=h.kn t (.inl ⟨i,hi,e⟩)
  rw [ht] at this;cases this
 ·rcases ht with ⟨j,hj,ht⟩ | ht
  ·refine .inl ⟨j,hj,?_⟩
   by_cases e:j=i
   ·subst e;rw [zaI,e1,e2] at ht;exact ht
   ·rw [zar ss s' e] at ht;exact ht
  ·exact .inr ht
theorem MwS.wts {S T R K:Mem} {a p b c qw bx:Nat} {x:Pl} {n w' B:Nat} {files:List (List (List Nat))} {ss:Nat→Sc} {wt:Wt} {out:List (List Nat)} (h:MwS S T R K a p b c qw bx x n w' B files ss wt out) (hw1:1≤w'):WtS S a p b c qw wt x n (B+hcnt files.length fun i=>(ss i).r) (out.flatMap recB) T :=
 ⟨h.mg.ar,h.ow,h.mg.ps,h.us,by have:=h.mg.nb;omega,by rw [h.at_,zeO hw1 h.ok,zjK hw1],h.wr⟩
theorem MwS.put {S T T' R K:Mem} {a p b c qw bx:Nat} {x y:Pl} {n n' w' B:Nat} {files:List (List (List Nat))} {ss:Nat→Sc} {wt wt':Wt} {out:List (List Nat)} {row:List Nat} (h:MwS S T R K a p b c qw bx x n w' B files ss wt out) (hw1:1≤w') (hT:WtT S a p b c qw wt wt' x y n' (B+hcnt files.length fun i=>(ss i).r) (out.flatMap recB ++ recB row) T') (hr:row.length=w' ∧ ∀ m ∈ row,m<Num.top) (h1:wt'.w=wt.w) (h2:wt'.ct=wt.ct+1) (h3:wt'.at_=wt.at_+5*w') :
  MwS (S.set qw (wtB a wt')) T' R K a p b c qw bx y n' w' B files ss wt' (out ++ [row]):=by
 have hl:(out ++ [row]).length=out.length+1:=by rw [List.length_append];rfl
 have hwr:=hT.s.wr
 refine ⟨⟨hT.s.ar,hT.s.ps,fun i hi=>?_,by have:=hT.s.nb;omega,h.mg.df,zap h.mg.rl h.rq⟩,Mem.own_set_same _ _ _,(Mem.own_set_other _ _ (zhT h.ob h.ow zt_)).trans h.ob,hT.s.us,h1.trans h.wd,by rw [h2,h.ct,hl],by rw [h3,h.at_,hl,Nat.mul_add,Nat.mul_one],?_,fun r hm=>?_,fun i hi=>by rw [hT.nm];exact h.nn i hi,h.rq,by rw [hT.nm,hT.st.n];exact h.ns,zap h.kb (h.kn qw (.inr rfl)),h.kn⟩
 ·obtain ⟨⟨f1,f2⟩,_⟩:=h.far hi
  have g:=h.mg.s1 i hi
  exact ⟨(Mem.own_set_other _ _ (Ne.symm f1)).trans g.oq,(Mem.own_set_other _ _ (Ne.symm f2)).trans g.os,g.us.oth hT.ot (h.nn i hi) hT.st.l,g.hs.near hT.st (h.nn i hi),g.wd,g.ct,g.at_,g.le,g.lv,g.rq,g.rs⟩
 ·rw [List.flatMap_append]
  simp only [List.flatMap_cons,List.flatMap_nil,List.append_nil]
  exact hwr
 ·rcases List.mem_append.1 hm with hm | hm
  ·exact h.ok r hm
  ·rw [List.mem_singleton.1 hm];exact hr
set_option maxHeartbeats 4000000 in
theorem ztv (S T R K:Mem) (a p b c qw bx:Nat) (x:Pl) (n w B:Nat) (files:List (List (List Nat))) (ss:Nat→Sc) (wt:Wt) (out:List (List Nat)) (v:Value) (row:List Nat) (h:MwS S T R K a p b c qw bx x n w B files ss wt out) (hv:RowR R v row) (hr:row.length=w ∧ ∀ m ∈ row,m<Num.top) (h1:1≤w) (h8:w≤8) (ho:out.length<sumL files) (hs:sumL files≤65536) (hn:n+5*w≤16384) (hm:files.length+B+1≤x.fr.length) :
  ACall Tryz.prog 104 #[v,.pointer (some ⟨bx,0,none⟩)] T fun rv T'=>rv = .nilIface ∧ ∃ S' y wt',wt'.nm=wt.nm∧y.fr.length=x.fr.length∧MwS S' T' R K a p b c qw bx y (n+5*w) w B files ss wt' (out ++ [row]):=by
 have hmk:5*w*(out.length+1)≤5*w*sumL files:=Nat.mul_le_mul_left _ ho
 rw [Nat.mul_add,Nat.mul_one] at hmk
 have hmul:5*w*sumL files≤40*65536:=Nat.mul_le_mul (by omega) hs
 have hput:=zqq S a p b c qw wt x n _ _ v row T (h.wts h1) (hv.less (h.mg.rl.trans (zaQ h.mg.ar))) (by omega) (by omega) (fun z hz=>Nat.lt_of_lt_of_le (hr.2 z hz) (by decide)) (by rw [h.ct];omega) (by rw [h.at_,hr.1];omega) (by rw [h.at_,hr.1,h.ns];unfold Rec.needN Rec.eachN;rw [if_neg (by omega)];omega) (by rw [hr.1];exact hn) (by have:=znh files.length fun i=>(ss i).r;omega)
 have ob:=zaj h.mg.ar h.ob
 unfold bxB at ob
 obtain ⟨pv,cv,rfl,_⟩:=id hv
 refine k_E2 (rs:=[.tmp 3]) 8 Tryz.func104 rfl rfl rfl ?_
 refine r9_ ?_
 refine ca_ rfl (hput) ?_
 rintro _ T' ⟨rfl,y,f,hd,hT⟩
 refine ca_ rfl (zce _ _) ?_
 rintro _ S1 ⟨rfl,h1'⟩
 rw [h1'];clear h1' S1
 rw [hr.1] at hT
 refine r4_ ?_
 refine ⟨_,T',⟨_,_,rfl,rfl,rfl⟩,zad,?_⟩
 exact ⟨rfl,_,y,_,hT.nm,hT.st.l,h.put h1 hT hr rfl rfl rfl⟩
theorem losFrame {T:Mem} {g b q p:Nat} {Gb:Blk} {hs:List Value} {tr:List Int} {k c:Nat} {f:FuncId} {args:Array Value} {R:Value→Mem→Prop} (h:ACall Tryz.prog f args T R) (hg:Fresh T g) (hF:LosF (T.set g Gb) b q p) :
  ACall Tryz.prog f args (losM (T.set g Gb) b q p hs tr k c) fun r S'=>∃ T',R r T'∧Fresh T' g∧LosF (T'.set g Gb) b q p∧S'=losM (T'.set g Gb) b q p hs tr k c:=by
 unfold losM
 refine ((((h.frame (r:=Gb) hg).frame (r:=⟨22,hs,k⟩) hF.fb).frame (r:=⟨3,tr.map (fun x=>Value.int .i64 x),c⟩) (zal hF.fq (Ne.symm hF.bq))).frame (r:=⟨244,[.slice (some ⟨b,0,none⟩) k k,.slice (some ⟨q,0,none⟩) k c],2⟩) (zal (zal hF.fp (Ne.symm hF.bp)) (Ne.symm hF.qp))).mono fun r S' ⟨S4,⟨S3,⟨S2,⟨T',hR,g1,e1⟩,g2,e2⟩,g3,e3⟩,g4,e4⟩=>?_
 subst e1 e2 e3 e4
 exact ⟨T',hR,g1,⟨g2,(zaa g3).1,(zaa (zaa g4).1).1,hF.bq,hF.bp,hF.qp⟩,rfl⟩
end Sto
end
section
open Go.RowKit
open Mv Disk Num Loser
set_option maxRecDepth 4000
namespace Sto
theorem MgS.mono {S T R:Mem} {a p b c:Nat} {x:Pl} {n n' W w:Nat} {files:List (List (List Nat))} {ss:Nat→Sc} (h:MgS S T R a p b c x n W w files ss) (k:n≤n'):MgS S T R a p b c x n' W w files ss:=⟨h.ar,h.ps.mono k,h.s1,h.nb,h.df,h.rl⟩
theorem NextR.mono {S R S' T' R':Mem} {a p b c:Nat} {x y:Pl} {n n' W w:Nat} {files:List (List (List Nat))} {ss:Nat→Sc} {i:Nat} {s':Sc} {v:Value} {row:List Nat} (h:NextR S R S' T' R' a p b c x y n W w files ss i s' v row) (k:n≤n'):NextR S R S' T' R' a p b c x y n' W w files ss i s' v row:=⟨h.mg.mono k,h.st,h.ot,h.kp,h.q,h.rr,h.row,h.rn⟩
theorem zjT (S T R:Mem) (a p b c:Nat) (x:Pl) (n W w:Nat) (files:List (List (List Nat))) (ss:Nat→Sc) (h:MgS S T R a p b c x n W w files ss) (i:Nat) (hi:i<files.length) (hf:FileOK w files[i]) (hw1:1≤w) (hw8:w≤8) (hn:n+5*w≤16384) (hm:files.length+W≤x.fr.length) :
  ACall Tryz.prog 150 #[self (ss i).sb] T fun v T'=>∃ u S' R' y s',v = .tuple #[u,.nilIface]∧files[i].drop s'.k=(files[i].drop (ss i).k).tail∧(files[i].drop (ss i).k = []→s'.r.held=0)∧NextR S R S' T' R' a p b c x y (n+5*w) W w files ss i s' u ((files[i].drop (ss i).k).headD []):=by
 have hle:=(h.s1 i hi).le
 by_cases q1:(ss i).k<files[i].length
 ·refine (zpD S T R a p b c x n W w files ss h i hi hf hw1 hw8 hn hm q1).mono fun v T' ⟨u,S',R',y,s',e1,e2,e3⟩=>⟨u,S',R',y,s',e1,by rw [e2,List.tail_drop],fun e=>(by have:=congrArg List.length e;simp at this;omega),?_⟩
  rw [List.drop_eq_getElem_cons q1]
  exact e3
 ·have he:(ss i).k=files[i].length:=by omega
  refine (zpE S T R a p b c x n W w files ss h i hi hf hw1 hw8 he).mono fun v T' ⟨S',y,s',e1,e2,e0,e3⟩=>⟨_,S',R,y,s',e1,by rw [e2,he,List.drop_length];rfl,fun _=>e0,?_⟩
  rw [he,List.drop_length]
  exact e3.mono (Nat.le_add_right _ _)
structure MX where
  S:Mem
  T:Mem
  R:Mem
  x:Pl
  n:Nat
  ss:Nat→Sc
  wt:Wt
  out:List (List Nat)
  rem:List (List (List Nat))
  hs:List Value
structure MrI (K:Mem) (a p b c qw bx w B:Nat) (files:List (List (List Nat))) (ss0:Nat→Sc) (nm0:ByteArray) (m0:Nat) (X:MX) (m:Nat):Prop where
  mw:MwS X.S X.T X.R K a p b c qw bx X.x X.n w B files X.ss X.wt X.out
  rl:X.rem.length=files.length
  tl:∀ i (h:i<files.length) (h':i<X.rem.length),if i<m then X.rem[i].tail=files[i].drop (X.ss i).k else X.rem[i]=files[i]∧(X.ss i).k=0
  hl:X.hs.length=files.length
  hr:∀ i (h:i<X.rem.length) (h':i<X.hs.length),i<m→RowR X.R X.hs[i] (X.rem[i].headD [])
  sb:∀ i,(X.ss i).sb=(ss0 i).sb
  hn:∀ i,(X.ss i).r.nm=(ss0 i).r.nm
  nl:X.n≤5*w*(m+2*X.out.length)
  xl:X.x.fr.length=m0
  wn:X.wt.nm=nm0
  hz:∀ i,i<m→X.rem[i]?=some []→(X.ss i).r.held=0
theorem MrI.all {K:Mem} {a p b c qw bx w B:Nat} {files:List (List (List Nat))} {ss0:Nat→Sc} {nm0:ByteArray} {m0:Nat} {X:MX} {M:Mem} (h:MrI K a p b c qw bx w B files ss0 nm0 m0 X files.length) (hM:X.R.Less M):∀ i (h:i<(hds X.rem).length) (h':i<X.hs.length),RowR M X.hs[i] (hds X.rem)[i]:=fun i hi hi'=>by
 have hi2:i<X.rem.length:=by unfold hds at hi;simpa using hi
 have:=h.hr i hi2 hi' (by rw [← h.rl];exact hi2)
 rw [← zcf _ _ hi,zgM _ hi2]
 exact this.less hM
theorem ztw {β : Type} (f:Sc → β) (ss:Nat→Sc) (i:Nat) (s:Sc) (ss0:Nat→Sc) (h:∀ j,f (ss j)=f (ss0 j)) (hs:f s=f (ss i)):∀ j,f (upd ss i s j)=f (ss0 j):=fun j=>by
 by_cases e:j=i
 ·subst e;rw [zaI,hs];exact h j
 ·rw [zar ss s e];exact h j
theorem MrI.next {K:Mem} {a p b c qw bx w B:Nat} {files:List (List (List Nat))} {ss0:Nat→Sc} {nm0:ByteArray} {m0:Nat} {X:MX} {m m':Nat} (h:MrI K a p b c qw bx w B files ss0 nm0 m0 X m) {i:Nat} (hi:i<files.length) (hir:i<X.rem.length) {S' T' R':Mem} {y:Pl} {n':Nat} {s':Sc} {u:Value}
  (hN:NextR X.S X.R S' T' R' a p b c X.x y n' (B+if 0<X.wt.held then 1 else 0) w files X.ss i s' u ((files[i].drop (X.ss i).k).headD [])) (hk:files[i].drop s'.k=(files[i].drop (X.ss i).k).tail) (hm:m'=m∧i<m∨m'=m+1∧i=m) (hn:n'≤5*w*(m'+2*X.out.length)) (hz0:files[i].drop (X.ss i).k = []→s'.r.held=0) :
  MrI K a p b c qw bx w B files ss0 nm0 m0 ⟨S',T',R',y,n',upd X.ss i s',X.wt,X.out,X.rem.set i (files[i].drop (X.ss i).k),X.hs.set i u⟩ m':=by
 obtain ⟨e1,e2,e3⟩:=hN.q
 refine ⟨h.mw.next hi hN,by simp [h.rl],fun j hj hj'=>?_,by simp [h.hl],fun j hj hj' hjm=>?_,ztw _ _ _ _ _ h.sb e2,ztw (fun s=>s.r.nm) _ _ _ _ h.hn e3,hn,hN.st.l.trans h.xl,h.wn,fun j hj e0=>?_⟩
 ·dsimp only at hj' ⊢
  by_cases e:i=j
  ·subst e
   rw [List.getElem_set_self,zaI,if_pos (by omega),hk]
  ·rw [List.getElem_set_ne e,zar _ _ (Ne.symm e)]
   have:=h.tl j hj (by simpa using hj')
   by_cases q1:j<m
   ·rw [if_pos q1] at this;rw [if_pos (by omega)];exact this
   ·rw [if_neg q1] at this;rw [if_neg (by omega)];exact this
 ·dsimp only at hj hj' ⊢
  by_cases e:i=j
  ·subst e
   rw [List.getElem_set_self,List.getElem_set_self]
   exact hN.row
  ·rw [List.getElem_set_ne e,List.getElem_set_ne e]
   exact (h.hr j (by simpa using hj) (by simpa using hj') (by omega)).less hN.rr
 ·dsimp only at e0 ⊢
  by_cases e:j=i
  ·subst e
   rw [List.getElem?_set_self hir] at e0
   rw [zaI];exact hz0 (Option.some.inj e0)
  ·rw [List.getElem?_set_ne (Ne.symm e)] at e0
   rw [zar _ _ e];exact h.hz j (by omega) e0
theorem MrI.put {K:Mem} {a p b c qw bx w B:Nat} {files:List (List (List Nat))} {ss0:Nat→Sc} {nm0:ByteArray} {m0:Nat} {X:MX} {m:Nat} (h:MrI K a p b c qw bx w B files ss0 nm0 m0 X m) {S' T':Mem} {y:Pl} {wt':Wt} {row:List Nat} (hM:MwS S' T' X.R K a p b c qw bx y (X.n+5*w) w B files X.ss wt' (X.out ++ [row])) (hw:wt'.nm=X.wt.nm) (hl:y.fr.length=X.x.fr.length) :
  MrI K a p b c qw bx w B files ss0 nm0 m0 ⟨S',T',X.R,y,X.n+5*w,X.ss,wt',X.out ++ [row],X.rem,X.hs⟩ m :=
 ⟨hM,h.rl,h.tl,h.hl,h.hr,h.sb,h.hn,by
  have:=h.nl
  show X.n+5*w≤5*w*(m+2*(X.out ++ [row]).length)
  rw [List.length_append,List.length_singleton,show m+2*(X.out.length+1)=m+2*X.out.length+2 from by omega,Nat.mul_add]
  omega,hl.trans h.xl,hw.trans h.wn,h.hz⟩
theorem zi1 {ss ss0:Nat→Sc} (h:∀ i,(ss i).sb=(ss0 i).sb) (k:Nat) {i:Nat} (hi:i<k):(ptrs ss0 k)[i]?=some (self (ss i).sb):=by
 unfold ptrs
 rw [List.getElem?_map,List.getElem?_range hi,h i];rfl
theorem zkR {T:Mem} {g b q p:Nat} {Gb:Blk} {hs:List Value} {tr:List Int} {k c:Nat} (h:LosF (T.set g Gb) b q p):(losM (T.set g Gb) b q p hs tr k c).own g=some Gb:=by
 have ho:=Mem.own_set_same T g Gb
 unfold losM
 rw [Mem.own_set_other _ _ (h.fp.ne ho),Mem.own_set_other _ _ (h.fq.ne ho),Mem.own_set_other _ _ (h.fb.ne ho)]
 exact ho
theorem zrQ {files rem:List (List (List Nat))} {out:List (List Nat)} {w i:Nat} {row:List Nat} {rest:List (List Nat)} (h:MgI files.flatten rem out) (h2:MgI files.flatten (rem.set i rest) (out ++ [row])) (hi:i<rem.length) (er:rem[i]=row :: rest) (hfo:∀ f ∈ files,FileOK w f):(row.length=w ∧ ∀ m ∈ row,m<Num.top)∧out.length<sumL files:=by
 have hm:row ∈ files.flatten:=h.pm.mem_iff.1 (List.mem_append_right _ (List.mem_flatten.2 ⟨rem[i],List.getElem_mem hi,by rw [er];exact List.mem_cons_self ..⟩))
 obtain ⟨f,hf,hr⟩:=List.mem_flatten.1 hm
 refine ⟨(hfo f hf).ok row hr,?_⟩
 have:=h2.pm.length_eq
 rw [List.length_append,List.length_append,List.length_singleton,List.length_flatten (L:=files)] at this
 show out.length<(files.map List.length).sum
 omega
set_option maxHeartbeats 8000000 in
theorem ztx (S T K:Mem) (a p b c qw bx:Nat) (x:Pl) (w B:Nat) (files:List (List (List Nat))) (ss:Nat→Sc) (wt:Wt) (g cc room:Nat) (h:MwS S T (noMem S) K a p b c qw bx x 0 w B files ss wt []) (hg:Fresh T g) (hk0:∀ j,j<files.length→(ss j).k=0) (hfo:∀ f ∈ files,FileOK w f) (h1:1≤w) (h8:w≤8) (hs:sumL files≤65536) (hl1:1≤files.length) (hl2:files.length≤256) (hn:5*w*(files.length+2*sumL files+2)≤16384) (hm:files.length+B+1≤x.fr.length) :
  ACall Tryz.prog 103 #[.slice (some ⟨g,0,none⟩) files.length cc,.func (.func 104) #[] #[.pointer (some ⟨bx,0,none⟩)]] (T.set g ⟨189,ptrs ss files.length,room⟩) fun v T'=>v = .nilIface ∧ ∃ X:MX,MrI K a p b c qw bx w B files ss wt.nm x.fr.length X files.length∧Fresh X.T g∧X.out.Perm files.flatten∧SortedR X.out∧(∀ i,i<files.length→(X.ss i).r.held=0)∧T'=X.T:=by
 have hne:∀ f ∈ files,∀ y ∈ f,y ≠ []:=fun f hf y hy e=>by have:=((hfo f hf).ok y hy).1;rw [e] at this;simp at this;omega
 refine k_E2 (rs:=[.tmp 4]) 75 Tryz.func103 rfl rfl rfl ?_
 refine r9_ ?_
 refine ARun.makeSlice (zab rfl) zcx rfl rfl (by omega) (by omega) (by omega) (by omega) ?_
 intro b18 f18
 have g18:=f18
 repeat ((with_reducible replace g18:=zaa g18);obtain ⟨g18,_⟩:=g18)
 refine r12_ ?_
 refine AWP.loop (X:=MX × Nat) (fun X=>[(0,.slice (some ⟨g,0,none⟩) files.length cc),(1,.func (.func 104) #[] #[.pointer (some ⟨bx,0,none⟩)]),(5,.slice (some ⟨b18,0,none⟩) files.length files.length),(19,.slice (some ⟨g,0,none⟩) files.length cc),(20,.int .i64 (files.length:Nat)),(21,.int .i64 (X.2:Nat))]) (fun X=>(X.1.T.set g ⟨189,ptrs ss files.length,room⟩).set b18 ⟨22,X.1.hs,files.length⟩) (fun X=>MrI K a p b c qw bx w B files ss wt.nm x.fr.length X.1 X.2∧Fresh X.1.T g∧Fresh (X.1.T.set g ⟨189,ptrs ss files.length,room⟩) b18∧X.1.rem=files∧X.1.out = []∧X.2≤files.length) (fun X=>files.length-X.2) ((⟨S,T,noMem S,x,0,ss,wt,[],files,List.replicate files.length (.slice none 0 0)⟩,0)) ⟨rfl,rfl,rfl,rfl,rfl,rfl,trivial⟩ (zei (by rw [Int.toNat_natCast,Nat.mul_one,za8])) (⟨⟨h,rfl,fun i hi hi'=>by rw [if_neg (Nat.not_lt_zero i)];exact ⟨rfl,hk0 i hi⟩,by simp,fun i hi hi' h=>absurd h (Nat.not_lt_zero i),fun _=>rfl,fun _=>rfl,Nat.zero_le _,rfl,rfl,fun i h=>absurd h (Nat.not_lt_zero i)⟩,hg,f18,rfl,rfl,Nat.zero_le _⟩) ?_
 rintro ⟨X,i⟩ ⟨hI,hfg,hf18,hrem,hout,hi⟩
 (try dsimp only at *)
 replace hI:MrI K a p b c qw bx w B files ss wt.nm x.fr.length X i:=hI
 replace hi:i≤files.length:=hi
 by_cases q1:i<files.length
 ·have hir:i<X.rem.length:=by rw [hI.rl];exact q1
  have hgb:g≠b18:=fun e=>by have:=hf18.1;rw [← e,Mem.own_set_same] at this;cases this
  have hnl:=hI.nl
  have hmul:5*w*(i+2*X.out.length+1)≤5*w*(files.length+2*sumL files+2):=Nat.mul_le_mul_left _ (by rw [hout];simp;omega)
  rw [Nat.mul_add,Nat.mul_one] at hmul
  have hnx:=((zjT X.S X.T X.R a p b c X.x X.n _ w files X.ss hI.mw.mg i q1 (hfo _ (List.getElem_mem q1)) h1 h8 (by omega) (by rw [hI.xl];split <;> omega)).frame (r:=⟨189,ptrs ss files.length,room⟩) hfg).frame (r:=⟨22,X.hs,files.length⟩) hf18
  have hhl:=hI.hl
  have htl:=hI.tl i q1 hir
  rw [if_neg (Nat.lt_irrefl i)] at htl
  refine r6_ ?_
  refine cT_ ?_
  refine r8_ ?_
  refine rC (Calm.load zb7 rfl (v:=self (X.ss i).sb) (zbt ((Mem.own_set_other _ _ hgb).trans (Mem.own_set_same _ _ _)) (by have:=zi1 hI.sb files.length q1;rw [show 0+(i:Int).toNat*1=i from by omega];exact this))) ?_
  refine r7_ ?_
  refine ca_ rfl (hnx) ?_
  rintro _ S1 ⟨Sa,⟨T2,⟨u,S',R',y,s',rfl,hk,hz,hN⟩,hfg2,hSa⟩,hf182,h1'⟩
  rw [h1',hSa];rw [hSa] at hf182;clear h1' S1 hSa Sa
  obtain ⟨pu,cu,rfl,_⟩:=id hN.row
  refine r11_ ?_
  refine rC (Calm.bin rfl rfl Er.neNil) ?_
  refine r2_ ?_
  refine cF_ ?_
  have hX:=hI.next (m':=i+1) q1 hir hN hk (.inr ⟨rfl,rfl⟩) (by rw [show i+1+2*X.out.length=i+2*X.out.length+1 from by omega,Nat.mul_add,Nat.mul_one];omega) hz
  refine r7_ ?_
  refine ARun.store1 rfl rfl zfA rfl (Mem.own_set_same _ _ _) (by show 0+(i:Int).toNat*1<X.hs.length;omega) rfl ?_
  try simp only [k_ms,k_sz,k_ss,k_za,Nat.reduceAdd]
  refine r3_ ?_
  refine zh9 0 1 5 19 20 21 22 6 7 8 9 32 ?_
  refine r5_ ?_
  refine ⟨(⟨S',T2,R',y,X.n+5*w,upd X.ss i s',X.wt,X.out,X.rem.set i (files[i].drop (X.ss i).k),X.hs.set i (.slice pu ((files[i].drop (X.ss i).k).headD []).length cu)⟩,i+1),?_,?_,?_,?_⟩
  all_goals (try dsimp only)
  ·exact ⟨rfl,rfl,rfl,rfl,rfl,zai (by omega),trivial⟩
  ·(rw [show (i:Int).toNat*1=i from by omega];exact Mem.Less.refl _)
  ·exact ⟨hX,hfg2,hf182,by rw [htl.2,List.drop_zero,← htl.1,List.set_getElem_self];exact hrem,hout,q1⟩
  ·omega
 ·obtain rfl:i=files.length:=by omega
  obtain ⟨S,T,R,x1,n1,ss1,wt1,out1,rem1,hs1⟩:=X
  obtain rfl:files=rem1:=hrem.symm
  obtain rfl:out1 = []:=hout
  have hhl:hs1.length=files.length:=hI.hl
  have hlk:(hds files).length=files.length:=by unfold hds;simp
  have hRT:R.Less (T.set g ⟨189,ptrs ss files.length,room⟩):=(hI.mw.mg.rl.trans (zaQ hI.mw.mg.ar)).trans (Mem.less_set _ _ _ hfg.1)
  have hsl:SlOf RowR ((T.set g ⟨189,ptrs ss files.length,room⟩).set b18 ⟨22,hs1,files.length⟩) (.slice (some ⟨b18,0,none⟩) (hds files).length (hds files).length) (hds files):=⟨hs1,by rw [hhl,hlk],Sl.own1 (g:=fun x:Value=>x) (r:=⟨_,hs1,files.length⟩) (Mem.own_set_same _ _ _) (by simp) (by rw [hhl,hlk]) (Nat.le_refl _) (by omega),fun i h1 h2=>(hI.all hRT i h1 h2).less (Mem.less_set _ _ _ hf18.1)⟩
  rw [hlk] at hsl
  have hof:=zrK (.slice (some ⟨b18,0,none⟩) files.length files.length) (hds files) _ hsl (by omega) (by omega)
  rw [hlk] at hof
  refine r6_ ?_
  refine cF_ ?_
  refine r8_ ?_
  refine ca_ rfl (hof) ?_
  rintro _ S1 ⟨p',q',hp',hq',hqp,rfl,h1'⟩
  rw [h1'];clear h1' S1
  obtain ⟨fp1,fp2⟩:=zaa hp'
  obtain ⟨fq1,fq2⟩:=zaa hq'
  have hLF:LosF (T.set g ⟨189,ptrs ss files.length,room⟩) b18 q' p':=⟨hf18,fq1,fp1,Ne.symm fq2,Ne.symm fp2,hqp⟩
  have hMI:=MgI.start (rem:=files) (fun r hr=>(hfo r hr).so) hne
  refine r4_ ?_
  refine AWP.loop (X:=MX) (fun X=>[(0,.slice (some ⟨g,0,none⟩) files.length cc),(1,.func (.func 104) #[] #[.pointer (some ⟨bx,0,none⟩)]),(10,.pointer (some ⟨p',0,none⟩))]) (fun X=>losM (X.T.set g ⟨189,ptrs ss files.length,room⟩) b18 q' p' X.hs (treeOf (hds X.rem)) files.length files.length) (fun X=>MrI K a p b c qw bx w B files ss wt.nm x.fr.length X files.length∧Fresh X.T g∧LosF (X.T.set g ⟨189,ptrs ss files.length,room⟩) b18 q' p'∧MgI files.flatten X.rem X.out) (fun X=>sumL files+1-X.out.length) (⟨S,T,R,x1,n1,ss1,wt1,[],files,hs1⟩) ⟨rfl,rfl,rfl,trivial⟩ (Mem.Less.refl _) (⟨hI,hfg,hLF,hMI⟩) ?_
  rintro X ⟨hI2,hfg2,hLF2,hM⟩
  (try dsimp only at *)
  clear hI hfg hf18 hRT hsl hLF hMI hp' hq' fp1 fq1
  replace hI2:MrI K a p b c qw bx w B files ss wt.nm x.fr.length X files.length:=hI2
  have hrl:=hI2.rl
  have hhl2:=hI2.hl
  have hlk2:(hds X.rem).length=files.length:=by unfold hds;simp [hrl]
  have hRM:X.R.Less (X.T.set g ⟨189,ptrs ss files.length,room⟩):=(hI2.mw.mg.rl.trans (zaQ hI2.mw.mg.ar)).trans (Mem.less_set _ _ _ hfg2.1)
  have hall:=hI2.all hRM
  have hlo:=zrM (tr:=treeOf (hds X.rem)) (c:=files.length) hLF2 (by rw [hhl2,hlk2]) hlk2.symm (by omega) (by rw [zaW,hlk2]) (Nat.le_refl _) hall
  have hwin:=zpz p' _ _ (hds X.rem) _ zen hlo (by omega)
  by_cases he:key (hds X.rem) (win (hds X.rem) 1) = []
  ·rw [decide_eq_false (not_not_intro he)] at hwin
   refine r4_ ?_
   refine ca_ rfl (hwin) ?_
   rintro _ S1 ⟨rfl,h1'⟩
   rw [h1'];clear h1' S1
   refine r14_ ?_
   refine cT_ ?_
   refine r10_ ?_
   refine ⟨_,X.T,⟨_,_,rfl,rfl,rfl⟩,(Mem.less_set _ _ _ hfg2.1).trans (zhO hLF2),?_⟩
   exact ⟨rfl,X,hI2,hfg2,(hM.done (by omega) he).1,hM.os,fun i hi=>hI2.hz i hi (by rw [List.getElem?_eq_getElem (by omega),(hM.done (by omega) he).2 _ (List.getElem_mem _)]),rfl⟩
  ·rw [decide_eq_true he] at hwin
   obtain ⟨hw,row,rest,er,ek,hM2⟩:=hM.step (by omega) he
   have hwf:win (hds X.rem) 1<files.length:=by omega
   have hwh:win (hds X.rem) 1<X.hs.length:=by omega
   have hrow:=hI2.hr _ hw hwh hwf
   rw [er] at hrow
   have htl:=hI2.tl _ hwf hw
   rw [if_pos hwf,er] at htl
   have hrest:rest=files[win (hds X.rem) 1].drop (X.ss (win (hds X.rem) 1)).k:=htl
   obtain ⟨hro,hlt⟩:=zrQ hM hM2 hw er hfo
   have hnl:=hI2.nl
   have hmul:5*w*(files.length+2*X.out.length+2)≤5*w*(files.length+2*sumL files+2):=Nat.mul_le_mul_left _ (by omega)
   rw [show files.length+2*X.out.length+2=files.length+2*X.out.length+1+1 from rfl,Nat.mul_add,Nat.mul_one,Nat.mul_add,Nat.mul_one] at hmul
   have hput:=losFrame (hs:=X.hs) (tr:=treeOf (hds X.rem)) (k:=files.length) (c:=files.length) (ztv X.S X.T X.R K a p b c qw bx X.x X.n w B files X.ss X.wt X.out X.hs[win (hds X.rem) 1] row hI2.mw hrow hro h1 h8 hlt hs (by omega) (by rw [hI2.xl];exact hm)) hfg2 hLF2
   have OP:=zen (M:=X.T.set g ⟨189,ptrs ss files.length,room⟩) (b:=b18) (q:=q') (p:=p') (hs:=X.hs) (tr:=treeOf (hds X.rem)) (k:=files.length) (c:=files.length)
   unfold treeB at OP
   have OB:=zf6 (hs:=X.hs) (tr:=treeOf (hds X.rem)) (k:=files.length) (c:=files.length) hLF2
   refine r4_ ?_
   refine ca_ rfl (hwin) ?_
   rintro _ S1 ⟨rfl,h1'⟩
   rw [h1'];clear h1' S1
   refine r14_ ?_
   refine k_v6 0 1 10 11 12 47 ?_
   refine cF_ ?_
   refine r13_ ?_
   refine rC (Calm.load zdr rfl (v:=X.hs[win (hds X.rem) 1]) (zbt OB (by show X.hs[0+((win (hds X.rem) 1:Nat):Int).toNat*1]?=_;rw [show 0+((win (hds X.rem) 1:Nat):Int).toNat*1=win (hds X.rem) 1 from by omega];exact List.getElem?_eq_getElem hwh))) ?_
   refine ARun.callV (zab rfl) zsP rfl rfl (hput) ?_
   rintro _ S1 ⟨T2,⟨rfl,S2,y2,wt2,hw2,hy2,hMw2⟩,hfg3,hLF3,h1'⟩
   rw [h1'];clear h1' S1
   have hI3:=hI2.put hMw2 hw2 hy2
   have hnx:=losFrame (hs:=X.hs) (tr:=treeOf (hds X.rem)) (k:=files.length) (c:=files.length) (zjT S2 T2 X.R a p b c y2 (X.n+5*w) _ w files X.ss hMw2.mg (win (hds X.rem) 1) hwf (hfo _ (List.getElem_mem hwf)) h1 h8 (by omega) (by rw [hy2,hI2.xl];split <;> omega)) hfg3 hLF3
   have OG:=zkR (hs:=X.hs) (tr:=treeOf (hds X.rem)) (k:=files.length) (c:=files.length) hLF3
   refine r6_ ?_
   refine rC (Calm.bin rfl rfl Er.neNil) ?_
   refine r2_ ?_
   refine cF_ ?_
   refine r7_ ?_
   refine rC (Calm.load zb7 rfl (v:=self (X.ss (win (hds X.rem) 1)).sb) (zbt OG (by have:=zi1 hI2.sb files.length hwf;rw [show 0+((win (hds X.rem) 1:Nat):Int).toNat*1=win (hds X.rem) 1 from by omega];exact this))) ?_
   refine ca_ rfl (hnx) ?_
   rintro _ S1 ⟨T3,⟨v3,S3,R3,y3,s',rfl,hk,hz,hN⟩,hfg4,hLF4,h1'⟩
   rw [h1'];clear h1' S1
   refine r11_ ?_
   refine rC (Calm.bin rfl rfl Er.neNil) ?_
   refine r2_ ?_
   have hI4:=hI3.next (m':=files.length) hwf hw hN hk (.inl ⟨rfl,hwf⟩) (by show X.n+5*w+5*w≤5*w*(files.length+2*(X.out ++ [row]).length);rw [List.length_append,List.length_singleton,show files.length+2*(X.out.length+1)=files.length+2*X.out.length+1+1 from by omega,Nat.mul_add,Nat.mul_one,Nat.mul_add,Nat.mul_one];omega) hz
   have hR3:=(hI4.mw.mg.rl.trans (zaQ hI4.mw.mg.ar)).trans (Mem.less_set T3 _ ⟨189,ptrs ss files.length,room⟩ hfg4.1)
   have hrep:=zhQ b18 q' p' (hds X.rem) X.hs files.length files.length _ v3 _ hLF4 (by rw [hhl2,hlk2]) hlk2.symm hl1 hl2 (Nat.le_refl _) (hI2.all (hN.rr.trans hR3)) (hN.row.less hR3)
   refine cF_ ?_
   refine r5_ ?_
   refine ca_ rfl (hrep) ?_
   rintro _ S1 h1'
   rw [h1'];clear h1' S1
   rw [hrest] at hM2
   refine r3_ ?_
   refine ⟨⟨S3,T3,R3,y3,X.n+5*w+5*w,upd X.ss (win (hds X.rem) 1) s',wt2,X.out ++ [row],X.rem.set (win (hds X.rem) 1) (files[win (hds X.rem) 1].drop (X.ss (win (hds X.rem) 1)).k),X.hs.set (win (hds X.rem) 1) v3⟩,?_,?_,?_,?_⟩
   all_goals (try dsimp only)
   ·exact ⟨rfl,rfl,rfl,trivial⟩
   ·(rw [zrN];exact Mem.Less.refl _)
   ·exact ⟨hI4,hfg4,hLF4,hM2⟩
   ·(rw [List.length_append];show sumL files+1-(X.out.length+1)<sumL files+1-X.out.length;omega)
end Sto
end
section
open Go.RowKit
open Mv Disk Num Loser
set_option maxRecDepth 4000
namespace Sto
theorem zrR (M:Mem) (w ct:Value) (bo qw:Nat) (h:M.own bo=some (bxB qw)) :
  ACall Tryz.prog 55 #[w,ct,.pointer (some ⟨bo,0,none⟩)] M fun v M'=>v = .tuple #[self qw,.nilIface]∧M'=M:=by
 unfold bxB at h
 refine k_E3 (rs:=[.tmp 5,.tmp 6]) 8 Tryz.func55 rfl rfl rfl ?_
 refine r14_ ?_
 refine ⟨_,M,⟨_,_,rfl,⟨_,_,rfl,rfl,rfl⟩,rfl⟩,zad,?_⟩
 exact ⟨rfl,rfl⟩
theorem Wrote.same {x y:Pl} {s:ByteArray} {L:List UInt8} (h:Wrote x s L) (hf:y.fr=x.fr) (hd:y.d=x.d):Wrote y s L:=fun j hj=>by
 rw [hd] at hj;rw [← h j hj];unfold byt;rw [zi0 hf hd]
theorem MwS.start {S T K:Mem} {a p b c qw bx:Nat} {x:Pl} {w B:Nat} {files:List (List (List Nat))} {ss:Nat→Sc} {s:ByteArray} (h:MgS S T (noMem S) a p b c x 0 B w files ss) (hn:∀ i,i<files.length→(ss i).r.nm≠s) (hq:S.own qw=some (wtB a ⟨s,w,0,0,0,0⟩)) (hu:Use x s 0 0) (hwr:Wrote x s []) (hs0:Sto.ns x.d s=Rec.needN w (sumL files)) (hb:Fresh T bx) (hK:K.Less S) (hKn:∀ t,OfSc files.length ss t→K.own t=none) (hkq:K.own qw=none) :
  MwS (S.set bx (bxB qw)) (T.set bx (bxB qw)) (noMem (S.set bx (bxB qw))) K a p b c qw bx x 0 w B files ss ⟨s,w,0,0,0,0⟩ []:=by
 obtain ⟨k1,k2⟩:=zdU h.ar hb (bxB qw)
 have hl:S.Less (S.set bx (bxB qw)):=Mem.less_set _ _ _ k1.1
 refine ⟨⟨k2,h.ps,fun i hi=>?_,by have:=h.nb;show _≤(B+if 0<0 then 1 else 0)+_;rw [if_neg (Nat.lt_irrefl 0)];exact this,h.df,⟨fun _ _ h=>(by cases h),rfl⟩⟩,hl.own hq,Mem.own_set_same _ _ _,hu,rfl,rfl,rfl,hwr,fun r hr=>(by cases hr),hn,rfl,hs0,hK.trans hl,fun t ht=>ht.elim (hKn t) (fun e=>by rw [e];exact hkq)⟩
 have g:=h.s1 i hi
 obtain ⟨last,l1,l2⟩:=g.lv
 exact ⟨hl.own g.oq,hl.own g.os,g.us,g.hs,g.wd,g.ct,g.at_,g.le,⟨last,l1.less ⟨fun _ _ h=>(by cases h),hl.2⟩,l2⟩,rfl,rfl⟩
theorem zf7 {x y:Pl} {wt:Wt} {w B:Nat} {out:List (List Nat)} {s:ByteArray} (h1:1≤w) (hr:RowsOK w out) (h:Sealed x y wt.nm wt.w wt.ct B (out.flatMap recB)) (hw:wt.w=w) (hc:wt.ct=out.length) (hs:wt.nm=s) (hn:ns x.d wt.nm=Rec.needN w out.length):Has y s w out.length (out.flatMap recB):=by
 rw [hs,hw,hc] at h
 rw [hs] at hn
 exact ⟨(h.st.n s).trans hn,h.hd,h.wr,zeO h1 hr⟩
set_option maxHeartbeats 8000000 in
theorem zrS (S0 K:Mem) (a p b c wk bo qw:Nat) (u:W5) (tm:Value) (x0:Pl) (w B:Nat) (T0:Mem) (vn:Value) (s:ByteArray) (nms:List ByteArray) (files:List (List (List Nat))) (eu:TypeId) (ev:Value) (h:ArS S0 a p b c x0 T0) (hwk:S0.own wk=some (wkB a u tm)) (hbo:K.own bo=some (bxB qw)) (hqw:S0.own qw=some (wtB a ⟨s,w,0,0,0,0⟩)) (hkq:K.own qw=none) (hp:Ps x0 0) (hB:Sto.nb x0.fr≤B) (hcl:∀ j,j<x0.fr.length→(atF x0 j).dirty=false) (hK:K.Less S0) (hn:Sl 1 strs K vn nms) (hE:K.Knows ⟨0,0,none⟩ [.iface eu ev]) (hl:nms.length=files.length)
  (hF:∀ j (h:j<files.length) (h':j<nms.length),Use x0 nms[j] 0 0∧Has x0 nms[j] w files[j].length (files[j].flatMap recB)) (hfo:∀ f ∈ files,FileOK w f) (hdn:∀ i j (h:i<nms.length) (h':j<nms.length),i≠j→nms[i]≠nms[j]) (hns:∀ s' ∈ nms,s'.size≤1024∧s'≠s) (h1:1≤w) (h8:w≤8) (hs:sumL files≤65536) (hl1:1≤files.length) (hfl:files.length+B+1≤x0.fr.length) (hlm:x0.fr.length≤256) (hus:Use x0 s 0 0) (hwr:Wrote x0 s []) (hs0:ns x0.d s=Rec.needN w (sumL files)) (hnn:5*w*(files.length+2*sumL files+2)+512≤16384) :
  ACall Tryz.prog 54 #[self wk,vn,.func (.func 55) #[] #[.pointer (some ⟨bo,0,none⟩)]] T0 fun v T'=>v = .nilIface ∧ ∃ Z y out,ArS Z a p b c y T'∧K.Less Z∧Ps y 0∧out.Perm files.flatten∧SortedR out∧Has y s w out.length (out.flatMap recB)∧(∀ j,j<y.fr.length→(atF y j).dirty=false) ∧ ∀ j (_:j<nms.length),∃ f,Use y nms[j] f 0∧0<ns y.d nms[j]:=by
 have hso:=zkQ S0 K a p b c wk u tm x0 w B T0 vn nms files h hwk hp hB hcl hK hn hl hF hfo hdn (fun s' h=>(hns s' h).1) h1 h8 hs (by omega)
 obtain ⟨pn,cn,rfl,_⟩:=id hn
 refine k_E3 (rs:=[.tmp 6]) 52 Tryz.func54 rfl rfl rfl ?_
 refine r9_ ?_
 refine ca_ rfl (hso) ?_
 rintro _ S1 ⟨⟨S,T,x,ss,i9,o⟩,rfl,h1',hI⟩
 rw [h1'];clear h1' S1
 dsimp only at hI ⊢
 clear i9
 obtain ⟨g,gc,rfl⟩:=hI.oo.some hl1
 obtain ⟨hg,hgc⟩:=hI.oo.own g gc rfl
 have hmg:=hI.mg
 rw [List.take_length] at hmg
 have hKn:∀ t,OfSc files.length ss t→K.own t=none:=fun t ht=>by
  obtain ⟨j,hj,ht⟩:=ht
  obtain ⟨_,_,z1,z2⟩:=hI.st j hj
  cases e:K.own t with
  | none=>rfl
  | some k =>
   have:=hK.own e
   rcases ht with ht | ht
   ·rw [ht,z1] at this;cases this
   ·rw [ht,z2] at this;cases this
 have hnm:∀ i (h:i<nms.length),(ss i).r.nm=nms[i]:=fun i hi=>by
  rw [(hI.st i (by omega)).2.1,List.getD_eq_getElem?_getD,List.getElem?_eq_getElem hi];rfl
 have hnn2:∀ i,i<files.length→(ss i).r.nm≠s:=fun i hi=>by
  rw [hnm i (by omega)]
  exact (hns _ (List.getElem_mem (by omega))).2
 have g0:=hmg.s1 0 hl1
 have oq0:=zaj hmg.ar g0.oq
 have os0:=zaj hmg.ar g0.os
 have obo:=zaj hmg.ar (hI.sl.own (hK.own hbo))
 have hop:=zrR (T.set g ⟨189,ptrs ss files.length,gc*1⟩) (.int .i64 (w:Nat)) (.int .u64 (sumL files:Nat)) bo qw ((Mem.own_set_other T _ (hg.ne obo)).trans obo)
 have hw0:=g0.wd
 unfold rdB at oq0
 unfold srB at os0
 rw [hw0] at oq0
 have m2:=(Mem.own_set_other T ⟨189,ptrs ss files.length,gc*1⟩ (hg.ne oq0)).trans oq0
 have m3:=(Mem.own_set_other T ⟨189,ptrs ss files.length,gc*1⟩ (hg.ne os0)).trans os0
 have n2:=hg.ne oq0
 have n3:=hg.ne os0
 refine r9_ ?_
 refine AWP.less (T.set g ⟨189,ptrs ss files.length,gc*1⟩) (Mem.Less.refl _) ?_
 refine r4_ ?_
 refine rC (Calm.bin rfl rfl Er.neNil) ?_
 refine r2_ ?_
 refine cF_ ?_
 refine r7_ ?_
 refine rC (Calm.load zb7 rfl (v:=self (ss 0).sb) (zbt (Mem.own_set_same _ _ _) (by have:=zi1 (ss:=ss) (ss0:=ss) (fun _=>rfl) files.length hl1;exact this))) ?_
 refine r7_ ?_
 refine ARun.callV (zab rfl) ztX rfl rfl (hop) ?_
 rintro _ S1 ⟨rfl,h1'⟩
 rw [h1'];clear h1' S1
 refine r3_ ?_
 refine ARun.alloc (zab rfl) zd_ ?_
 intro b10 f10
 have g10:=f10
 repeat ((with_reducible replace g10:=zaa g10);obtain ⟨g10,_⟩:=g10)
 refine nl_ ?_
 refine r4_ ?_
 obtain ⟨hb1,hbg⟩:=zaa f10
 have hMw:=MwS.start hmg hnn2 (hI.sl.own hqw) (hus.fr_ hI.xf) (hwr.same hI.xf hI.xd) (by rw [hI.xd];exact hs0) hb1 (hK.trans hI.sl) hKn hkq
 have hg2:Fresh (T.set b10 (bxB qw)) g:=zal hg (Ne.symm hbg)
 refine AWP.less ((T.set b10 (bxB qw)).set g ⟨189,ptrs ss files.length,gc*1⟩) (by rw [Mem.set_comm _ _ _ hbg];exact Mem.Less.refl _) ?_
 have hyl:x.fr.length=x0.fr.length:=by rw [hI.xf]
 have hru:=ztx _ (T.set b10 (bxB qw)) K a p b c qw b10 x w B files ss ⟨s,w,0,0,0,0⟩ g gc (gc*1) hMw hg2 (fun j hj=>(hI.st j hj).1) hfo h1 h8 hs hl1 (by omega) (by omega) (by omega)
 clear hMw hop hso
 refine r4_ ?_
 refine rC (Calm.bin rfl rfl Er.neNil) ?_
 refine r2_ ?_
 refine cF_ ?_
 refine r6_ ?_
 refine ca_ rfl (hru) ?_
 rintro _ T2 ⟨rfl,⟨S2,T3,R2,x2,n2,ss2,wt2,out2,rem2,hs2⟩,hX,hgX,hpm,hso2,hz2,h1'⟩
 dsimp only at hgX hpm hso2 hz2 h1'
 subst h1'
 have hM2:=hX.mw
 have hx2:x2.fr.length=x.fr.length:=hX.xl
 have hn2:n2≤5*w*(files.length+2*out2.length):=hX.nl
 have hwn2:wt2.nm=s:=hX.wn
 have hnm2:∀ i,(ss2 i).r.nm=(ss i).r.nm:=hX.hn
 dsimp only at hM2
 have hE2:=hE.less (hM2.kb.trans (zaQ hM2.mg.ar))
 have ob:=zaj hM2.mg.ar hM2.ob
 unfold bxB at ob
 have hol:out2.length=sumL files:=by rw [hpm.length_eq,List.length_flatten];rfl
 have hw2:=hM2.wd
 have hmu:5*w*(files.length+2*out2.length)≤5*w*(files.length+2*sumL files+2):=Nat.mul_le_mul_left _ (by omega)
 have hse:=ziQ S2 a p b c qw wt2 x2 n2 _ (out2.flatMap recB) T2 (hM2.wts h1) (by rw [hw2];exact h1) (by rw [hw2];exact h8) (by rw [hM2.ct];omega) (by omega) (by rw [hM2.ns];exact Rec.zbl _ _)
 refine r3_ ?_
 refine zdG 0 1 2 6 7 8 9 19 10 37 ?_
 refine r5_ ?_
 refine ca_ rfl (Er.isNil eu ev _) ?_
 rintro _ S1 ⟨rfl,h1'⟩
 rw [h1'];clear h1' S1
 refine r2_ ?_
 refine cF_ ?_
 refine r6_ ?_
 refine rC (Calm.bin rfl rfl Er.neNil) ?_
 refine r2_ ?_
 refine cF_ ?_
 refine r5_ ?_
 refine ca_ rfl (hse) ?_
 rintro _ T3 ⟨rfl,y3,hA3,hS3⟩
 refine ca_ rfl (zce _ _) ?_
 rintro _ S1 ⟨rfl,h1'⟩
 rw [h1'];clear h1' S1
 have hfile:=zf7 h1 hM2.ok hS3 hw2 hM2.ct hwn2 (by rw [hM2.ns,hol])
 have hnames:∀ j (_:j<nms.length),∃ f,Use y3 nms[j] f 0∧0<ns y3.d nms[j]:=fun j hj=>by
  have g:=hM2.mg.s1 j (by omega)
  have e:=(hnm2 j).trans (hnm j hj)
  have hu:=g.us
  have hh:=g.hs.pos
  rw [e,hz2 j (by omega)] at hu
  rw [e] at hh
  exact ⟨_,hS3.us _ _ _ (by rw [hwn2];exact (hns _ (List.getElem_mem hj)).2) hu,by rw [hS3.st.n];exact hh⟩
 refine r4_ ?_
 refine ⟨_,T3,⟨_,_,rfl,rfl,rfl⟩,zad,?_⟩
 exact ⟨rfl,_,y3,out2,hA3,zap hM2.kb (hM2.kn qw (.inr rfl)),hS3.ps,hpm,hso2,hfile,hS3.cl,hnames⟩
end Sto
end
section
open Go.RowKit
open Mv Disk Num
set_option maxRecDepth 4000
namespace Sto
theorem zrT {d:D} (hd:Dw d 0) {s:ByteArray} (h:0<ns d s) :
  ∃ d',freeD d s=(d',0)∧Dw d' 0∧(∀ o,ns d' o=if s=o then 0 else ns d o) ∧ ∀ o (j:Nat),s≠o→j<ns d o→seen d' o (j:Int)=seen d o (j:Int):=by
 have hh:=(zdR hd s).2 h
 have hw:d.waits = []:=List.length_eq_zero_iff.1 (Nat.le_zero.1 hd.w)
 have he:d.ext.eraseIdx (pos d.ext s)=dropE d.ext s:=(ze4 hd.r.ex.asc hh).symm
 have hasc:=zop hd.r.ex.asc s
 have hhas:∀ o,has (dropE d.ext s) o=true ↔ s≠o∧has d.ext o=true:=fun o=>by
  rw [zbd,zbd]
  constructor
  ·rintro ⟨x,hx,rfl⟩
   obtain ⟨h1,h2⟩:=zgw.1 hx
   exact ⟨Ne.symm h2,x,h1,rfl⟩
  ·rintro ⟨hne,x,hx,rfl⟩
   exact ⟨x,zgw.2 ⟨hx,Ne.symm hne⟩,rfl⟩
 have hexo:∀ o,s≠o→has d.ext o=true→exOf (dropE d.ext s) o=exOf d.ext o:=fun o hne ho=>by
  obtain ⟨hm,hn⟩:=zbk hd.r.ex.asc ho
  have:=zbw hasc (zgw.2 ⟨hm,by rw [hn];exact Ne.symm hne⟩)
  rwa [hn] at this
 refine ⟨forgetD (eraseD d s) s,by unfold freeD;rw [if_pos hh],⟨zko hd.r hh,hd.f,hd.u,?_⟩,fun o=>?_,fun o j hne hj=>?_⟩
 ·show (filt s d.waits).length≤0
  rw [hw];exact Nat.le_refl 0
 ·unfold ns
  show (if has (d.ext.eraseIdx _) o=true then sec (exOf (d.ext.eraseIdx _) o) else 0)=_
  rw [he]
  by_cases e:s=o
  ·rw [if_pos e,if_neg (fun q=>((hhas o).1 q).1 e)]
  ·rw [if_neg e]
   by_cases q:has d.ext o=true
   ·rw [if_pos q,if_pos ((hhas o).2 ⟨e,q⟩),hexo o e q]
   ·rw [if_neg q,if_neg (fun g=>q ((hhas o).1 g).2)]
 ·have q:has d.ext o=true:=(zdR hd o).2 (by omega)
  unfold seen
  show seeW allK (filt s d.waits) o (j:Int) ((exOf (d.ext.eraseIdx _) o).2.extract _ _) (filt s d.waits).length=_
  rw [he,hexo o hne q,hw];rfl
structure Freed (x y:Pl) (s:ByteArray):Prop where
  ps:Ps y 0
  cl:∀ j,j<y.fr.length→(atF y j).dirty=false
  hs:∀ o w c L,o≠s→Has x o w c L→Has y o w c L
theorem zrU {x:Pl} {s:ByteArray} {f:Nat} (hp:Ps x 0) (hu:Use x s f 0) (hc:∀ j,j<x.fr.length→(atF x j).dirty=false) (h:0<ns x.d s) :
  ∃ y d',dropP x s=(y,0)∧Ps y 0∧freeD y.d s=(d',0)∧Freed x { y with d:=d' } s:=by
 obtain ⟨y,k1,k2,k3,k4,k5⟩:=zmH hp (s:=s) (fun i hi ho=>by
  have ho:(atF x i).holds∧(atF x i).name=s:=by unfold ofN at ho;exact of_decide_eq_true ho
  exact ⟨by rw [hu.pins i hi ho.1 ho.2,if_neg (fun h=>absurd h.1 (Nat.lt_irrefl 0))],hc i hi⟩)
 obtain ⟨d',g1,g2,g3,g4⟩:=zrT k2.d (s:=s) (by rw [k3.n];exact h)
 have hgo:∀ i,i<y.fr.length→(atF y i).holds→(atF y i).name≠s:=fun i hi hh hn=>by
  rw [k5 i (by rw [← k3.l];exact hi)] at hh hn
  by_cases q:ofN s (atF x i)=true
  ·rw [if_pos q] at hh;exact n0 hh
  ·rw [if_neg q] at hh hn;exact q (by unfold ofN;exact decide_eq_true ⟨hh,hn⟩)
 have hv:∀ o (j:Nat),o≠s→j<ns y.d o→vw { y with d:=d' } o (j:Int)=vw y o (j:Int):=fun o j ho hj=>by
  unfold vw
  show (if y.fr.findIdx (isF o j)<y.fr.length then (atF y _).data else seen d' o j)=_
  rw [g4 o j (Ne.symm ho) hj]
 refine ⟨y,d',k1,k2,g1,⟨g2,fun i hi=>?_,k2.ap,k2.l1,k2.l2⟩,fun j hj=>?_,fun o w c L ho hH=>?_⟩
 ·rcases k2.ok i hi with e | e | e
  ·exact .inl e
  ·exact .inr (.inl e)
  ·have hne:=hgo i hi e.h
   have h0:=e.s0
   have h1:=e.s1
   refine .inr (.inr ⟨e.h,e.l,e.p0,e.p1,e.z,h0,?_,fun hd=>?_⟩)
   ·show (atF y i).sector<(ns d' (atF y i).name:Int)
    rw [g3,if_neg (Ne.symm hne)];exact h1
   ·have hd2:=e.c hd
    show (atF y i).data=seen d' (atF y i).name (atF y i).sector
    obtain ⟨k,hk⟩ : ∃ k:Nat,(atF y i).sector=k:=⟨_,(Int.toNat_of_nonneg h0).symm⟩
    rw [hd2]
    rw [hk] at h1 ⊢
    exact (g4 _ k (Ne.symm hne) (by omega)).symm
 ·show (atF y j).dirty=false
  have hj:j<x.fr.length:=by rw [← k3.l];exact hj
  rw [k5 j hj]
  split
  ·rfl
  ·exact hc j hj
 ·have hH2:=hH.stays k3
  have hpos:=hH2.pos
  have hn:ns d' o=ns y.d o:=by rw [g3,if_neg (Ne.symm ho)]
  exact ⟨hn.trans hH2.n,(hv o 0 ho hpos).trans hH2.h,fun j hj=>by
   have hj:1+j / 64<ns y.d o:=by rw [← hn];exact hj
   rw [← hH2.b j hj]
   unfold byt
   rw [hv o _ ho hj],hH2.l⟩
theorem zrV {S T:Mem} {a p b c:Nat} {x:Pl} {d':D} {v:Value} (h:ArS S a p b c x T) {f:FuncId} {args:Array Value}
  (hc:∀ oE oW,OkV S p x.d oE oW→ACall Tryz.prog f args (devM S p x.d oE oW) fun r S'=>∃ oE' oW',OkV S p d' oE' oW'∧r=v∧S'=devM S p d' oE' oW') :
  ACall Tryz.prog f args T fun r S'=>r=v∧ArS S a p b c { x with d:=d' } S'∧S'.own a=T.own a:=by
 obtain ⟨k,oE,oW,ok,rfl⟩:=h
 refine (zgD ok k (hc oE oW ok.v)).mono fun r S' ⟨M,⟨oE2,oW2,ok2,hr,hM⟩,fb,fa,e⟩=>?_
 subst hM
 exact ⟨hr,⟨k,oE2,oW2,⟨ok2,fb,fa,ok.ab,ok.l⟩,e⟩,by rw [e,za3,za3]⟩
def pickM (S:Mem) (D:List Nat):Mem:=⟨fun k=>if k ∈ D then S.own k else none,S.ro⟩
theorem zcJ {S:Mem} {D:List Nat} {k:Nat} (h:k ∈ D):(pickM S D).own k=S.own k:=if_pos h
theorem zfo {S T:Mem} {D:List Nat} (h:∀ k ∈ D,T.own k=S.own k) (hr:T.ro=S.ro):(pickM S D).Less T:=⟨fun k r hk=>(by
 by_cases q:k ∈ D
 ·rw [h k q,← zcJ q];exact hk
 ·rw [show (pickM S D).own k=none from if_neg q] at hk;cases hk),hr.symm⟩
theorem zrW (n s:ByteArray) (nb:Nat) (S:Mem) (hk:S.own nb=some ⟨9,[.string s],1⟩):ACall Tryz.prog 156 #[.string n,.pointer (some ⟨nb,0,none⟩)] S fun r S'=>r = .bool (decide (n=s))∧S'=S:=by
 refine k_E2 (rs:=[.tmp 3]) 7 Tryz.func156 rfl rfl rfl ?_
 refine r14_ ?_
 refine ⟨_,S,⟨_,_,rfl,rfl,rfl⟩,zad,?_⟩
 exact ⟨rfl,rfl⟩
theorem zpH (T:Mem) (g cg:Nat) (s:ByteArray) (nb:Nat) (hg:T.own g=some ⟨9,[.string s],cg⟩) (hk:T.own nb=some ⟨9,[.string s],1⟩) :
  ACall Tryz.prog 184 #[.slice (some ⟨g,0,none⟩) 1 cg,.func (.func 156) #[] #[.pointer (some ⟨nb,0,none⟩)]] T fun r T'=>r = .int .i64 0∧T'=T:=by
 refine k_E2 (rs:=[.tmp 4]) 19 Tryz.func184 rfl rfl rfl ?_
 refine r14_ ?_
 refine AWP.loop (X:=Unit) (fun _=>[(0,.slice (some ⟨g,0,none⟩) 1 cg),(1,.func (.func 156) #[] #[.pointer (some ⟨nb,0,none⟩)]),(7,.int .i64 1),(8,.int .i64 0)]) (fun _=>T) (fun _=>0<1) (fun _=>0) (()) ⟨rfl,rfl,rfl,rfl,trivial⟩ (Mem.Less.refl _) (Nat.zero_lt_one) ?_
 rintro i hi
 (try dsimp only at *)
 refine r6_ ?_
 refine cT_ ?_
 refine r17_ ?_
 refine ARun.callV (zab rfl) zsU rfl rfl (zrW s s nb _ hk) ?_
 rintro _ S1 ⟨rfl,h1⟩
 rw [h1,decide_eq_true rfl];clear h1 S1
 refine r2_ ?_
 refine cT_ ?_
 refine r12_ ?_
 refine ⟨_,T,⟨_,_,rfl,rfl,rfl⟩,zad,?_⟩
 exact ⟨rfl,rfl⟩
theorem zty (T:Mem) (g cg:Nat) (s:ByteArray) (nb:Nat) (hg:T.own g=some ⟨9,[.string s],cg⟩) (hk:T.own nb=some ⟨9,[.string s],1⟩) (hc:1≤cg) :
  ACall Tryz.prog 155 #[.slice (some ⟨g,0,none⟩) 1 cg,.func (.func 156) #[] #[.pointer (some ⟨nb,0,none⟩)]] T fun r T'=>r = .slice (some ⟨g,0,none⟩) 0 cg ∧ ∃ zs,T'=T.set g ⟨9,zs,cg⟩:=by
 have hi:=zpH T g cg s nb hg hk
 refine k_E2 (rs:=[.tmp 4]) 42 Tryz.func155 rfl rfl rfl ?_
 refine r9_ ?_
 refine ca_ rfl (hi) ?_
 rintro _ S1 ⟨rfl,h1⟩
 rw [h1];clear h1 S1
 refine r10_ ?_
 refine cF_ ?_
 refine r11_ ?_
 refine AWP.loop (X:=Unit) (fun _=>[(0,.slice (some ⟨g,0,none⟩) 1 cg),(5,.int .i64 0),(6,.int .i64 1)]) (fun _=>T) (fun _=>0<1) (fun _=>0) (()) ⟨rfl,rfl,rfl,trivial⟩ (Mem.Less.refl _) (Nat.zero_lt_one) ?_
 rintro i hi
 (try dsimp only at *)
 refine r9_ ?_
 refine cF_ ?_
 refine r9_ ?_
 refine rC (Calm.sliceLo 0 Tryz.underlying105 zcR rfl rfl rfl (by omega) (by omega)) ?_
 refine ARun.clearK (k:=1) zaN rfl (by simp [Value.oneCell']) rfl hg (by simp) (.inl (by simp)) ?_
 intro zs hzs
 refine r2_ ?_
 refine k_v4 0 5 6 19 ?_
 refine r4_ ?_
 refine rC (Calm.sliceHi 0 Tryz.underlying105 zcR rfl rfl rfl (by omega)) ?_
 refine r4_ ?_
 refine ⟨_,_,⟨_,_,rfl,rfl,rfl⟩,Mem.Less.refl _,?_⟩
 exact ⟨rfl,_,rfl⟩
set_option maxHeartbeats 4000000 in
theorem zrX (S:Mem) (a p b c wk g cg:Nat) (u:W5) (x:Pl) (s:ByteArray) (f:Nat) (T:Mem) (h:ArS S a p b c x T) (hwk:S.own wk=some (wkB a u (.slice (some ⟨g,0,none⟩) 1 cg))) (hg:S.own g=some ⟨9,[.string s],cg⟩) (hcg:1≤cg) (hp:Ps x 0) (hu:Use x s f 0) (hc:∀ j,j<x.fr.length→(atF x j).dirty=false) (hn:0<ns x.d s) (hs:s.size≤1024) :
  ACall Tryz.prog 106 #[self wk,.string s] T fun v T'=>v = .nilIface ∧ ∃ zs y,ArS ((S.set g ⟨9,zs,cg⟩).set wk (wkB a u (.slice (some ⟨g,0,none⟩) 0 cg))) a p b c y T'∧Freed x y s:=by
 obtain ⟨y,d',r1,r2,r3,r4⟩:=zrU hp hu hc hn
 have hdr:=zdj h (fun k oE oW ok=>zjH a p b c x s k S oE oW ok (zel hp))
 rw [r1] at hdr
 have ow:=zaj h hwk
 obtain ⟨i0,oA⟩:=zcd h
 have hgw:g≠wk:=fun e=>by subst e;rw [hg] at hwk;cases hwk
 unfold wkB at ow
 unfold arB at oA
 refine k_E2 (rs:=[.tmp 4]) 32 Tryz.func106 rfl rfl rfl ?_
 refine r2_ ?_
 refine ARun.box1 (zab rfl) rfl rfl ?_
 intro b3 f3
 have g3:=f3
 repeat ((with_reducible replace g3:=zaa g3);obtain ⟨g3,_⟩:=g3)
 refine nl_ ?_
 refine r3_ ?_
 obtain ⟨M0,p3,pw,hM0⟩ : ∃ M0:Mem,M0.own b3=some ⟨9,[.string s],1⟩∧M0.own wk=_ ∧ ∀ U:Mem,U.own b3=some ⟨9,[.string s],1⟩→U.own wk=T.own wk→U.ro=T.ro→M0.Less U:=⟨pickM (T.set b3 ⟨9,[.string s],1⟩) [b3,wk],(zcJ (by simp)).trans (Mem.own_set_same _ _ _),(zcJ (by simp)).trans ((Mem.own_set_other _ _ (f3.ne ow)).trans ow),fun U h1 h2 h4=>zfo (fun k hk=>by
  simp only [List.mem_cons,List.not_mem_nil,or_false] at hk
  rcases hk with rfl | rfl
  ·rw [h1,Mem.own_set_same]
  ·rw [h2,Mem.own_set_other _ _ (f3.ne ow)]) h4⟩
 have hM1:M0.Less (T.set b3 ⟨9,[.string s],1⟩):=hM0 _ (Mem.own_set_same _ _ _) (Mem.own_set_other _ _ (f3.ne ow)) rfl
 refine s1_ ?_
 refine AWP.drawS (M0) zad [(0,true),(1,true),(2,true),(3,true),(4,true),(5,false)] [] mixed (by kernel_rfl) ?_
 refine r5_ ?_
 refine zac rfl ?_
 refine ca_ rfl (hdr.frame f3) ?_
 rintro _ S1 ⟨Sa,⟨_,hA⟩,hf,h1'⟩
 rw [h1'];clear h1' S1
 have hM2:M0.Less (Sa.set b3 ⟨9,[.string s],1⟩):=hM0 _ (Mem.own_set_same _ _ _) (by rw [Mem.own_set_other _ _ (hf.ne (zaj hA hwk)),zaj hA hwk,zaj h hwk]) (((zaQ hA).2.symm).trans (zaQ h).2)
 have ow2:=zaj hA hwk
 have og2:=zaj hA hg
 have n1:=hf.ne ow2
 have n2:=hf.ne og2
 have ow3:=(Mem.own_set_other Sa ⟨9,[.string s],1⟩ n1).trans ow2
 have og3:=(Mem.own_set_other Sa ⟨9,[.string s],1⟩ n2).trans og2
 have hde:=zty (Sa.set b3 ⟨9,[.string s],1⟩) g cg s b3 og3 (Mem.own_set_same _ _ _) hcg
 unfold wkB at ow3
 refine zae ⟨fun _=>zad,?_⟩
 refine r10_ ?_
 refine ca_ rfl (hde) ?_
 rintro _ S1 ⟨rfl,zs,h1'⟩
 rw [h1',Mem.set_comm _ _ _ (Ne.symm n2)];clear h1' S1
 have hA2:=zcL hA hg ⟨9,zs,cg⟩
 have ow4:=(Mem.own_set_other (Sa.set g ⟨9,zs,cg⟩) ⟨9,[.string s],1⟩ n1).trans ((Mem.own_set_other Sa ⟨9,zs,cg⟩ (Ne.symm hgw)).trans ow2)
 unfold wkB at ow4
 refine r2_ ?_
 refine ARun.store1 rfl rfl zeX rfl ow4 (show 6<10 from by decide) rfl ?_
 try simp only [k_ms,k_sz,k_ss,k_za,Nat.reduceAdd]
 refine r2_ ?_
 have hA3:=zcL hA2 ((Mem.own_set_other S ⟨9,zs,cg⟩ (Ne.symm hgw)).trans hwk) (wkB a u (.slice (some ⟨g,0,none⟩) 0 cg))
 have hf3:=zal (r:=wkB a u (.slice (some ⟨g,0,none⟩) 0 cg)) (zal (r:=⟨9,zs,cg⟩) hf (Ne.symm n2)) (Ne.symm n1)
 refine AWP.less (((Sa.set g ⟨9,zs,cg⟩).set wk (wkB a u (.slice (some ⟨g,0,none⟩) 0 cg))).set b3 ⟨9,[.string s],1⟩) (by rw [Mem.set_comm _ _ _ n1];exact Mem.Less.refl _) ?_
 have ow5:=zaj hA3 (Mem.own_set_same _ wk (wkB a u (.slice (some ⟨g,0,none⟩) 0 cg)))
 obtain ⟨i5,oA5⟩:=zcd hA3
 have hfr:=(zrV (v:=.int .i64 0) hA3 (fun oE oW ok=>by have:=zoj p y.d s _ oE oW ok r2.d.r;rw [r3] at this;exact this)).frame (r:=⟨9,[.string s],1⟩) hf3
 generalize (Sa.set g ⟨9,zs,cg⟩).set wk (wkB a u (.slice (some ⟨g,0,none⟩) 0 cg))=Sb at *
 have ow6:=(Mem.own_set_other Sb ⟨9,[.string s],1⟩ (hf3.ne ow5)).trans ow5
 have oA6:=(Mem.own_set_other Sb ⟨9,[.string s],1⟩ (hf3.ne oA5)).trans oA5
 unfold wkB at ow6
 unfold arB at oA6
 obtain ⟨M1,m3,mw,ma,hM1⟩ : ∃ M1:Mem,M1.own b3=some ⟨9,[.string s],1⟩∧M1.own wk=_∧M1.own a=_ ∧ ∀ T:Mem,T.own b3=some ⟨9,[.string s],1⟩→T.own wk=Sb.own wk→T.own a=Sb.own a→T.ro=Sb.ro→M1.Less T:=⟨pickM (Sb.set b3 ⟨9,[.string s],1⟩) [b3,wk,a],(zcJ (by simp)).trans (Mem.own_set_same _ _ _),(zcJ (by simp)).trans ow6,(zcJ (by simp)).trans oA6,fun T h1 h2 h3 h4=>zfo (fun k hk=>by
  simp only [List.mem_cons,List.not_mem_nil,or_false] at hk
  rcases hk with rfl | rfl | rfl
  ·rw [h1,Mem.own_set_same]
  ·rw [h2,Mem.own_set_other _ _ (hf3.ne ow5)]
  ·rw [h3,Mem.own_set_other _ _ (hf3.ne oA5)]) h4⟩
 have hM0:M1.Less (Sb.set b3 ⟨9,[.string s],1⟩):=hM1 _ (Mem.own_set_same _ _ _) (Mem.own_set_other _ _ (hf3.ne ow5)) (Mem.own_set_other _ _ (hf3.ne oA5)) rfl
 refine s1_ ?_
 refine AWP.drawS (M1) zad [(0,true),(1,true),(2,true),(3,true),(4,true),(5,true),(6,true),(7,true),(8,true),(9,true),(10,false),(11,false),(12,true)] [] mixed (by kernel_rfl) ?_
 refine s1_ ?_
 refine dP (hc:=fun _=>Calm.bin rfl rfl (zbn (by show 5+s.size≤_;omega))) (h:=?_)
 refine r8_ ?_
 refine zac rfl ?_
 refine ca_ rfl (hfr) ?_
 rintro _ S1 ⟨Sc,⟨rfl,hA7,hoa⟩,hf7,h1'⟩
 rw [h1'];clear h1' S1
 have ow7:=zaj hA7 (Mem.own_set_same _ wk (wkB a u (.slice (some ⟨g,0,none⟩) 0 cg)))
 have hM2:M1.Less (Sc.set b3 ⟨9,[.string s],1⟩):=hM1 _ (Mem.own_set_same _ _ _) (by rw [Mem.own_set_other _ _ (hf7.ne ow7),ow7,ow5]) (by rw [Mem.own_set_other _ _ (hf7.ne (hoa.trans oA5)),hoa]) (((zaQ hA7).2.symm).trans (zaQ hA3).2)
 refine zae ⟨fun _=>zad,?_⟩
 refine zac rfl ?_
 refine ca_ rfl (zce _ _) ?_
 rintro _ S1 ⟨rfl,h1'⟩
 rw [h1'];clear h1' S1
 refine zae ⟨fun _=>zad,?_⟩
 refine r4_ ?_
 refine ⟨_,Sc,⟨_,_,rfl,rfl,rfl⟩,Mem.less_set _ _ _ hf7.1,?_⟩
 exact ⟨rfl,zs,_,hA7,r4⟩
end Sto
end
section
open Go.RowKit
open Mv Disk Num
set_option maxRecDepth 4000
namespace Sto
open Run (nameS sizeN)
def names (s:ByteArray) (n:Nat):List ByteArray:=(List.range n).map (nameS s)
theorem zhU (s:ByteArray) (n:Nat):(names s n).length=n:=by simp [names]
theorem zkS (s:ByteArray) (n:Nat):names s (n+1)=names s n ++ [nameS s n]:=by simp [names,List.range_succ]
def nT:ByteArray:=⟨#[126]⟩
theorem zqx (m:Nat) (S:Mem) (h1:24≤m) (h2:m≤256):ACall Tryz.prog 51 #[.int .i64 (m:Nat)] S fun r S'=>r = .tuple #[.int .i64 ((m-6:Nat):Int),.int .i64 0]∧S'=S:=by
 refine k_E1 (rs:=[.tmp 2,.tmp 3]) 12 Tryz.func51 rfl rfl rfl ?_
 refine r15_ ?_
 refine cF_ ?_
 refine r7_ ?_
 refine cF_ ?_
 refine r12_ ?_
 refine ⟨_,S,⟨_,_,rfl,⟨_,_,rfl,rfl,rfl⟩,rfl⟩,zad,?_⟩
 exact ⟨by rw [show ((m-6:Nat):Int)=(m:Int)-6 from by omega];rfl,rfl⟩
theorem zpI (n x p:ByteArray) (kb:Nat) (S:Mem) (hk:S.own kb=some ⟨9,[.string p],1⟩) (hn:n.size<p.size) :
  ACall Tryz.prog 88 #[.agg #[.string n,.string x],.pointer (some ⟨kb,0,none⟩)] S fun r S'=>r = .bool false∧S'=S:=by
 refine k_E2 (rs:=[.tmp 3]) 19 Tryz.func88 rfl rfl rfl ?_
 refine r2_ ?_
 refine ARun.boxA (cs:=[_,_]) (zab rfl) rfl ?_
 intro b2 f2
 have g2:=f2
 repeat ((with_reducible replace g2:=zaa g2);obtain ⟨g2,_⟩:=g2)
 have:=g2.ne hk;have:=g2.ne' hk
 refine nl_ ?_
 refine r4_ ?_
 refine AWP.draw [(0,true),(1,true),(2,true),(3,true),(4,true),(5,true),(6,true),(7,true),(8,true),(9,true),(10,true),(11,true),(12,true),(13,true),(14,true),(15,true)] [] mixed (by kernel_rfl) ?_
 refine r5_ ?_
 refine dP (hc:=fun _=>Calm.bin rfl rfl (zag (zct _ _) (decide_eq_false (by omega)))) (h:=?_)
 refine r13_ ?_
 refine ⟨_,S,⟨_,_,rfl,rfl,rfl⟩,zad,?_⟩
 exact ⟨rfl,rfl⟩
theorem zpJ (v:Value) (l:List Ext) (p:ByteArray) (kb:Nat) (S:Mem) (hl:Sl 2 extF S v l) (hk:S.own kb=some ⟨9,[.string p],1⟩) (hn:∀ x ∈ l,x.1.size<p.size) :
  ACall Tryz.prog 111 #[v,.func (.func 88) #[] #[.pointer (some ⟨kb,0,none⟩)]] S fun r S'=>r = .int .i64 (-1)∧S'=S:=by
 obtain ⟨a,cap,rfl,h1,h2,h3⟩:=id hl
 refine k_E2 (rs:=[.tmp 4]) 19 Tryz.func111 rfl rfl rfl ?_
 refine r14_ ?_
 refine AWP.loop (X:=Nat) (fun i=>[(0,.slice a l.length cap),(1,.func (.func 88) #[] #[.pointer (some ⟨kb,0,none⟩)]),(7,.int .i64 l.length),(8,.int .i64 i)]) (fun i=>S) (fun i=>i≤l.length) (fun i=>l.length-i) (0) ⟨rfl,rfl,rfl,rfl,trivial⟩ (Mem.Less.refl _) (Nat.zero_le _) ?_
 rintro i hi
 (try dsimp only at *)
 by_cases hc:i<l.length
 ·have hne:=hn _ (List.getElem_mem hc)
  refine r6_ ?_
  refine cT_ ?_
  obtain ⟨b,off,rfl,hkk⟩:=h3.resolve_left (fun e=>by subst e;simp at hc)
  have hki:=hkk i hc
  unfold extF at hki
  refine r17_ ?_
  refine ARun.callV (zab rfl) ztZ rfl rfl (zpI l[i].1 l[i].2 p kb _ hk hne) ?_
  rintro _ S1 ⟨rfl,h1⟩
  rw [h1];clear h1 S1
  refine r2_ ?_
  refine cF_ ?_
  refine r8_ ?_
  refine ⟨i+1,?_,?_,?_,?_⟩
  all_goals (try dsimp only)
  ·exact ⟨rfl,rfl,rfl,rfl,trivial⟩
  ·exact Mem.Less.refl _
  ·exact hc
  ·omega
 ·refine r6_ ?_
  refine cF_ ?_
  refine r11_ ?_
  refine ⟨_,S,⟨_,_,rfl,rfl,rfl⟩,zad,?_⟩
  exact ⟨rfl,rfl⟩
theorem zpK (v:Value) (l:List Ext) (p:ByteArray) (kb:Nat) (S:Mem) (hl:Sl 2 extF S v l) (hk:S.own kb=some ⟨9,[.string p],1⟩) (hn:∀ x ∈ l,x.1.size<p.size) :
  ACall Tryz.prog 89 #[v,.func (.func 88) #[] #[.pointer (some ⟨kb,0,none⟩)]] S fun r S'=>r = .bool false∧S'=S:=by
 have h:=zpJ v l p kb S hl hk hn
 obtain ⟨a,cap,rfl,_⟩:=id hl
 refine k_E2 (rs:=[.tmp 4]) 9 Tryz.func89 rfl rfl rfl ?_
 refine r9_ ?_
 refine ca_ rfl (h) ?_
 rintro _ S1 ⟨rfl,h1⟩
 rw [h1];clear h1 S1
 refine r5_ ?_
 refine ⟨_,S,⟨_,_,rfl,rfl,rfl⟩,zad,?_⟩
 exact ⟨rfl,rfl⟩
theorem ztz {S T:Mem} {a p b c:Nat} {x:Pl} {n:Nat} (h:ArS S a p b c x T) (hp:Ps x n):RdV T p x.d:=by
 obtain ⟨k,oE,oW,ok,rfl⟩:=h
 exact ok.rd (zel hp) k
theorem zrY (S T:Mem) (a p b c wk:Nat) (u:W5) (tm:Value) (x:Pl) (n:Nat) (h:ArS S a p b c x T) (hwk:S.own wk=some (wkB a u tm)) (hp:Ps x n) (hn:∀ e ∈ x.d.ext,e.1.size<5) :
  ACall Tryz.prog 48 #[self wk] T fun r T'=>r = .string (nameS nT 0)∧T'=T:=by
 have ow:=zaj h hwk
 obtain ⟨i1,oA⟩:=zcd h
 have hrd:=ztz h hp
 obtain ⟨qe,de,qw,dw,oP,hE,hW⟩:=id hrd
 have hsz:(nameS nT 0).size=5:=by rw [zdb];rfl
 unfold wkB at ow
 unfold arB at oA
 refine k_E1 (rs:=[.tmp 2]) 30 Tryz.func48 rfl rfl rfl ?_
 refine r11_ ?_
 refine AWP.loop (X:=Unit) (fun _=>[(0,self wk),(3,.int .i64 0)]) (fun _=>T) (fun _=>0<1) (fun _=>0) (()) ⟨rfl,rfl,trivial⟩ (Mem.Less.refl _) (Nat.zero_lt_one) ?_
 rintro i hi
 (try dsimp only at *)
 refine r5_ ?_
 refine ca_ rfl (Run.zgJ nT 0 _ (by decide) (by decide) (by decide)) ?_
 rintro _ S1 ⟨rfl,h1⟩
 rw [h1];clear h1 S1
 refine r3_ ?_
 refine ARun.alloc (zab rfl) zly ?_
 intro b4 f4
 have g4:=f4
 repeat ((with_reducible replace g4:=zaa g4);obtain ⟨g4,_⟩:=g4)
 have:=g4.ne ow;have:=g4.ne' ow
 have:=g4.ne oA;have:=g4.ne' oA
 have:=g4.ne oP;have:=g4.ne' oP
 refine nl_ ?_
 refine r24_ ?_
 refine ca_ rfl (zpK (.slice qe x.d.ext.length de) x.d.ext (nameS nT 0) b4 _ (hE.less zad) (Mem.own_set_same _ _ _) (fun e he=>by rw [hsz];exact hn e he)) ?_
 rintro _ S1 ⟨rfl,h1⟩
 rw [h1];clear h1 S1
 refine r3_ ?_
 refine cT_ ?_
 refine r11_ ?_
 refine ⟨_,T,⟨_,_,rfl,rfl,rfl⟩,zad,?_⟩
 exact ⟨rfl,rfl⟩
structure DX where
  T:Mem
  i:Int
set_option maxHeartbeats 4000000 in
theorem zrZ (S:Mem) (a p b c wk g cg gn cn rn:Nat) (u:W5) (x:Pl) (s:ByteArray) (f:Nat) (T:Mem) (h:ArS S a p b c x T) (hwk:S.own wk=some (wkB a u (.slice (some ⟨g,0,none⟩) 1 cg))) (hg:S.own g=some ⟨9,[.string s],cg⟩) (hgn:S.own gn=some ⟨9,[.string s],rn⟩) (hcg:1≤cg) (hp:Ps x 0) (hu:Use x s f 0) (hc:∀ j,j<x.fr.length→(atF x j).dirty=false) (hn:0<ns x.d s) (hs:s.size≤1024) :
  ACall Tryz.prog 56 #[self wk,.slice (some ⟨gn,0,none⟩) 1 cn] T fun v T'=>v = .nilIface ∧ ∃ zs y,ArS ((S.set g ⟨9,zs,cg⟩).set wk (wkB a u (.slice (some ⟨g,0,none⟩) 0 cg))) a p b c y T'∧Freed x y s:=by
 have hfr:=zrX S a p b c wk g cg u x s f T h hwk hg hcg hp hu hc hn hs
 have ogn:=zaj h hgn
 refine k_E2 (rs:=[.tmp 4]) 21 Tryz.func56 rfl rfl rfl ?_
 refine r14_ ?_
 refine AWP.loop (X:=DX) (fun X=>[(0,self wk),(8,.slice (some ⟨gn,0,none⟩) 1 cn),(9,.int .i64 1),(10,.int .i64 X.i)]) (fun X=>X.T) (fun X=>(X.i=0∧X.T=T)∨(X.i=1 ∧ ∃ zs y,ArS ((S.set g ⟨9,zs,cg⟩).set wk (wkB a u (.slice (some ⟨g,0,none⟩) 0 cg))) a p b c y X.T∧Freed x y s)) (fun X=>(1-X.i).toNat) (⟨T,0⟩) ⟨rfl,rfl,rfl,rfl,trivial⟩ (Mem.Less.refl _) (.inl ⟨rfl,rfl⟩) ?_
 rintro ⟨M,i⟩ hI
 (try dsimp only at *)
 replace hI:(i=0∧M=T)∨(i=1 ∧ ∃ zs y,ArS ((S.set g ⟨9,zs,cg⟩).set wk (wkB a u (.slice (some ⟨g,0,none⟩) 0 cg))) a p b c y M∧Freed x y s):=hI
 rcases hI with ⟨rfl,rfl⟩ | ⟨rfl,zs,y,hA,hF⟩
 ·refine r6_ ?_
  refine cT_ ?_
  refine r15_ ?_
  refine ca_ rfl (hfr) ?_
  rintro _ T2 ⟨rfl,zs,y,hA,hF⟩
  refine r6_ ?_
  refine rC (Calm.bin rfl rfl Er.neNil) ?_
  refine r2_ ?_
  refine cF_ ?_
  refine r8_ ?_
  refine ⟨⟨T2,1⟩,?_,?_,?_,?_⟩
  all_goals (try dsimp only)
  ·exact ⟨rfl,rfl,rfl,rfl,trivial⟩
  ·exact Mem.Less.refl _
  ·exact .inr ⟨rfl,zs,y,hA,hF⟩
  ·decide
 ·refine r6_ ?_
  refine cF_ ?_
  refine r11_ ?_
  refine ⟨_,M,⟨_,_,rfl,rfl,rfl⟩,zad,?_⟩
  exact ⟨rfl,zs,y,hA,hF⟩
set_option maxHeartbeats 4000000 in
theorem zua (S:Mem) (a p b c wk bw bs_:Nat) (u:W5) (tm:Value) (x:Pl) (s:ByteArray) (w ct n B:Nat) (T:Mem) (h:ArS S a p b c x T) (hwk:S.own wk=some (wkB a u tm)) (hbw:S.own bw=some ⟨63,[self wk],1⟩) (hbs:S.own bs_=some ⟨9,[.string s],1⟩) (hp:Ps x n) (hs:nm s) (h0:ns x.d s=0) (hw:w≤8) (hct:ct≤65536) (hr:(used x.d.ext:Int)+(Rec.needN w ct:Nat)≤x.d.size) (hB:Sto.nb x.fr≤B) :
  ACall Tryz.prog 19 #[.int .i64 (w:Nat),.int .u64 (ct:Nat),.pointer (some ⟨bw,0,none⟩),.pointer (some ⟨bs_,0,none⟩)] T fun v T'=>∃ q y,v = .tuple #[self q,.nilIface]∧Fresh S q∧WtS (S.set q (wtB a ⟨s,w,0,0,0,0⟩)) a p b c q ⟨s,w,0,0,0,0⟩ y n B [] T'∧Made x y s (Rec.needN w ct):=by
 have hto:=zto S a p b c wk u tm x s w ct n B T h hwk hp hs h0 hw hct hr hB
 have o1:=zaj h hbw
 have o2:=zaj h hbs
 refine k_E4 (rs:=[.tmp 6,.tmp 7]) 15 Tryz.func19 rfl rfl rfl ?_
 refine r12_ ?_
 refine ca_ rfl (hto) ?_
 rintro _ T1 ⟨q,y,rfl,k1,k2,k3⟩
 refine r7_ ?_
 refine ⟨_,T1,⟨_,_,rfl,⟨_,_,rfl,rfl,rfl⟩,rfl⟩,zad,?_⟩
 exact ⟨q,y,rfl,k1,k2,k3⟩
end Sto
end
section
open Go.RowKit
open Mv Disk Num
namespace Top
open Rec Sto Run
theorem ztA {d:D} {s:ByteArray} {w c:Nat} {body:ByteArray} (hd:Dw d 0) (hs:nm s) (h0:Sto.ns d s=0) (hr:(used d.ext:Int)+(needN w c:Nat)≤d.size) (hb:body.size=eachN w*c) (hn:needN w c≤16384) :
  ∃ z,putP d s w c body=(z,0)∧Dw z 0∧z.size=d.size∧used z.ext=used d.ext+needN w c ∧ ∀ o,Sto.ns z o=if s=o then needN w c else Sto.ns d o:=by
 have hn1:=zbl w c
 obtain ⟨e,e1,e2,e3,e4,e5,_,_⟩:=zqn hd hs h0 hn1 hr
 have hes:Sto.ns e s=needN w c:=by rw [e5,if_pos rfl]
 have hh:has e.ext s=true:=(zdR e2 s).2 (by omega)
 have hsec:sec (exOf e.ext s)=needN w c:=by
  have:=hes
  unfold Sto.ns at this
  rwa [if_pos hh] at this
 have hw:e.waits = []:=List.eq_nil_of_length_eq_zero (by have:=e2.w;omega)
 have hall:(padS body).size=64*(needN w c-1):=by rw [zcX,hb];unfold needN;omega
 have hp:=zfX e2.f hw hh hsec hn hall (needN w c-1) (by omega)
 have hRp:=(zcl e2.r e2.u (by rw [e2.f];decide) s (padS body) (needN w c-1)).1
 unfold putP
 rw [e1,if_neg (by simp),hp,if_neg (by simp)]
 rw [hp] at hRp
 simp only at hRp ⊢
 have hD:Dw { e with waits:=secsW s (padS body) (needN w c-1) } (needN w c-1):=⟨hRp,e2.f,e2.u,by show (secsW s (padS body) (needN w c-1)).length≤_;unfold secsW;simp⟩
 obtain ⟨s1,s2,s3,s4,_⟩:=zfg hD
 obtain ⟨f,f1,f2,f3,f4,f5,_⟩:=zff s1 (by decide) (k:=0) (s:=s) (data:=headS w c) (by rw [s4];show 0<Sto.ns e s;omega) (zhx w c)
 obtain ⟨t1,t2,t3,t4,_⟩:=zfg f2
 have f1:writeD (settleD { e with waits:=secsW s (padS body) (needN w c-1) } fun _=>true) s 0 (headS w c)=(f,0):=f1
 refine ⟨_,?_,t1,t2.trans (f3.trans (s2.trans e3)),t3.trans ((congrArg used f4).trans (s3.trans e4)),fun o=>(t4 o).trans ((f5 o).trans ((s4 o).trans (e5 o)))⟩
 unfold sealD
 rw [f1,if_pos rfl]
theorem zkT {n:Int} {s:ByteArray} {w:Nat} {l:List (List Nat)} (h0:0≤n) (hn:n≤16384) (hs:nm s) (h1:1≤w) (h8:w≤8) (hl:l.all (rowOK w)=true) (hc:40*l.length+127≤64*n) :
  ∃ z,writeP (freshD n) s w l=(z,0)∧Dw z 0∧z.size=n∧used z.ext=needN w l.length∧(∀ o,o≠s→Sto.ns z o=0)∧FileR z s w l.length (bs (l.flatMap recB)):=by
 have ha:=zfe hl
 have hbody:(bs (l.flatMap recB)).size=eachN w*l.length:=by
  show (bs (recsB l)).size=_
  rw [zaD,zbs l w fun x hx=>(ha x hx).1]
  unfold eachN
  rw [if_neg (by omega),Nat.mul_comm]
 have hneed:64*needN w l.length≤64+(40*l.length+63):=by
  have:=Nat.mul_le_mul_right l.length (zeG h8)
  unfold needN;omega
 have hd:Dw (freshD n) 0:=⟨zdz h0 hn,rfl,rfl,Nat.le_refl _⟩
 obtain ⟨z,z1,z2,z3,z4,z5⟩:=ztA (s:=s) (w:=w) (c:=l.length) (body:=bs (l.flatMap recB)) hd hs rfl (by show ((0:Nat):Int)+_≤n;omega) hbody (by omega)
 have hw:writeP (freshD n) s (w:Int) l=putP (freshD n) s w l.length (bs (l.flatMap recB)):=by
  unfold writeP
  rw [if_neg (by omega),Int.toNat_natCast,if_pos hl,zcU (zdz h0 hn) rfl]
 obtain ⟨z',y1,_,_,_,_,_,_,_,_,y6,_⟩:=zmC (d:=freshD n) (s:=s) (w:=(w:Int)) (l:=l) (by show (-1:Int)≤_;decide) (by rw [hw,z1])
 rw [hw,z1] at y1
 obtain rfl:z=z':=congrArg Prod.fst y1
 rw [Int.toNat_natCast] at y6
 refine ⟨z,hw.trans z1,z2,z3,z4.trans (Nat.zero_add _),fun o ho=>?_,y6⟩
 rw [z5,if_neg (Ne.symm ho)];rfl
theorem zkU {w:Nat} {l:List (List Nat)} (h:l.all (rowOK w)=true):RowsOK w l:=fun r hr=>by
 have h1:=(List.all_eq_true.1 h) r hr
 unfold rowOK recOK at h1
 simp only [Bool.and_eq_true,decide_eq_true_eq,List.all_eq_true] at h1
 exact ⟨h1.2,fun n hn=>h1.1.2 n hn⟩
theorem zpL {w:Nat} {l l':List (List Nat)} (h:l.all (rowOK w)=true) (hp:l'.Perm l):l'.all (rowOK w)=true:=by
 rw [List.all_eq_true] at h ⊢
 exact fun x hx=>h x (hp.mem_iff.1 hx)
def ErrO (S:Mem):Prop:=∃ u v,S.Knows ⟨0,0,none⟩ [.iface u v]
theorem zpM {M:Mem} {a b:Nat} {A B C E:Blk} (hb:Fresh (M.set a A) b):(M.set a C).Less ((((M.set a A).set b B).set a C).set b E):=by
 obtain ⟨h1,hne⟩:=zaa hb
 refine ⟨fun k r hk=>?_,rfl⟩
 by_cases e:k=b
 ·subst e;rw [Mem.own_set_other _ _ hne,h1.1] at hk;cases hk
 ·rw [Mem.own_set_other _ _ e]
  by_cases e2:k=a
  ·subst e2;rw [Mem.own_set_same] at hk ⊢;exact hk
  ·rw [Mem.own_set_other _ _ e2] at hk ⊢
   rw [Mem.own_set_other _ _ e,Mem.own_set_other _ _ e2];exact hk
end Top
end
section
open Go.RowKit
open Mv Num
set_option maxRecDepth 8000
theorem zni (x:Int) (w:World):Calls Tryz.prog 171 #[.int .i64 x] w fun e w'=>e = .returned (.bool false)∧w'=w:=by
 go_enter Tryz.func171,Tryz.ntmps171
 go_wp2_with fail
 go_ret
 exact ⟨by simp,rfl⟩
theorem zqy (x y:Int) (w:World):Calls Tryz.prog 118 #[.int .i64 x,.int .i64 y] w fun e w'=>e = .returned (.int .i64 (if x<y then -1 else if y<x then 1 else 0))∧w'=w:=by
 rcases Int.lt_trichotomy x y with q | q | q
 ·go_enter Tryz.func118,Tryz.ntmps118
  go_wp2_with (go_at_call 171;refine (zni _ _).mono ?_;rintro e w' ⟨rfl,rfl⟩)
  go_ret
  exact ⟨by simp,rfl⟩
 ·subst q
  go_enter Tryz.func118,Tryz.ntmps118
  go_wp2_with (go_at_call 171;refine (zni _ _).mono ?_;rintro e w' ⟨rfl,rfl⟩)
  go_ret
  exact ⟨by simp,rfl⟩
 ·have q' : ¬ x<y:=by omega
  go_enter Tryz.func118,Tryz.ntmps118
  go_wp2_with (go_at_call 171;refine (zni _ _).mono ?_;rintro e w' ⟨rfl,rfl⟩)
  go_ret
  exact ⟨by simp,rfl⟩
theorem k_or (x y:Int) (b:Nat) (w:World) (h0:w.cell? ⟨b,0,none⟩=some (.int .i64 x)) (h1:w.cell? ⟨b,1,none⟩=some (.int .i64 y)) :
  Calls Tryz.prog 117 #[.slice (some ⟨b,0,none⟩) 2 2] w fun e w'=>e = .returned (.int .i64 (if x≠0 then x else y))∧w'=w:=by
 go_enter Tryz.func117,Tryz.ntmps117
 go_wp2_with fail
 go_loop [8] (fun v8=>∃ i:Nat,i≤2∧v8 = .int .i64 i∧(1≤i→x=0)∧(2≤i→y=0)) (fun v8=>2-(intOf v8).toNat)
 case atStart=>exact ⟨0,by omega,rfl,by omega,by omega⟩
 case round =>
  obtain ⟨i,hi,rfl,hx,hy⟩:=hrel
  obtain rfl | rfl | rfl:i=0∨i=1∨i=2:=by omega
  ·by_cases e:x=0
   ·subst e
    go_wp2_with fail
    exact ⟨⟨1,by omega,rfl,by simp,by omega⟩,by simp [intOf]⟩
   ·go_wp2_with fail
    go_ret
    exact ⟨by simp [e],rfl⟩
  ·have hx:=hx (by omega)
   by_cases e:y=0
   ·subst e
    go_wp2_with fail
    exact ⟨⟨2,by omega,rfl,fun _=>hx,by simp⟩,by simp [intOf]⟩
   ·go_wp2_with fail
    go_ret
    exact ⟨by simp [hx],rfl⟩
  ·have hx:=hx (by omega)
   have hy:=hy (by omega)
   go_wp2_with fail
   go_ret
   exact ⟨by simp [hx,hy],rfl⟩
def bhd (r:List Nat) (k a:Nat):Nat:=if a+k<r.length then r.getD (a+k) 0+1 else 0
theorem zpN (a k c1 c2:Nat) (p:Option Addr) (c:Nat) (r:List Nat) (w:World) (h1:w.cell? ⟨c1,0,none⟩=some (.int .i64 (k:Int))) (h2:w.cell? ⟨c2,0,none⟩=some (.slice p r.length c)) (hr:∀ i (h:i<r.length),∃ b o,p=some ⟨b,o,none⟩∧w.cell? ⟨b,o+i,none⟩=some (.int .i64 (r[i] : Int))) (ha:a≤8192) (hk:k≤8192) (hb:∀ x ∈ r,x≤8192) :
  Calls Tryz.prog 115 #[.int .i64 (a:Int),.pointer (some ⟨c1,0,none⟩),.pointer (some ⟨c2,0,none⟩)] w fun e w'=>e = .returned (.int .i64 (bhd r k a:Nat))∧w'=w:=by
 unfold bhd
 go_enter Tryz.func115,Tryz.ntmps115
 have wr:IntKind.i64.wrap ((a:Int)+k)=((a+k:Nat):Int):=by rw [IntWalk.i64_in _ (by omega)];simp
 by_cases q:a+k<r.length
 ·obtain ⟨b,o,rfl,hc⟩:=hr _ q
  have hx:=hb _ (List.getElem_mem q)
  have e:r.getD (a+k) 0=r[a+k]:=by simp [List.getD,q]
  have j1:((a+k:Nat):Int)<r.length:=by omega
  have j2:(0:Int)≤((a+k:Nat):Int):=by omega
  have j3:((a+k:Nat):Int).toNat=a+k:=Int.toNat_natCast _
  rw [if_pos q,e]
  generalize r[a+k]=x at *
  go_wp2_with fail
  go_ret
  exact ⟨by simp,rfl⟩
 ·have j1 : ¬ ((a:Int)+k)<r.length:=by omega
  rw [if_neg q]
  go_wp2_with fail
  go_ret
  exact ⟨by simp,rfl⟩
def behF (c5 c4:Nat):Value:=.func (.func 115) #[] #[.pointer (some ⟨c5,0,none⟩),.pointer (some ⟨c4,0,none⟩)]
def cfD (r:List Nat) (k a b:Nat):Int:=if (if (r.getD a 0:Int)<r.getD b 0 then -1 else if (r.getD b 0:Int)<r.getD a 0 then 1 else 0:Int)≠0 then (if (r.getD a 0:Int)<r.getD b 0 then -1 else if (r.getD b 0:Int)<r.getD a 0 then 1 else 0) else if (bhd r k a:Int)<bhd r k b then -1 else if (bhd r k b:Int)<bhd r k a then 1 else 0
def Gr (w w':World):Prop:=∃ q os,w'=Go.Sort.grow (w.drewN q) os
theorem Gr.refl (w:World):Gr w w:=⟨0,#[],by rw [Go.Sort.grow_empty];rfl⟩
theorem Gr.trans {u v w:World} (h:Gr u v) (g:Gr v w):Gr u w:=by
 obtain ⟨q,os,rfl⟩:=h
 obtain ⟨q',os',rfl⟩:=g
 exact ⟨q+q',os ++ os',by show Go.Sort.grow (Go.Sort.grow ((u.drewN q).drewN q') os) os'=_;rw [Go.Sort.grow_grow,World.drewN_drewN]⟩
theorem Gr.cell {w w':World} (h:Gr w w') {a:Addr} {v:Value} (hc:w.cell? a=some v):w'.cell? a=some v:=by
 obtain ⟨q,os,rfl⟩:=h
 exact cell_grown (World.block_lt_of_cell? _ _ hc) hc q os
theorem zcq {P:Program} {m:Sem Next} {f:FuncId} {args:Array Value} {w:World} {R:Value→World→Prop} (h:m.run P w = .ok (.enter f args) w) (hc:Calls P f args w fun e w'=>∃ v,e = .returned v∧R v w'):Reg.Yield P m w R:=by
 unfold Reg.Yield;rw [h];exact hc
theorem znj {P:Program} {m:Sem Next} {v:Value} {w w':World} {R:Value→World→Prop} (h:m.run P w = .ok (.value v) w') (hR:R v w'):Reg.Yield P m w R:=by
 unfold Reg.Yield;rw [h];exact hR
theorem ztB (a b k c4 c5 c7:Nat) (p:Option Addr) (c:Nat) (r:List Nat) (w:World) (h4:w.cell? ⟨c4,0,none⟩=some (.slice p r.length c)) (h5:w.cell? ⟨c5,0,none⟩=some (.int .i64 (k:Int))) (h7:w.cell? ⟨c7,0,none⟩=some (behF c5 c4)) (hr:∀ i (h:i<r.length),∃ b o,p=some ⟨b,o,none⟩∧w.cell? ⟨b,o+i,none⟩=some (.int .i64 (r[i] : Int))) (ha:a<r.length) (hb:b<r.length) (hrl:r.length≤4096) (hk:k≤8192) (hbd:∀ x ∈ r,x≤8192) :
  Calls Tryz.prog 116 #[.int .i64 (a:Int),.int .i64 (b:Int),.pointer (some ⟨c4,0,none⟩),.pointer (some ⟨c7,0,none⟩)] w fun e w'=>e = .returned (.int .i64 (cfD r k a b))∧Gr w w':=by
 obtain ⟨rb,ro,rfl,hca⟩:=hr a ha
 obtain ⟨rb',ro',e,hcb⟩:=hr b hb
 cases e
 obtain ⟨c1,hc1⟩ : ∃ c1:Int,c1=if (r[a] : Int)<r[b] then -1 else if (r[b] : Int)<r[a] then 1 else 0:=⟨_,rfl⟩
 obtain ⟨c2,hc2⟩ : ∃ c2:Int,c2=if (bhd r k a:Int)<bhd r k b then -1 else if (bhd r k b:Int)<bhd r k a then 1 else 0:=⟨_,rfl⟩
 have ec:cfD r k a b=if c1≠0 then c1 else c2:=by
  unfold cfD;rw [show r.getD a 0=r[a] from by simp [List.getD,ha],show r.getD b 0=r[b] from by simp [List.getD,hb],hc1,hc2]
 obtain ⟨res,hres⟩ : ∃ res,res=if c1≠0 then c1 else c2:=⟨_,rfl⟩
 rw [ec,← hres]
 clear ec
 have hc1:=Lib.hid hc1
 have hc2:=Lib.hid hc2
 have hres:=Lib.hid hres
 have hbh:∀ W,Gr w W → ∀ i,i<r.length→Calls Tryz.prog 115 #[.int .i64 (i:Int),.pointer (some ⟨c5,0,none⟩),.pointer (some ⟨c4,0,none⟩)] W fun e w'=>e = .returned (.int .i64 (bhd r k i:Nat))∧w'=W:=fun W hW i hi =>
  zpN i k c5 c4 _ c r W (hW.cell h5) (hW.cell h4) (fun j hj=>by obtain ⟨b,o,e,h⟩:=hr j hj;exact ⟨b,o,e,hW.cell h⟩) (by omega) hk hbd
 go_enter Tryz.func116,Tryz.ntmps116
 go_wp2_with fail
 refine Reg.zjt rfl (by kernel_rfl) (fun i v W=>if i=16 then ∃ b,v = .slice (some ⟨b,0,none⟩) 2 2∧W.cell? ⟨b,0,none⟩=some (.int .i64 c1)∧W.cell? ⟨b,1,none⟩=some (.int .i64 c2) else v=([.slice (some ⟨rb,ro,none⟩) r.length c,.int .i64 a,.pointer (some ⟨rb,ro+a,none⟩),.int .i64 r[a],.slice (some ⟨rb,ro,none⟩) r.length c,.int .i64 b,.pointer (some ⟨rb,ro+b,none⟩),.int .i64 r[b],.int .i64 c1,behF c5 c4,.int .i64 a,.int .i64 (bhd r k a:Nat),behF c5 c4,.int .i64 b,.int .i64 (bhd r k b:Nat),.int .i64 c2,.bool true,.int .i64 res,.int .i64 res] : List Value).getD i undef) (fun _ W=>Gr w W) Gr ⟨1,#[],by rw [Go.Sort.grow_empty];rfl⟩ (fun i v W W' hW hv=>?mono) (Reg.each ?_) ?fin
 case mono =>
  by_cases e:i=16
  ·rw [if_pos e] at hv ⊢
   obtain ⟨b,h1,h2,h3⟩:=hv
   exact ⟨b,h1,hW.cell h2,hW.cell h3⟩
  ·rw [if_neg e] at hv ⊢;exact hv
 case fin =>
  intro tm w' st hsz hI hall hDf hbase
  have e6:=hDf 18 _ 6 rfl rfl
  simp only [show ¬ (18:Nat)=16 from by decide,if_false] at e6
  rename_i K1 aK
  refine aK _ _ ?_
  go_wp2_with fail
  go_ret
  exact ⟨by rw [e6];rfl,hI⟩
 refine ⟨?_,?_,?_,?_,?_,?_,?_,?_,?_,?_,?_,?_,?_,?_,?_,?_,?_,?_,?_,trivial⟩
 all_goals (intro a1 w1 st ha1 hI hd hs hi hw hT;dsimp only)
 ·exact zam ha1 (E:=[(2,.pointer (some ⟨c4,0,none⟩))]) ⟨hT 2 (by kernel_rfl),trivial⟩ (Calm.load (by kernel_rfl) rfl (zdi (hI.cell h4))) ⟨rfl,hI,Gr.refl _⟩
 ·exact zam ha1 (E:=[(0,.int .i64 (a:Int))]) ⟨hT 0 (by kernel_rfl),trivial⟩ (Calm.move rfl) ⟨rfl,hI,Gr.refl _⟩
 ·exact zam ha1 (E:=[(7,.slice (some ⟨rb,ro,none⟩) r.length c),(8,.int .i64 (a:Int))]) ⟨hd ⟨0,.data⟩ (by simp) rfl _ _ rfl rfl,hd ⟨1,.data⟩ (by simp) rfl _ _ rfl rfl,trivial⟩ (Calm.indexS (e:=3) (n:=1) (by kernel_rfl) (by kernel_rfl) rfl rfl (Int.natCast_nonneg _) (Int.ofNat_lt.2 ha)) ⟨by simp,hI,Gr.refl _⟩
 ·exact zam ha1 (E:=[(9,.pointer (some ⟨rb,ro+a,none⟩))]) ⟨hd ⟨2,.data⟩ (by simp) rfl _ _ rfl rfl,trivial⟩ (Calm.load (by kernel_rfl) rfl (zdi (hI.cell hca))) ⟨rfl,hI,Gr.refl _⟩
 ·exact zam ha1 (E:=[(2,.pointer (some ⟨c4,0,none⟩))]) ⟨hT 2 (by kernel_rfl),trivial⟩ (Calm.load (by kernel_rfl) rfl (zdi (hI.cell h4))) ⟨rfl,hI,Gr.refl _⟩
 ·exact zam ha1 (E:=[(1,.int .i64 (b:Int))]) ⟨hT 1 (by kernel_rfl),trivial⟩ (Calm.move rfl) ⟨rfl,hI,Gr.refl _⟩
 ·exact zam ha1 (E:=[(11,.slice (some ⟨rb,ro,none⟩) r.length c),(12,.int .i64 (b:Int))]) ⟨hd ⟨4,.data⟩ (by simp) rfl _ _ rfl rfl,hd ⟨5,.data⟩ (by simp) rfl _ _ rfl rfl,trivial⟩ (Calm.indexS (e:=3) (n:=1) (by kernel_rfl) (by kernel_rfl) rfl rfl (Int.natCast_nonneg _) (Int.ofNat_lt.2 hb)) ⟨by simp,hI,Gr.refl _⟩
 ·exact zam ha1 (E:=[(13,.pointer (some ⟨rb,ro+b,none⟩))]) ⟨hd ⟨6,.data⟩ (by simp) rfl _ _ rfl rfl,trivial⟩ (Calm.load (by kernel_rfl) rfl (zdi (hI.cell hcb))) ⟨rfl,hI,Gr.refl _⟩
 ·have e1:a1.eval (.tmp 10) = .int .i64 r[a]:=hd ⟨3,.data⟩ (by simp) rfl _ _ rfl rfl
  have e2:a1.eval (.tmp 14) = .int .i64 r[b]:=hd ⟨7,.data⟩ (by simp) rfl _ _ rfl rfl
  simp [go_sem] at e1 e2
  exact zcq (f:=118) (args:=#[.int .i64 r[a],.int .i64 r[b]]) (by simp [execOp,resolve,invoke,e1,e2,go_sem]) ((zqy _ _ _).mono fun e w' ⟨he,hw⟩=>⟨_,he,by rw [hc1.out];rfl,by rw [hw];exact hI,by rw [hw];exact Gr.refl _⟩)
 ·exact zam ha1 (E:=[(3,.pointer (some ⟨c7,0,none⟩))]) ⟨hT 3 (by kernel_rfl),trivial⟩ (Calm.load (by kernel_rfl) rfl (zdi (hI.cell h7))) ⟨rfl,hI,Gr.refl _⟩
 ·exact zam ha1 (E:=[(0,.int .i64 (a:Int))]) ⟨hT 0 (by kernel_rfl),trivial⟩ (Calm.move rfl) ⟨rfl,hI,Gr.refl _⟩
 ·have e1:a1.eval (.tmp 16)=behF c5 c4:=hd ⟨9,.data⟩ (by simp) rfl _ _ rfl rfl
  have e2:a1.eval (.tmp 17) = .int .i64 a:=hd ⟨10,.data⟩ (by simp) rfl _ _ rfl rfl
  simp [go_sem,behF] at e1 e2
  exact zcq (f:=115) (args:=#[.int .i64 a,.pointer (some ⟨c5,0,none⟩),.pointer (some ⟨c4,0,none⟩)]) (by simp [execOp,resolve,invoke,e1,e2,go_sem]) ((hbh w1 hI a ha).mono fun e w' ⟨he,hw⟩=>⟨_,he,rfl,by rw [hw];exact hI,by rw [hw];exact Gr.refl _⟩)
 ·exact zam ha1 (E:=[(3,.pointer (some ⟨c7,0,none⟩))]) ⟨hT 3 (by kernel_rfl),trivial⟩ (Calm.load (by kernel_rfl) rfl (zdi (hI.cell h7))) ⟨rfl,hI,Gr.refl _⟩
 ·exact zam ha1 (E:=[(1,.int .i64 (b:Int))]) ⟨hT 1 (by kernel_rfl),trivial⟩ (Calm.move rfl) ⟨rfl,hI,Gr.refl _⟩
 ·have e1:a1.eval (.tmp 19)=behF c5 c4:=hd ⟨12,.data⟩ (by simp) rfl _ _ rfl rfl
  have e2:a1.eval (.tmp 20) = .int .i64 b:=hd ⟨13,.data⟩ (by simp) rfl _ _ rfl rfl
  simp [go_sem,behF] at e1 e2
  exact zcq (f:=115) (args:=#[.int .i64 b,.pointer (some ⟨c5,0,none⟩),.pointer (some ⟨c4,0,none⟩)]) (by simp [execOp,resolve,invoke,e1,e2,go_sem]) ((hbh w1 hI b hb).mono fun e w' ⟨he,hw⟩=>⟨_,he,rfl,by rw [hw];exact hI,by rw [hw];exact Gr.refl _⟩)
 ·have e1:a1.eval (.tmp 18) = .int .i64 (bhd r k a:Nat):=hd ⟨11,.data⟩ (by simp) rfl _ _ rfl rfl
  have e2:a1.eval (.tmp 21) = .int .i64 (bhd r k b:Nat):=hd ⟨14,.data⟩ (by simp) rfl _ _ rfl rfl
  simp [go_sem] at e1 e2
  exact zcq (f:=118) (args:=#[.int .i64 (bhd r k a:Nat),.int .i64 (bhd r k b:Nat)]) (by simp [execOp,resolve,invoke,e1,e2,go_sem]) ((zqy _ _ _).mono fun e w' ⟨he,hw⟩=>⟨_,he,by rw [hc2.out];rfl,by rw [hw];exact hI,by rw [hw];exact Gr.refl _⟩)
 ·have e1:a1.eval (.tmp 15) = .int .i64 c1:=hd ⟨8,.data⟩ (by simp) rfl _ _ rfl rfl
  have e2:a1.eval (.tmp 22) = .int .i64 c2:=hd ⟨15,.data⟩ (by simp) rfl _ _ rfl rfl
  simp [go_sem] at e1 e2
  have g:Gr w1 (w1.alloc (.cells #[.int .i64 c1,.int .i64 c2] 3)):=⟨0,#[.cells #[.int .i64 c1,.int .i64 c2] 3],by rw [Go.Sort.alloc_eq_grow];rfl⟩
  exact znj (v:=.slice (some ⟨w1.heap.size,0,none⟩) 2 2) (w':=w1.alloc (.cells #[.int .i64 c1,.int .i64 c2] 3)) (by simp [execOp,Instr.buildSlice,e1,e2,go_sem,Instr.fill]) ⟨⟨_,rfl,by simp only [World.cell?,heap_alloc_new];rfl,by simp only [World.cell?,heap_alloc_new];rfl⟩,Gr.trans hI g,g⟩
 ·obtain ⟨b,e1,h1,h2⟩:=hd ⟨16,.data⟩ (by simp) rfl _ _ rfl rfl
  simp [go_sem] at e1
  exact zcq (f:=117) (args:=#[.slice (some ⟨b,0,none⟩) 2 2]) (by simp [execOp,resolve,invoke,e1,go_sem]) ((k_or _ _ _ _ h1 h2).mono fun e w' ⟨he,hw⟩=>⟨_,he,by rw [← hres.out];rfl,by rw [hw];exact hI,by rw [hw];exact Gr.refl _⟩)
 ·exact zam ha1 (E:=[(24,.int .i64 res)]) ⟨hd ⟨17,.data⟩ (by simp) rfl _ _ rfl rfl,trivial⟩ (Calm.assign rfl) ⟨rfl,hI,Gr.refl _⟩
end
section
open Go.RowKit
open Mv Num
set_option maxRecDepth 4000
def i64n (k:Nat):List Value:=[.int .i64 (k:Int)]
abbrev IdxR (S:Mem) (v:Value) (l:List Nat):Prop:=Sl 1 i64n S v l
end
end Go.Proofs.YtoaoibeobhcgmaaGreatDoor
