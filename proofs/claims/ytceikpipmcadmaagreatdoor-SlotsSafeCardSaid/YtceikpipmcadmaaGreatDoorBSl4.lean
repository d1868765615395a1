/-
  Texts that belong together: Disk7, Disk8, Shelf, Disk9, Disk10, Disk11, Disk12, Disk13, Disk14, Disk15, Disk16, DiskMath3, Disk18, Disk19, Disk20, DiskR0, DR1, DR4, Draw, DR5, DR6, DR10, DiskIter, DiskSee, Region, Disk21, Disk22, DR7, DR8, DiskLv0, DkP1, CrcMath.
-/
import Derived.Test.YtceikpipmcadmaaGreatDoorBSl3
import Derived.Shelf.Strings.Builder1
import Derived.Shelf.Strings.Repeat
import Derived.Test.YtceikpipmcadmaaGreatDoorProg
import Derived.RangeFuncNested
import Derived.RangeFuncBound
import Derived.RangeFuncCalls
import Derived.RangeFuncLeaves
import Derived.Shelf.Abstract
import Derived.Shelf.RegionOpen
import Derived.WalkKit
import Derived.OwnWalkIn
import Derived.TacticsInMore
import Derived.LoopNIn
import Derived.LoopIn
import Derived.Orders
import Derived.Laws.BitsLemmas
import Derived.Laws.BytesArg
set_option linter.unusedVariables false
set_option linter.unusedSimpArgs false
set_option linter.unusedSectionVars false
namespace Go.Proofs.YtceikpipmcadmaaGreatDoor
open Go.RowKit
open Mv Disk
set_option maxRecDepth 4000
theorem spl_mid {A Y X B : List Value} {k : Nat} (hk : A.length = k) (hl : Y.length = X.length) : spl (A ++ (Y ++ B)) k X = A ++ (X ++ B) := by
 subst hk
 unfold spl
 rw [List.take_left,← List.drop_drop,List.drop_left,← hl,List.drop_left,List.append_assoc]
theorem spl_end {A Y X : List Value} {k : Nat} (hk : A.length = k) (hl : Y.length ≤ X.length) : spl (A ++ Y) k X = A ++ X := by
 subst hk
 unfold spl
 rw [List.take_left,List.drop_of_length_le (by rw [List.length_append];omega),List.append_nil]
theorem flat_take {α : Type} {n : Nat} {f : α → List Value} (l : List α) (i : Nat) : l.flatMap f = (l.take i).flatMap f ++ (l.drop i).flatMap f := by
 rw [← List.flatMap_append,List.take_append_drop]
theorem room_cells {A D X : List Value} {i : Nat} (hA : A.length = i * 2) (hX : X.length = 2) (hD : 2 ≤ D.length) : spl (spl (A ++ D) (0 + (i + 1) * 2) D) (0 + i * 2) X = A ++ (X ++ D) := by
 have e:spl (A ++ D) (0+(i+1)*2) D=A ++ (D.take 2 ++ D):=by
  have e1:A ++ D=(A ++ D.take 2) ++ D.drop 2:=by rw [List.append_assoc,List.take_append_drop]
  rw [e1,spl_end (by simp [hA];omega) (by simp),List.append_assoc]
 rw [e]
 exact spl_mid (by omega) (by simp [hX];omega)
theorem grow_cells {A D X zs : List Value} {i : Nat} (hA : A.length = i * 2) (hX : X.length = 2) (hz : zs.length = 2 + D.length) : spl (spl (A ++ zs) (0 + i * 2) X) (0 + (i + 1) * 2) D = A ++ (X ++ D) := by
 have e:spl (A ++ zs) (0+i*2) X=(A ++ X) ++ zs.drop 2:=by
  have e1:A ++ zs=A ++ (zs.take 2 ++ zs.drop 2):=by rw [List.take_append_drop]
  rw [e1,spl_mid (by omega) (by simp [hX];omega),List.append_assoc]
 rw [e,spl_end (by simp [hA,hX];omega) (by simp;omega),List.append_assoc]
def insAt (l : List Ext) (i : Nat) (x : Ext) : List Ext := l.take i ++ x :: l.drop i
theorem ins_flat (l : List Ext) (i : Nat) (x : Ext) : (insAt l i x).flatMap extF = (l.take i).flatMap extF ++ (extF x ++ (l.drop i).flatMap extF) := by
 unfold insAt;rw [List.flatMap_append,List.flatMap_cons]
theorem ins_len {l : List Ext} {i : Nat} (h : i ≤ l.length) (x : Ext) : (insAt l i x).length = l.length + 1 := by
 unfold insAt;simp;omega
set_option maxHeartbeats 2000000 in
theorem ins_ext (B : Mem) (o : Option (Nat × Nat)) (l : List Ext) (i : Nat) (x : Ext) (t : Nat) (ho : OkO B o l.length) (ht : Fresh (outN 2 B o extT (l.flatMap extF)) t) (hi : i ≤ l.length) (hlen : l.length ≤ 16384) :
  ACall Tryz.prog 138 #[outV o l.length,.int .i64 (i:Int),.slice (some ⟨t,0,none⟩) 1 1] ((outN 2 B o extT (l.flatMap extF)).set t ⟨extT,extF x,2⟩) fun r S'=>∃ o',OkO B o' (l.length+1)∧r=outV o' (l.length+1)∧S'=outN 2 B o' extT ((insAt l i x).flatMap extF):=by
 have hfl:=flat_length ext_len l
 have hx1:∀ v ∈ extF x,v.oneCell'=true:=fun v hv=>ext_one [x] v (by simpa using hv)
 have happ:AppN 2 ((outN 2 B o extT (l.flatMap extF)).set t ⟨extT,extF x,2⟩) B o extT (l.flatMap extF):=(appN_self ho hfl).temp ht
 by_cases hil:i=l.length
 ·subst hil
  have he:(insAt l l.length x).flatMap extF=l.flatMap extF ++ extF x:=by rw [ins_flat];simp
  rw [he]
  cases o with
  | none =>
   obtain rfl:l = []:=List.eq_nil_of_length_eq_zero (ho.nil rfl)
   refine ACall.enter (rs:=[.tmp 6]) 95 [(0,.slice none 0 0),(1,.int .i64 0),(2,.slice (some ⟨t,0,none⟩) 1 1)] Tryz.func138 rfl rfl (Nat.le_of_ble_eq_true rfl) rfl ⟨rfl,rfl,rfl,trivial⟩ ?_
   iterate 12 refine s1_ ?_
   refine su_ [(0,_),(1,_),(2,_),(6,_)] ?_
   iterate 7 refine s1_ ?_
   refine su_ [(0,_),(1,_),(2,_),(6,_),(7,_)] ?_
   iterate 7 refine s1_ ?_
   refine su_ [(0,_),(1,_),(2,_),(6,_),(7,_),(16,_)] ?_
   refine cF_ ?_
   iterate 9 refine s1_ ?_
   refine su_ [(0,_),(1,_),(2,_),(6,_),(7,_),(16,_),(8,_)] ?_
   iterate 8 refine s1_ ?_
   refine su_ [(0,_),(1,_),(2,_),(6,_),(7,_),(16,_),(8,_),(22,_)] ?_
   refine cT_ ?_
   iterate 4 refine s1_ ?_
   refine ARun.appendOK (n:=2) (o:=none) (k:=0) (m:=1) (cs:=[]) (lit_lt rfl) ty_sl_22 rfl rfl hfl ho happ rfl (src_own (Mem.own_set_same _ _ _) List.prefix_rfl) rfl hx1 (by omega) (by omega) ?_
   intro o' ho'
   iterate 3 refine s1_ ?_
   refine su_ [(0,_),(1,_),(2,_),(6,_),(7,_),(16,_),(8,_),(22,_)] ?_
   iterate 2 refine s1_ ?_
   refine ⟨_,_,⟨_,_,rfl,rfl,rfl⟩,Mem.Less.refl _,?_⟩
   exact ⟨o',ho',rfl,rfl⟩
  | some q =>
   obtain ⟨b,c⟩:=q
   have hc:=(ho.own b c rfl).2
   refine ACall.enter (rs:=[.tmp 6]) 95 [(0,outV (some (b,c)) l.length),(1,.int .i64 (l.length:Int)),(2,.slice (some ⟨t,0,none⟩) 1 1)] Tryz.func138 rfl rfl (Nat.le_of_ble_eq_true rfl) rfl ⟨rfl,rfl,rfl,trivial⟩ ?_
   iterate 12 refine s1_ ?_
   refine su_ [(0,_),(1,_),(2,_),(6,_)] ?_
   iterate 7 refine s1_ ?_
   refine su_ [(0,_),(1,_),(2,_),(6,_),(7,_)] ?_
   iterate 7 refine s1_ ?_
   refine su_ [(0,_),(1,_),(2,_),(6,_),(7,_),(16,_)] ?_
   refine cF_ ?_
   iterate 9 refine s1_ ?_
   refine su_ [(0,_),(1,_),(2,_),(6,_),(7,_),(16,_),(8,_)] ?_
   iterate 8 refine s1_ ?_
   refine su_ [(0,_),(1,_),(2,_),(6,_),(7,_),(16,_),(8,_),(22,_)] ?_
   refine cT_ ?_
   iterate 4 refine s1_ ?_
   refine ARun.appendOK (n:=2) (o:=some (b,c)) (k:=l.length) (m:=1) (cs:=l.flatMap extF) (lit_lt rfl) ty_sl_22 rfl rfl hfl ho happ rfl (src_own (Mem.own_set_same _ _ _) List.prefix_rfl) rfl hx1 (by omega) (by omega) ?_
   intro o' ho'
   iterate 3 refine s1_ ?_
   refine su_ [(0,_),(1,_),(2,_),(6,_),(7,_),(16,_),(8,_),(22,_)] ?_
   iterate 2 refine s1_ ?_
   refine ⟨_,_,⟨_,_,rfl,rfl,rfl⟩,Mem.Less.refl _,?_⟩
   exact ⟨o',ho',rfl,rfl⟩
 ·obtain ⟨⟨b,c⟩,rfl⟩ : ∃ q,o=some q:=by
   cases o with
   | none=>have:=ho.nil rfl;omega
   | some q=>exact ⟨q,rfl⟩
  have hc:=(ho.own b c rfl).2
  have hfb:=(ho.own b c rfl).1
  obtain ⟨htB,htb⟩:=fresh_set ht
  have hA:=flat_length ext_len (l.take i)
  have hD:=flat_length ext_len (l.drop i)
  rw [List.length_take,Nat.min_eq_left hi] at hA
  rw [List.length_drop] at hD
  have hsplit:=flat_take (n:=2) (f:=extF) l i
  have hsl:(spl (l.flatMap extF) (0+(i+1)*2) ((l.drop i).flatMap extF)).length=l.length*2+2:=by
   unfold spl;simp only [List.length_append,List.length_take,List.length_drop,hfl,hD];omega
  rw [ins_flat]
  dsimp only [outN,outV]
  by_cases hroom:l.length+1≤c
  ·skip
   refine ACall.enter (rs:=[.tmp 6]) 95 [(0,.slice (some ⟨b,0,none⟩) l.length c),(1,.int .i64 (i:Int)),(2,.slice (some ⟨t,0,none⟩) 1 1)] Tryz.func138 rfl rfl (Nat.le_of_ble_eq_true rfl) rfl ⟨rfl,rfl,rfl,trivial⟩ ?_
   iterate 12 refine s1_ ?_
   refine su_ [(0,_),(1,_),(2,_),(6,_)] ?_
   iterate 7 refine s1_ ?_
   refine su_ [(0,_),(1,_),(2,_),(6,_),(7,_)] ?_
   iterate 7 refine s1_ ?_
   refine su_ [(0,_),(1,_),(2,_),(6,_),(7,_),(16,_)] ?_
   refine cF_ ?_
   iterate 9 refine s1_ ?_
   refine su_ [(0,_),(1,_),(2,_),(6,_),(7,_),(16,_),(8,_)] ?_
   iterate 8 refine s1_ ?_
   refine su_ [(0,_),(1,_),(2,_),(6,_),(7,_),(16,_),(8,_),(22,_)] ?_
   refine cF_ ?_
   iterate 9 refine s1_ ?_
   refine rC (Calm.cap Tryz.underlying22 rfl) ?_
   iterate 3 refine s1_ ?_
   refine su_ [(0,_),(1,_),(2,_),(6,_),(7,_),(16,_),(8,_),(22,_),(31,_)] ?_
   refine cF_ ?_
   iterate 8 refine s1_ ?_
   refine rC (Calm.sliceHi (l.length+1) Tryz.underlying22 ty_size_81 rfl rfl (by omega) (by omega)) ?_
   iterate 3 refine s1_ ?_
   refine su_ [(0,_),(1,_),(2,_),(6,_),(7,_),(16,_),(8,_),(22,_),(31,_)] ?_
   iterate 8 refine s1_ ?_
   refine rC (Calm.sliceLo (i+1) Tryz.underlying22 ty_size_81 rfl rfl (by omega) (by omega) (by omega)) ?_
   refine ARun.overlapsNo (T:=22) (tR:=4) (lit_lt rfl) Tryz.func170 rfl rfl rfl rfl Tryz.underlying22 ty_size_81 rfl (Mem.own_set_same _ _ _) (Nat.ne_of_beq_eq_false rfl) (show 0<2 from by decide) own_ (by simp only [hfl];omega) htb ?_
   iterate 3 refine s1_ ?_
   refine su_ [(0,_),(1,_),(2,_),(6,_),(7,_),(16,_),(8,_),(22,_),(31,_),(68,_)] ?_
   refine cT_ ?_
   refine s1_ ?_
   refine AWP.draw [(0,true),(1,true),(2,true),(3,true),(4,true),(5,true),(6,true),(7,true),(8,false)] [8] mixed (by kernel_rfl) ?_
   iterate 4 refine s1_ ?_
   refine dP (hc:=fun _=>Calm.sliceLo (i+1) Tryz.underlying22 ty_size_81 rfl rfl (by omega) (by omega) (by omega)) (h:=?_)
   iterate 2 refine s1_ ?_
   refine dP (hc:=fun _=>Calm.sliceLo (i) Tryz.underlying22 ty_size_81 rfl rfl (by omega) (by omega) (by omega)) (h:=?_)
   refine draw_only rfl ?_
   refine ARun.copyK (n:=2) (q:=l.length-i) (news:=(l.drop i).flatMap extF) (lit_lt rfl) ty_sl_22 rfl own_ (by simp only [hfl];omega) rfl (by omega) (Mem.own_knows (r:=⟨extT,l.flatMap extF,c*2⟩) own_ _ _ (fun j v hj=>by simp only;rw [hsplit,List.getElem?_append_right (by omega),← hj];congr 1;omega)) hD (ext_one _) (.inr (by simp only [hD];omega)) ?_
   refine arun_nil ⟨fun h=>absurd h (by decide),?_⟩
   iterate 2 refine s1_ ?_
   refine su_ [(0,_),(1,_),(2,_),(6,_),(7,_),(16,_),(8,_),(22,_),(31,_),(68,_)] ?_
   iterate 4 refine s1_ ?_
   refine rC (Calm.sliceLo (i) Tryz.underlying22 ty_size_81 rfl rfl (by omega) (by omega) (by omega)) ?_
   refine s1_ ?_
   refine ARun.copyK (n:=2) (q:=1) (news:=extF x) (lit_lt rfl) ty_sl_22 rfl own_ (by simp only [hsl];omega) rfl (by omega) (Mem.own_knows (r:=⟨extT,extF x,2⟩) own_ 0 _ (fun j v hj=>by rw [Nat.zero_add];exact hj)) rfl hx1 (.inr (by simp only [ext_len];omega)) ?_
   iterate 2 refine s1_ ?_
   refine su_ [(0,_),(1,_),(2,_),(6,_),(7,_),(16,_),(8,_),(22,_),(31,_),(68,_)] ?_
   iterate 6 refine s1_ ?_
   refine su_ [(0,_),(1,_),(2,_),(6,_),(7,_),(16,_),(8,_),(22,_),(31,_),(68,_)] ?_
   iterate 2 refine s1_ ?_
   refine ⟨_,B.set b ⟨extT,spl (spl (l.flatMap extF) (0+(i+1)*2) ((l.drop i).flatMap extF)) (0+i*2) (extF x),c*2⟩,⟨_,_,rfl,rfl,rfl⟩,less_,?_⟩
   exact ⟨some (b,c),okO_own hfb hroom,rfl,by rw [hsplit,room_cells hA rfl (by rw [hD];omega)]⟩
  ·skip
   refine ACall.enter (rs:=[.tmp 6]) 95 [(0,.slice (some ⟨b,0,none⟩) l.length c),(1,.int .i64 (i:Int)),(2,.slice (some ⟨t,0,none⟩) 1 1)] Tryz.func138 rfl rfl (Nat.le_of_ble_eq_true rfl) rfl ⟨rfl,rfl,rfl,trivial⟩ ?_
   iterate 12 refine s1_ ?_
   refine su_ [(0,_),(1,_),(2,_),(6,_)] ?_
   iterate 7 refine s1_ ?_
   refine su_ [(0,_),(1,_),(2,_),(6,_),(7,_)] ?_
   iterate 7 refine s1_ ?_
   refine su_ [(0,_),(1,_),(2,_),(6,_),(7,_),(16,_)] ?_
   refine cF_ ?_
   iterate 9 refine s1_ ?_
   refine su_ [(0,_),(1,_),(2,_),(6,_),(7,_),(16,_),(8,_)] ?_
   iterate 8 refine s1_ ?_
   refine su_ [(0,_),(1,_),(2,_),(6,_),(7,_),(16,_),(8,_),(22,_)] ?_
   refine cF_ ?_
   iterate 9 refine s1_ ?_
   refine rC (Calm.cap Tryz.underlying22 rfl) ?_
   iterate 3 refine s1_ ?_
   refine su_ [(0,_),(1,_),(2,_),(6,_),(7,_),(16,_),(8,_),(22,_),(31,_)] ?_
   refine cT_ ?_
   iterate 4 refine s1_ ?_
   refine rC (Calm.sliceHi (i) Tryz.underlying22 ty_size_81 rfl rfl (by omega) (by omega)) ?_
   iterate 5 refine s1_ ?_
   refine ARun.appendMake (k:=i) (m:=l.length+1-i) (xs:=(l.take i).flatMap extF) (c:=c) (lit_lt rfl) ty_sl_22 rfl Tryz.underlying3 rfl hA ((rds_prefix (r:=⟨extT,l.flatMap extF,c*2⟩) own_ (by rw [hsplit];exact List.prefix_append _ _)).knows) (congrArg some (congrArg (Value.int .i64) (by omega))) (by omega) (by omega) (by omega) ?_
   intro b' c' zs hfb' hc' hzs
   obtain ⟨hfb1,htb'⟩:=fresh_set hfb'
   obtain ⟨hfb2,hbb'⟩:=fresh_set hfb1
   have hbb'':=Ne.symm hbb'
   have htb'':=Ne.symm htb'
   have hz1:(((l.take i).flatMap extF) ++ zs).length=l.length*2+2:=by simp only [List.length_append,hA,hzs];omega
   iterate 3 refine s1_ ?_
   refine su_ [(0,_),(1,_),(2,_),(6,_),(7,_),(16,_),(8,_),(22,_),(31,_),(9,_)] ?_
   iterate 4 refine s1_ ?_
   refine rC (Calm.sliceLo (i) Tryz.underlying22 ty_size_81 rfl rfl (by omega) (by omega) (by omega)) ?_
   refine s1_ ?_
   refine ARun.copyK (n:=2) (q:=1) (news:=extF x) (lit_lt rfl) ty_sl_22 rfl (Mem.own_set_same _ _ _) (by simp only [hz1];omega) rfl (by omega) (Mem.own_knows (r:=⟨extT,extF x,2⟩) own_ 0 _ (fun j v hj=>by rw [Nat.zero_add];exact hj)) rfl hx1 (.inl (by simp only [hz1,ext_len];omega)) ?_
   have hz2:(spl ((l.take i).flatMap extF ++ zs) (0+i*2) (extF x)).length=l.length*2+2:=by rw [spl_length _ _ _ (by simp only [hz1,ext_len];omega),hz1]
   iterate 2 refine s1_ ?_
   refine su_ [(0,_),(1,_),(2,_),(6,_),(7,_),(16,_),(8,_),(22,_),(31,_),(9,_)] ?_
   refine s1_ ?_
   refine AWP.draw [(0,true),(1,true),(2,true),(3,true),(4,true),(5,true),(6,true),(7,true),(8,false)] [8] mixed (by kernel_rfl) ?_
   iterate 4 refine s1_ ?_
   refine dP (hc:=fun _=>Calm.sliceLo (i+1) Tryz.underlying22 ty_size_81 rfl rfl (by omega) (by omega) (by omega)) (h:=?_)
   iterate 2 refine s1_ ?_
   refine dP (hc:=fun _=>Calm.sliceLo (i) Tryz.underlying22 ty_size_81 rfl rfl (by omega) (by omega) (by omega)) (h:=?_)
   refine draw_only rfl ?_
   refine ARun.copyK (n:=2) (q:=l.length-i) (news:=(l.drop i).flatMap extF) (lit_lt rfl) ty_sl_22 rfl (Mem.own_set_same _ _ _) (by simp only [hz2];omega) rfl (by omega) (Mem.own_knows (r:=⟨extT,l.flatMap extF,c*2⟩) own_ _ _ (fun j v hj=>by simp only;rw [hsplit,List.getElem?_append_right (by omega),← hj];congr 1;omega)) hD (ext_one _) (.inl (by simp only [hz2,hD];omega)) ?_
   refine arun_nil ⟨fun h=>absurd h (by decide),?_⟩
   iterate 2 refine s1_ ?_
   refine su_ [(0,_),(1,_),(2,_),(6,_),(7,_),(16,_),(8,_),(22,_),(31,_),(9,_)] ?_
   iterate 6 refine s1_ ?_
   refine su_ [(0,_),(1,_),(2,_),(6,_),(7,_),(16,_),(8,_),(22,_),(31,_),(9,_)] ?_
   iterate 2 refine s1_ ?_
   refine ⟨_,B.set b' ⟨extT,spl (spl ((l.take i).flatMap extF ++ zs) (0+i*2) (extF x)) (0+(i+1)*2) ((l.drop i).flatMap extF),c'*2⟩,⟨_,_,rfl,rfl,rfl⟩,less_,?_⟩
   exact ⟨some (b',c'),okO_own hfb2 (by omega),congrArg (fun n=>Value.slice (some ⟨b',0,none⟩) n c') (by omega),by rw [grow_cells hA rfl (by rw [hD,hzs];omega)]⟩
end Go.Proofs.YtceikpipmcadmaaGreatDoor
namespace Go.Proofs.YtceikpipmcadmaaGreatDoor
open Go.RowKit
open Mv Disk
set_option maxRecDepth 4000
theorem outN_set {n : Nat} {S : Mem} {o : Option (Nat × Nat)} {e : TypeId} {cs : List Value} {b : Nat} {r : Blk} (h : ∀ q c, o = some (q, c) → q ≠ b) : outN n (S.set b r) o e cs = (outN n S o e cs).set b r := by
 cases o with
 | none=>rfl
 | some q=>exact Mem.set_comm _ _ _ (Ne.symm (h _ _ rfl))
theorem outN_comm {n m : Nat} {S : Mem} {o o' : Option (Nat × Nat)} {e e' : TypeId} {cs cs' : List Value} (h : ∀ q c q' c', o = some (q, c) → o' = some (q', c') → q ≠ q') : outN n (outN m S o' e' cs') o e cs = outN m (outN n S o e cs) o' e' cs' := by
 cases o with
 | none=>rfl
 | some q =>
  cases o' with
  | none=>rfl
  | some q'=>exact Mem.set_comm _ _ _ (Ne.symm (h _ _ _ _ rfl rfl))
theorem own_outN' {n : Nat} {S : Mem} {o : Option (Nat × Nat)} {e : TypeId} {cs : List Value} {b : Nat} {r : Blk} (hb : S.own b = some r) (h : ∀ q c, o = some (q, c) → q ≠ b) : (outN n S o e cs).own b = some r := by
 cases o with
 | none=>exact hb
 | some q=>exact (Mem.own_set_other _ _ (Ne.symm (h _ _ rfl))).trans hb
theorem fresh_outN_mk {n : Nat} {S : Mem} {o : Option (Nat × Nat)} {e : TypeId} {cs : List Value} {b : Nat} (hb : Fresh S b) (h : ∀ q c, o = some (q, c) → q ≠ b) : Fresh (outN n S o e cs) b := by
 cases o with
 | none=>exact hb
 | some q=>exact fresh_more hb (Ne.symm (h _ _ rfl))
/-- The block of a disk at work. -/
def devB (d : D) (oE oW : Option (Nat × Nat)) : Blk := ⟨102, [.int .i64 d.size, outV oE d.ext.length, outV oW d.waits.length, .int .i64 d.fuse, .bool d.down], 5⟩
theorem devM_eq (S : Mem) (p : Nat) (d : D) (oE oW : Option (Nat × Nat)) : devM S p d oE oW = (outN 3 (outN 2 S oE extT (d.ext.flatMap extF)) oW wrT (d.waits.flatMap wrF)).set p (devB d oE oW) := rfl
/-- What is apart. -/
structure Apart (S : Mem) (p : Nat) (oE oW : Option (Nat × Nat)) : Prop where
  e : ∀ b c, oE = some (b, c) → Fresh S b ∧ b ≠ p
  w : ∀ b c, oW = some (b, c) → Fresh S b ∧ b ≠ p
  ew : ∀ b c b' c', oE = some (b, c) → oW = some (b', c') → b ≠ b'
  p : Fresh S p
structure Fits (d : D) (oE oW : Option (Nat × Nat)) : Prop where
  e0 : oE = none → d.ext.length = 0
  w0 : oW = none → d.waits.length = 0
  e : ∀ b c, oE = some (b, c) → d.ext.length ≤ c
  w : ∀ b c, oW = some (b, c) → d.waits.length ≤ c
theorem OkV.apart {S : Mem} {p : Nat} {d : D} {oE oW : Option (Nat × Nat)} (h : OkV S p d oE oW) : Apart S p oE oW := by
 obtain ⟨h1,h2⟩:=fresh_outN h.fr
 obtain ⟨h3,h4⟩:=fresh_outN h1
 exact ⟨fun b c e=>⟨(h.dk.e.own b c e).1,Ne.symm (h4 b c e)⟩,fun b c e=>⟨(fresh_outN (h.dk.w.own b c e).1).1,Ne.symm (h2 b c e)⟩,fun b c b' c' e e'=>Ne.symm ((fresh_outN (h.dk.w.own b' c' e').1).2 b c e),h3⟩
theorem OkV.fits {S : Mem} {p : Nat} {d : D} {oE oW : Option (Nat × Nat)} (h : OkV S p d oE oW) : Fits d oE oW := ⟨h.dk.e.nil, h.dk.w.nil, fun b c e => (h.dk.e.own b c e).2, fun b c e => (h.dk.w.own b c e).2⟩
theorem okV_mk {S : Mem} {p : Nat} {d : D} {oE oW : Option (Nat × Nat)} (h : Apart S p oE oW) (f : Fits d oE oW) : OkV S p d oE oW :=
 ⟨⟨⟨f.e0,fun b c e=>⟨(h.e b c e).1,f.e b c e⟩⟩,⟨f.w0,fun b c e=>⟨fresh_outN_mk (h.w b c e).1 (fun q c' e'=>h.ew q c' b c e' e),f.w b c e⟩⟩⟩,fresh_outN_mk (fresh_outN_mk h.p (fun q c e=>(h.e q c e).2)) (fun q c e=>(h.w q c e).2)⟩
/-- All but the extents. -/
def baseE (S : Mem) (p : Nat) (d : D) (oW : Option (Nat × Nat)) (r : Blk) : Mem := (outN 3 S oW wrT (d.waits.flatMap wrF)).set p r
theorem devM_E {S : Mem} {p : Nat} {d : D} {oE oW : Option (Nat × Nat)} (h : Apart S p oE oW) (r : Blk) : outN 2 (baseE S p d oW r) oE extT (d.ext.flatMap extF) = (outN 3 (outN 2 S oE extT (d.ext.flatMap extF)) oW wrT (d.waits.flatMap wrF)).set p r := by
 unfold baseE
 rw [outN_set (fun q c e=>(h.e q c e).2),outN_comm (fun q c q' c' e e'=>h.ew q c q' c' e e')]
theorem okO_baseE {S : Mem} {p : Nat} {d : D} {oE oW : Option (Nat × Nat)} (h : Apart S p oE oW) (f : Fits d oE oW) (r : Blk) : OkO (baseE S p d oW r) oE d.ext.length :=
 ⟨f.e0,fun b c e=>⟨fresh_more (fresh_outN_mk (h.e b c e).1 (fun q c' e'=>Ne.symm (h.ew b c q c' e e'))) (h.e b c e).2,f.e b c e⟩⟩
theorem apart_E {S : Mem} {p : Nat} {d : D} {oE oE' oW : Option (Nat × Nat)} {r : Blk} {k : Nat} (h : Apart S p oE oW) (h' : OkO (baseE S p d oW r) oE' k) : Apart S p oE' oW :=
 ⟨fun b c e=>by
  obtain ⟨h1,h2⟩:=fresh_set (h'.own b c e).1
  exact ⟨(fresh_outN h1).1,h2⟩,h.w,fun b c b' c' e e'=>by
  obtain ⟨h1,h2⟩:=fresh_set (h'.own b c e).1
  exact (fresh_outN h1).2 b' c' e',h.p⟩
theorem fits_E {S : Mem} {p : Nat} {d d' : D} {oE oE' oW : Option (Nat × Nat)} {r : Blk} {k : Nat} (f : Fits d oE oW) (h' : OkO (baseE S p d oW r) oE' k) (hk : d'.ext.length = k) (hw : d'.waits = d.waits) : Fits d' oE' oW :=
 ⟨fun e=>by rw [hk];exact h'.nil e,fun e=>by rw [hw];exact f.w0 e,fun b c e=>by rw [hk];exact (h'.own b c e).2,fun b c e=>by rw [hw];exact f.w b c e⟩
/-- The extents have turned: the block is written anew. -/
theorem devM_E' {S : Mem} {p : Nat} {d d' : D} {oE oE' oW : Option (Nat × Nat)} {r : Blk} {k : Nat} (h : Apart S p oE oW) (h' : OkO (baseE S p d oW r) oE' k) (hw : d'.waits = d.waits) : (outN 2 (baseE S p d oW r) oE' extT (d'.ext.flatMap extF)).set p (devB d' oE' oW) = devM S p d' oE' oW := by
 have ha:=apart_E h h'
 rw [devM_eq]
 unfold baseE
 rw [outN_set (fun q c e=>(ha.e q c e).2),Mem.set_set,outN_comm (fun q c q' c' e e'=>ha.ew q c q' c' e e'),hw]
/-- All but what waits. -/
def baseW (S : Mem) (p : Nat) (d : D) (oE : Option (Nat × Nat)) (r : Blk) : Mem := (outN 2 S oE extT (d.ext.flatMap extF)).set p r
theorem devM_W {S : Mem} {p : Nat} {d : D} {oE oW : Option (Nat × Nat)} (h : Apart S p oE oW) (r : Blk) : outN 3 (baseW S p d oE r) oW wrT (d.waits.flatMap wrF) = (outN 3 (outN 2 S oE extT (d.ext.flatMap extF)) oW wrT (d.waits.flatMap wrF)).set p r := by
 unfold baseW
 rw [outN_set (fun q c e=>(h.w q c e).2)]
theorem okO_baseW {S : Mem} {p : Nat} {d : D} {oE oW : Option (Nat × Nat)} (h : Apart S p oE oW) (f : Fits d oE oW) (r : Blk) : OkO (baseW S p d oE r) oW d.waits.length :=
 ⟨f.w0,fun b c e=>⟨fresh_more (fresh_outN_mk (h.w b c e).1 (fun q c' e'=>h.ew q c' b c e' e)) (h.w b c e).2,f.w b c e⟩⟩
theorem apart_W {S : Mem} {p : Nat} {d : D} {oE oW oW' : Option (Nat × Nat)} {r : Blk} {k : Nat} (h : Apart S p oE oW) (h' : OkO (baseW S p d oE r) oW' k) : Apart S p oE oW' :=
 ⟨h.e,fun b c e=>by
  obtain ⟨h1,h2⟩:=fresh_set (h'.own b c e).1
  exact ⟨(fresh_outN h1).1,h2⟩,fun b c b' c' e e'=>by
  obtain ⟨h1,h2⟩:=fresh_set (h'.own b' c' e').1
  exact Ne.symm ((fresh_outN h1).2 b c e),h.p⟩
theorem fits_W {S : Mem} {p : Nat} {d d' : D} {oE oW oW' : Option (Nat × Nat)} {r : Blk} {k : Nat} (f : Fits d oE oW) (h' : OkO (baseW S p d oE r) oW' k) (hk : d'.waits.length = k) (he : d'.ext = d.ext) : Fits d' oE oW' :=
 ⟨fun e=>by rw [he];exact f.e0 e,fun e=>by rw [hk];exact h'.nil e,fun b c e=>by rw [he];exact f.e b c e,fun b c e=>by rw [hk];exact (h'.own b c e).2⟩
theorem devM_W' {S : Mem} {p : Nat} {d d' : D} {oE oW oW' : Option (Nat × Nat)} {r : Blk} {k : Nat} (h : Apart S p oE oW) (h' : OkO (baseW S p d oE r) oW' k) (he : d'.ext = d.ext) : (outN 3 (baseW S p d oE r) oW' wrT (d'.waits.flatMap wrF)).set p (devB d' oE oW') = devM S p d' oE oW' := by
 have ha:=apart_W h h'
 rw [devM_eq]
 unfold baseW
 rw [outN_set (fun q c e=>(ha.w q c e).2),Mem.set_set,he]
theorem outV_cells (o : Option (Nat × Nat)) (n : Nat) : (outV o n).cells = #[outV o n] := by cases o <;> rfl
theorem outV_one (o : Option (Nat × Nat)) (n : Nat) : (outV o n).oneCell' = true := by cases o <;> rfl
end Go.Proofs.YtceikpipmcadmaaGreatDoor
namespace Go.Proofs
open Go.Shelf
def Tryz.lays105_ren : Go.Shelf.Ren := ⟨fun | 105 => 118 | 212 => 151 | 99 => 121 | 165 => 152 | 166 => 40 | 170 => 153 | 169 => 42 | 263 => 173 | 264 => 174 | 206 => 155 | 240 => 88 | 241 => 175 | 276 => 135 | 277 => 182 | n => n, fun | 9 => 9 | 3 => 3 | 4 => 4 | 20 => 20 | 0 => 0 | 46 => 147 | 109 => 186 | 5 => 5 | 72 => 68 | 76 => 73 | 51 => 53 | 146 => 213 | 53 => 27 | 148 => 215 | 70 => 66 | 37 => 61 | 75 => 72 | 127 => 129 | 164 => 161 | 80 => 76 | n => n, fun | n => n⟩
theorem Tryz.lays105 : Go.Proofs.Lays.n105 Tryz.prog Tryz.lays105_ren := {
 mixed:=by kernel_rfl
 f99:=Tryz.func121.trans (congrArg some (by kernel_rfl))
 f105:=Tryz.func118.trans (congrArg some (by kernel_rfl))
 f165:=Tryz.func152.trans (congrArg some (by kernel_rfl))
 f166:=Tryz.func40.trans (congrArg some (by kernel_rfl))
 f169:=Tryz.func42.trans (congrArg some (by kernel_rfl))
 f170:=Tryz.func153.trans (congrArg some (by kernel_rfl))
 f206:=Tryz.func155.trans (congrArg some (by kernel_rfl))
 f212:=Tryz.func151.trans (congrArg some (by kernel_rfl))
 f240:=Tryz.func88.trans (congrArg some (by kernel_rfl))
 f241:=Tryz.func175.trans (congrArg some (by kernel_rfl))
 f263:=Tryz.func173.trans (congrArg some (by kernel_rfl))
 f264:=Tryz.func174.trans (congrArg some (by kernel_rfl))
 f276:=Tryz.func135.trans (congrArg some (by kernel_rfl))
 f277:=Tryz.func182.trans (congrArg some (by kernel_rfl))
 t0:=Tryz.underlying0
 a0:=Tryz.isAgg0
 z0:=Tryz.sizeOf0
 v0:=Tryz.zeroValue0
 t3:=Tryz.underlying3
 a3:=Tryz.isAgg3
 z3:=Tryz.sizeOf3
 v3:=Tryz.zeroValue3
 t4:=Tryz.underlying4
 a4:=Tryz.isAgg4
 z4:=Tryz.sizeOf4
 v4:=Tryz.zeroValue4
 t5:=Tryz.underlying5
 a5:=Tryz.isAgg5
 z5:=Tryz.sizeOf5
 v5:=Tryz.zeroValue5
 t9:=Tryz.underlying9
 a9:=Tryz.isAgg9
 z9:=Tryz.sizeOf9
 v9:=Tryz.zeroValue9
 t20:=Tryz.underlying20
 a20:=Tryz.isAgg20
 z20:=Tryz.sizeOf20
 v20:=Tryz.zeroValue20
 t37:=Tryz.underlying61
 a37:=Tryz.isAgg61
 z37:=Tryz.sizeOf61
 v37:=Tryz.zeroValue61
 t46:=Tryz.underlying147
 a46:=Tryz.isAgg147
 z46:=Tryz.sizeOf147
 v46:=Tryz.zeroValue147
 t51:=Tryz.underlying53
 a51:=Tryz.isAgg53
 z51:=Tryz.sizeOf53
 v51:=Tryz.zeroValue53
 t53:=Tryz.underlying27
 a53:=Tryz.isAgg27
 z53:=Tryz.sizeOf27
 v53:=Tryz.zeroValue27
 t70:=Tryz.underlying66
 a70:=Tryz.isAgg66
 z70:=Tryz.sizeOf66
 v70:=Tryz.zeroValue66
 t72:=Tryz.underlying68
 a72:=Tryz.isAgg68
 z72:=Tryz.sizeOf68
 v72:=Tryz.zeroValue68
 t75:=Tryz.underlying72
 a75:=Tryz.isAgg72
 z75:=Tryz.sizeOf72
 v75:=Tryz.zeroValue72
 t76:=Tryz.underlying73
 a76:=Tryz.isAgg73
 z76:=Tryz.sizeOf73
 v76:=Tryz.zeroValue73
 t109:=Tryz.underlying186
 a109:=Tryz.isAgg186
 z109:=Tryz.sizeOf186
 v109:=Tryz.zeroValue186
 t127:=Tryz.underlying129
 a127:=Tryz.isAgg129
 z127:=Tryz.sizeOf129
 v127:=Tryz.zeroValue129
 t146:=Tryz.underlying213
 a146:=Tryz.isAgg213
 z146:=Tryz.sizeOf213
 v146:=Tryz.zeroValue213
 t148:=Tryz.underlying215
 a148:=Tryz.isAgg215
 z148:=Tryz.sizeOf215
 v148:=Tryz.zeroValue215
 t164:=Tryz.underlying161
 a164:=Tryz.isAgg161
 z164:=Tryz.sizeOf161
 v164:=Tryz.zeroValue161 }
theorem Tryz.Builder_Extra_105 : Builder.Extra Tryz.prog Tryz.lays105_ren := {
 sizeBuilder:=by kernel_rfl
 liesBuilder:=by kernel_rfl
 t5:=Tryz.underlying5
 a5:=Tryz.isAgg5
 z5:=Tryz.sizeOf5
 v5:=Tryz.zeroValue5
 infoByte:=by kernel_rfl
 cellsByte:=by kernel_rfl
 sizeByte:=by kernel_rfl
 neB5:=by decide }
open Go.RowKit Go.Lib in
/-- THE MAIN CASE: at least two copies of a string that is not empty. (LAID: no walk: one application.) -/
theorem Tryz.strings_Repeat_main (s : ByteArray) (c : Nat) (w : World) (hc2 : 2 ≤ c) (hc : c ≤ 9223372036854775807) (hlen : s.size * c ≤ 140737488355328) (h0 : 0 < s.size) :
  Calls Tryz.prog 118 #[.string s,.int .i64 c] w fun e w'=>e = .returned (.string ⟨(Lib.repeatL s.data.toList c).toArray⟩)∧Below w.heap.size w w':=Any.strings_Repeat_main Tryz.lays105 Tryz.Builder_Extra_105 s c w hc2 hc hlen h0
open Go.RowKit Go.Lib in
/-- **strings.Repeat: count ≥ 0, the result within one allocation: count copies of s.** (LAID: no walk: one application.) -/
theorem Tryz.strings_Repeat (s : ByteArray) (c : Nat) (w : World) (hc : c ≤ 9223372036854775807) (hlen : s.size * c ≤ 140737488355328) :
  Calls Tryz.prog 118 #[.string s,.int .i64 c] w fun e w'=>e = .returned (.string ⟨(Lib.repeatL s.data.toList c).toArray⟩)∧Below w.heap.size w w':=Any.strings_Repeat Tryz.lays105 Tryz.Builder_Extra_105 s c w hc hlen
end Go.Proofs
namespace Go.Proofs.YtceikpipmcadmaaGreatDoor
open Go.RowKit
open Mv Disk
set_option maxRecDepth 4000
def zeros (n : Nat) : ByteArray := bs (List.replicate (64 * n) 0)
theorem zeros_size (n : Nat) : (zeros n).size = 64 * n := by unfold zeros; rw [size_bs]; simp
def newD (d : D) (s : ByteArray) (n : Int) : D × Int := if ¬ nm s ∨ n < 1 then (d, 1) else if has d.ext s = true then (d, 4) else if d.size - used d.ext < n then (d, 8) else ({ d with ext := insAt d.ext (pos d.ext s) (s, zeros n.toNat) }, 0)
/-- What a disk at work answers, and becomes. -/
def DevR (S : Mem) (p : Nat) (q : D × Int) (r : Value) (S' : Mem) : Prop := ∃ oE oW, OkV S p q.1 oE oW ∧ r = .int .i64 q.2 ∧ S' = devM S p q.1 oE oW
theorem repeat_zero (c : Nat) : Lib.repeatL [0] c = List.replicate c (0 : UInt8) := by
 induction c with
 | zero=>rfl
 | succ c ih=>rw [List.replicate_succ,← ih];rfl
theorem shelf_Repeat (c : Nat) (S : Mem) (h1 : 2 ≤ c) (h2 : c ≤ 140737488355328) : ACall Tryz.prog 118 #[.string ⟨#[0]⟩, .int .i64 (c : Int)] S fun r S' => r = .string (bs (List.replicate c 0)) ∧ S' = S :=
 ACall.of_calls fun w=>by
  have:=Tryz.strings_Repeat_main ⟨#[0]⟩ c w h1 (by omega) (by show 1*c≤_;omega) (by decide)
  rw [show (⟨#[0]⟩ : ByteArray).data.toList = [0] from rfl,repeat_zero] at this
  exact this
set_option maxHeartbeats 2000000 in
theorem dev_New (p : Nat) (d : D) (s : ByteArray) (n : Int) (S : Mem) (oE oW : Option (Nat × Nat)) (hok : OkV S p d oE oW) (hR : Right d) :
  ACall Tryz.prog 89 #[.pointer (some ⟨p,0,none⟩),.string s,.int .i64 n] (devM S p d oE oW) (DevR S p (newD d s n)):=by
 have hrl:=right_len hR
 have hrd:=hok.rd (Nat.le_trans hrl.1 (by decide)) (Nat.le_trans hR.wl (by decide))
 have hp:(devM S p d oE oW).own p=some (devB d oE oW):=Mem.own_set_same _ _ _
 have hE:Sl 2 extF (devM S p d oE oW) (outV oE d.ext.length) d.ext:=((sl_outN ext_len (e:=extT) hok.dk.e rfl (Nat.le_trans hrl.1 (by decide))).less (outN_over hok.dk.w)).less (Mem.less_set _ _ _ hok.fr.1)
 have hap:=hok.apart
 have hft:=hok.fits
 have hs0:=hR.s0;have hs1:=hR.s1
 have hME:=devM_E hap (devB d oE oW) (d:=d)
 have hoE:=okO_baseE hap hft (devB d oE oW)
 rw [← devM_eq] at hME
 generalize hM:devM S p d oE oW=M at *
 unfold devB at hp
 unfold newD
 by_cases q1:nm s
 ·by_cases q2:n<1
  ·rw [if_pos (.inr q2)]
   refine ACall.enter (rs:=[.tmp 6]) 52 [(0,.pointer (some ⟨p,0,none⟩)),(1,.string s),(2,.int .i64 n)] Tryz.func89 rfl rfl (Nat.le_of_ble_eq_true rfl) rfl ⟨rfl,rfl,rfl,trivial⟩ ?_
   iterate 13 refine s1_ ?_
   refine ca_ rfl (disk_find _ d.ext s _ hE hR.ex.asc (Nat.le_trans hrl.1 (by decide))) ?_
   rintro _ S1 ⟨rfl,h1⟩
   rw [h1];clear h1 S1
   iterate 7 refine s1_ ?_
   refine su_ [(0,_),(1,_),(2,_),(6,_),(7,_),(8,_)] ?_
   iterate 5 refine s1_ ?_
   refine ARun.build1s (lit_lt rfl) ty_sl_149 rfl rfl ?_
   intro b21 f21
   have g21:=f21
   repeat ((with_reducible replace g21:=fresh_set g21);obtain ⟨g21,_⟩:=g21)
   have:=g21.ne hp;have:=g21.ne' hp
   refine ca_ rfl (disk_named _ [s] _ (sl_str1 own_)) ?_
   rintro _ S1 ⟨⟨t,rfl,ht⟩,h1⟩
   rw [h1];clear h1 S1
   obtain rfl:t=true:=ht.2 (one_all.2 q1)
   iterate 8 refine s1_ ?_
   refine su_ [(0,_),(1,_),(2,_),(6,_),(7,_),(8,_),(19,_)] ?_
   refine cT_ ?_
   iterate 8 refine s1_ ?_
   refine ⟨_,M,⟨_,_,rfl,rfl,rfl⟩,less_,?_⟩
   exact ⟨oE,oW,hok,rfl,hM.symm⟩
  ·rw [if_neg (fun h=>h.elim (fun h=>h q1) q2)]
   by_cases q3:has d.ext s=true
   ·rw [if_pos q3]
    refine ACall.enter (rs:=[.tmp 6]) 52 [(0,.pointer (some ⟨p,0,none⟩)),(1,.string s),(2,.int .i64 n)] Tryz.func89 rfl rfl (Nat.le_of_ble_eq_true rfl) rfl ⟨rfl,rfl,rfl,trivial⟩ ?_
    iterate 13 refine s1_ ?_
    refine ca_ rfl (disk_find _ d.ext s _ hE hR.ex.asc (Nat.le_trans hrl.1 (by decide))) ?_
    rintro _ S1 ⟨rfl,h1⟩
    rw [h1,q3];clear h1 S1
    iterate 7 refine s1_ ?_
    refine su_ [(0,_),(1,_),(2,_),(6,_),(7,_),(8,_)] ?_
    iterate 5 refine s1_ ?_
    refine ARun.build1s (lit_lt rfl) ty_sl_149 rfl rfl ?_
    intro b21 f21
    have g21:=f21
    repeat ((with_reducible replace g21:=fresh_set g21);obtain ⟨g21,_⟩:=g21)
    have:=g21.ne hp;have:=g21.ne' hp
    refine ca_ rfl (disk_named _ [s] _ (sl_str1 own_)) ?_
    rintro _ S1 ⟨⟨t,rfl,ht⟩,h1⟩
    rw [h1];clear h1 S1
    obtain rfl:t=true:=ht.2 (one_all.2 q1)
    iterate 8 refine s1_ ?_
    refine su_ [(0,_),(1,_),(2,_),(6,_),(7,_),(8,_),(19,_)] ?_
    refine cF_ ?_
    iterate 6 refine s1_ ?_
    refine su_ [(0,_),(1,_),(2,_),(6,_),(7,_),(8,_),(19,_),(28,_)] ?_
    refine cT_ ?_
    iterate 8 refine s1_ ?_
    refine ⟨_,M,⟨_,_,rfl,rfl,rfl⟩,less_,?_⟩
    exact ⟨oE,oW,hok,rfl,hM.symm⟩
   ·rw [if_neg q3]
    have q3':=Bool.eq_false_iff.2 q3
    by_cases q4:d.size-used d.ext<n
    ·rw [if_pos q4]
     refine ACall.enter (rs:=[.tmp 6]) 52 [(0,.pointer (some ⟨p,0,none⟩)),(1,.string s),(2,.int .i64 n)] Tryz.func89 rfl rfl (Nat.le_of_ble_eq_true rfl) rfl ⟨rfl,rfl,rfl,trivial⟩ ?_
     iterate 13 refine s1_ ?_
     refine ca_ rfl (disk_find _ d.ext s _ hE hR.ex.asc (Nat.le_trans hrl.1 (by decide))) ?_
     rintro _ S1 ⟨rfl,h1⟩
     rw [h1,q3'];clear h1 S1
     iterate 7 refine s1_ ?_
     refine su_ [(0,_),(1,_),(2,_),(6,_),(7,_),(8,_)] ?_
     iterate 5 refine s1_ ?_
     refine ARun.build1s (lit_lt rfl) ty_sl_149 rfl rfl ?_
     intro b21 f21
     have g21:=f21
     repeat ((with_reducible replace g21:=fresh_set g21);obtain ⟨g21,_⟩:=g21)
     have:=g21.ne hp;have:=g21.ne' hp
     refine ca_ rfl (disk_named _ [s] _ (sl_str1 own_)) ?_
     rintro _ S1 ⟨⟨t,rfl,ht⟩,h1⟩
     rw [h1];clear h1 S1
     obtain rfl:t=true:=ht.2 (one_all.2 q1)
     iterate 8 refine s1_ ?_
     refine su_ [(0,_),(1,_),(2,_),(6,_),(7,_),(8,_),(19,_)] ?_
     refine cF_ ?_
     iterate 6 refine s1_ ?_
     refine su_ [(0,_),(1,_),(2,_),(6,_),(7,_),(8,_),(19,_),(28,_)] ?_
     refine cF_ ?_
     iterate 4 refine s1_ ?_
     refine ca_ rfl (dev_Room p d _ (hrd.less less_) hR) ?_
     rintro _ S1 ⟨rfl,h1⟩
     rw [h1];clear h1 S1
     iterate 4 refine s1_ ?_
     refine su_ [(0,_),(1,_),(2,_),(6,_),(7,_),(8,_),(19,_),(28,_),(30,_)] ?_
     refine cT_ ?_
     iterate 8 refine s1_ ?_
     refine ⟨_,M,⟨_,_,rfl,rfl,rfl⟩,less_,?_⟩
     exact ⟨oE,oW,hok,rfl,hM.symm⟩
    ·rw [if_neg q4]
     obtain ⟨m,rfl⟩ : ∃ m:Nat,n=m:=⟨n.toNat,by omega⟩
     rw [Int.toNat_natCast]
     refine ACall.enter (rs:=[.tmp 6]) 52 [(0,.pointer (some ⟨p,0,none⟩)),(1,.string s),(2,.int .i64 (m:Int))] Tryz.func89 rfl rfl (Nat.le_of_ble_eq_true rfl) rfl ⟨rfl,rfl,rfl,trivial⟩ ?_
     iterate 13 refine s1_ ?_
     refine ca_ rfl (disk_find _ d.ext s _ hE hR.ex.asc (Nat.le_trans hrl.1 (by decide))) ?_
     rintro _ S1 ⟨rfl,h1⟩
     rw [h1,q3'];clear h1 S1
     iterate 7 refine s1_ ?_
     refine su_ [(0,_),(1,_),(2,_),(6,_),(7,_),(8,_)] ?_
     iterate 5 refine s1_ ?_
     refine ARun.build1s (lit_lt rfl) ty_sl_149 rfl rfl ?_
     intro b21 f21
     have g21:=f21
     repeat ((with_reducible replace g21:=fresh_set g21);obtain ⟨g21,_⟩:=g21)
     have:=g21.ne hp;have:=g21.ne' hp
     refine ca_ rfl (disk_named _ [s] _ (sl_str1 own_)) ?_
     rintro _ S1 ⟨⟨t,rfl,ht⟩,h1⟩
     rw [h1];clear h1 S1
     obtain rfl:t=true:=ht.2 (one_all.2 q1)
     iterate 8 refine s1_ ?_
     refine su_ [(0,_),(1,_),(2,_),(6,_),(7,_),(8,_),(19,_)] ?_
     refine cF_ ?_
     iterate 6 refine s1_ ?_
     refine su_ [(0,_),(1,_),(2,_),(6,_),(7,_),(8,_),(19,_),(28,_)] ?_
     refine cF_ ?_
     iterate 4 refine s1_ ?_
     refine ca_ rfl (dev_Room p d _ (hrd.less less_) hR) ?_
     rintro _ S1 ⟨rfl,h1⟩
     rw [h1];clear h1 S1
     iterate 4 refine s1_ ?_
     refine su_ [(0,_),(1,_),(2,_),(6,_),(7,_),(8,_),(19,_),(28,_),(30,_)] ?_
     refine cF_ ?_
     refine AWP.less M less_ ?_
     iterate 4 refine s1_ ?_
     refine AWP.draw [(0,true),(1,true),(2,true),(3,true),(4,true),(5,true),(6,true),(7,true),(8,true),(9,true),(10,false),(11,true),(12,false),(13,false),(14,true),(15,true),(16,true),(17,false)] [13,17] mixed (by kernel_rfl) ?_
     iterate 9 refine s1_ ?_
     refine dP (hc:=fun _=>Calm.as (v:=.int .i64 ((m:Int)*64)) (v':=.int .i64 ((64*m:Nat):Int)) (congrArg (Value.int .i64) (by omega)) (Calm.bin rfl rfl (bin_mulW (IntWalk.i64_in _ (by omega))))) (h:=?_)
     refine draw_only rfl ?_
     refine ca_ rfl (shelf_Repeat (64*m) _ (by omega) (by omega)) ?_
     rintro _ S1 ⟨rfl,h1⟩
     rw [h1];clear h1 S1
     refine arun_nil ⟨fun _=>less_,?_⟩
     refine s1_ ?_
     refine draw_only rfl ?_
     refine ARun.build1 (lit_lt rfl) ty_sl_22 rfl (by decide) (by decide) rfl rfl ?_
     intro b47 f47
     have g47:=f47
     repeat ((with_reducible replace g47:=fresh_set g47);obtain ⟨g47,_⟩:=g47)
     have:=g47.ne hp;have:=g47.ne' hp
     have hins:=ins_ext (baseE S p d oW (devB d oE oW)) oE d.ext (pos d.ext s) (s,zeros m) b47 hoE (by rw [hME];exact f47) (pos_le _ _) hrl.1
     rw [hME] at hins
     refine arun_nil ⟨fun _=>less_,?_⟩
     refine draw_only rfl ?_
     refine ca_ rfl (hins) ?_
     rintro _ S1 ⟨o',ho',rfl,h1⟩
     rw [h1];clear h1 S1
     have hap':=apart_E hap ho'
     have hp2:(outN 2 (baseE S p d oW (devB d oE oW)) o' extT ((insAt d.ext (pos d.ext s) (s,zeros m)).flatMap extF)).own p=some (devB d oE oW):=own_outN' (Mem.own_set_same _ _ _) (fun q c e=>(hap'.e q c e).2)
     have hE':=devM_E' (d':={ d with ext:=insAt d.ext (pos d.ext s) (s,zeros m) }) hap ho' rfl
     have hln:=ins_len (pos_le d.ext s) (s,zeros m)
     unfold devB at hp2
     refine arun_nil ⟨fun h=>absurd h (by decide),?_⟩
     iterate 3 refine s1_ ?_
     refine draw_only rfl ?_
     refine ARun.store1 rfl rfl ty_size_22 (outV_cells _ _) hp2 (show 1<5 from by decide) (outV_one _ _) ?_
     try simp only [k_ms,k_sz,k_ss,k_za,Nat.reduceAdd]
     refine arun_nil ⟨fun h=>absurd h (by decide),?_⟩
     iterate 2 refine s1_ ?_
     refine su_ [(0,_),(1,_),(2,_),(6,_),(7,_),(8,_),(19,_),(28,_),(30,_)] ?_
     iterate 6 refine s1_ ?_
     refine ⟨_,devM S p _ o' oW,⟨_,_,rfl,rfl,rfl⟩,(by rw [← hE'];unfold devB;rw [hln];exact Mem.Less.refl _),?_⟩
     exact ⟨o',oW,okV_mk hap' (fits_E hft ho' hln rfl),rfl,rfl⟩
 ·rw [if_pos (.inl q1)]
  refine ACall.enter (rs:=[.tmp 6]) 52 [(0,.pointer (some ⟨p,0,none⟩)),(1,.string s),(2,.int .i64 n)] Tryz.func89 rfl rfl (Nat.le_of_ble_eq_true rfl) rfl ⟨rfl,rfl,rfl,trivial⟩ ?_
  iterate 13 refine s1_ ?_
  refine ca_ rfl (disk_find _ d.ext s _ hE hR.ex.asc (Nat.le_trans hrl.1 (by decide))) ?_
  rintro _ S1 ⟨rfl,h1⟩
  rw [h1];clear h1 S1
  iterate 7 refine s1_ ?_
  refine su_ [(0,_),(1,_),(2,_),(6,_),(7,_),(8,_)] ?_
  iterate 5 refine s1_ ?_
  refine ARun.build1s (lit_lt rfl) ty_sl_149 rfl rfl ?_
  intro b21 f21
  have g21:=f21
  repeat ((with_reducible replace g21:=fresh_set g21);obtain ⟨g21,_⟩:=g21)
  have:=g21.ne hp;have:=g21.ne' hp
  refine ca_ rfl (disk_named _ [s] _ (sl_str1 own_)) ?_
  rintro _ S1 ⟨⟨t,rfl,ht⟩,h1⟩
  rw [h1];clear h1 S1
  obtain rfl:t=false:=Bool.eq_false_iff.2 (fun e=>q1 (one_all.1 (ht.1 e)))
  iterate 8 refine s1_ ?_
  refine su_ [(0,_),(1,_),(2,_),(6,_),(7,_),(8,_),(19,_)] ?_
  refine cT_ ?_
  iterate 8 refine s1_ ?_
  refine ⟨_,M,⟨_,_,rfl,rfl,rfl⟩,less_,?_⟩
  exact ⟨oE,oW,hok,rfl,hM.symm⟩
end Go.Proofs.YtceikpipmcadmaaGreatDoor
namespace Go.Proofs.YtceikpipmcadmaaGreatDoor
open Go.RowKit
open Mv Disk
set_option maxRecDepth 4000
theorem disk_done (p : Nat) (d : D) (e : Int) (S : Mem) (oE oW : Option (Nat × Nat)) (hok : OkV S p d oE oW) (he : d.ext.length ≤ 9223372036854775807) (hw : d.waits.length ≤ 9223372036854775807) :
  ACall Tryz.prog 62 #[.pointer (some ⟨p,0,none⟩),.int .i64 e] (devM S p d oE oW) (DkRes (d,e) S):=by
 have hdk:=hok.dk.dk he hw
 have hl:=hok.dk.less
 have hp:(devM S p d oE oW).own p=some (devB d oE oW):=Mem.own_set_same _ _ _
 have hdl:(dkM S d oE oW).Less (devM S p d oE oW):=Mem.less_set _ _ _ hok.fr.1
 unfold dkV at hdk
 unfold devB at hp
 obtain ⟨qe,de,hqe⟩:=outV_eq hok.dk.e
 obtain ⟨qw,dw,hqw⟩:=outV_eq hok.dk.w
 rw [hqe,hqw] at hp hdk
 generalize devM S p d oE oW=M at *
 refine ACall.enter (rs:=[.cell 4 25,.tmp 5]) 11 [(0,.pointer (some ⟨p,0,none⟩)),(1,.int .i64 e)] Tryz.func62 rfl rfl (Nat.le_of_ble_eq_true rfl) rfl ⟨rfl,rfl,trivial⟩ ?_
 iterate 2 refine s1_ ?_
 refine ARun.alloc (lit_lt rfl) ty_zero_25 ?_
 intro b4 f4
 have g4:=f4
 repeat ((with_reducible replace g4:=fresh_set g4);obtain ⟨g4,_⟩:=g4)
 have:=g4.ne hp;have:=g4.ne' hp
 refine nl_ ?_
 iterate 14 refine s1_ ?_
 refine su_ [(0,_),(1,_),(4,_),(5,_)] ?_
 refine s1_ ?_
 refine ⟨_,dkM S d oE oW,⟨_,_,_,rfl,.inr ⟨ty_agg_25,[_,_,_,_,_],ty_size_25,rds_,rfl⟩,⟨_,_,rfl,rfl,rfl⟩,rfl⟩,hdl.trans less_,?_⟩
 exact ⟨_,rfl,hl,hdk⟩
noncomputable def opened (d : D) (f : D × Int) : D × Int := if (openD d).2 = 0 then f else openD d
end Go.Proofs.YtceikpipmcadmaaGreatDoor
namespace Go.Proofs.YtceikpipmcadmaaGreatDoor
open Go.RowKit
open Mv Disk
set_option maxRecDepth 4000
theorem drop_get {α : Type} {l : List α} {i : Nat} (h : i < l.length) : l.drop i = l[i] :: l.drop (i + 1) := List.drop_eq_getElem_cons h
section
variable {P : Program} {N : Nat} {E : Env} {S : Mem} {dst : Option Nat} {ty : TypeId} {pos : String} {aft : Array Edge} {gd : Option (Nat × Bool)}
end
end Go.Proofs.YtceikpipmcadmaaGreatDoor
namespace Go.Proofs.YtceikpipmcadmaaGreatDoor
open Go.RowKit
open Mv Disk
set_option maxRecDepth 4000
def isN (s : ByteArray) (w : Wr) : Bool := decide (w.1 = s)
def filt (s : ByteArray) (l : List Wr) : List Wr := l.filter fun w => !isN s w
theorem filt_all {s : ByteArray} {l : List Wr} (h : ∀ w ∈ l, isN s w = false) : filt s l = l := by
 unfold filt;rw [List.filter_eq_self];intro w hw;rw [h w hw];rfl
end Go.Proofs.YtceikpipmcadmaaGreatDoor
namespace Go.Proofs.YtceikpipmcadmaaGreatDoor
open Go.RowKit
open Mv Disk
set_option maxRecDepth 4000
def forgetD (d : D) (s : ByteArray) : D := { d with waits := filt s d.waits }
/-- An extent is no more. -/
def eraseD (d : D) (s : ByteArray) : D := { d with ext := d.ext.eraseIdx (pos d.ext s) }
def freeD (d : D) (s : ByteArray) : D × Int := if has d.ext s = true then (forgetD (eraseD d s) s, 0) else (d, 3)
end Go.Proofs.YtceikpipmcadmaaGreatDoor
namespace Go.Proofs.YtceikpipmcadmaaGreatDoor
open Go.RowKit
open Mv Disk
set_option maxRecDepth 4000
theorem isN_no {s : ByteArray} {w : Wr} : isN s w = false ↔ w.1 ≠ s := by unfold isN; simp
def freesD (d0 : D) : D → List ByteArray → D × Int
  | d, [] => (d, 0)
  | d, s :: l => if (freeD d s).2 = 0 then freesD d0 (freeD d s).1 l else (d0, (freeD d s).2)
theorem right_lens {d : D} (h : Right d) : d.ext.length ≤ 9223372036854775807 ∧ d.waits.length ≤ 9223372036854775807 := ⟨Nat.le_trans (right_len h).1 (by decide), Nat.le_trans h.wl (by decide)⟩
end Go.Proofs.YtceikpipmcadmaaGreatDoor
namespace Go.Proofs.YtceikpipmcadmaaGreatDoor
open Go.RowKit
open Mv Disk
set_option maxRecDepth 4000
def addW (d : D) (w : Wr) : D := { d with waits := d.waits ++ [w] }
def fuseD (d : D) : D × Int := if d.fuse = 0 then ({ d with down := true }, 10) else if 0 < d.fuse then ({ d with fuse := d.fuse - 1 }, 0) else (d, 0)
def writeD (d : D) (s : ByteArray) (i : Int) (data : ByteArray) : D × Int := if (placeD d s i).2 ≠ 0 then (d, (placeD d s i).2) else if data.size ≠ 64 then (d, 2) else if d.waits.length = 16384 then (d, 8) else fuseD (addW d (s, i, data))
theorem add_flat (d : D) (w : Wr) : (addW d w).waits.flatMap wrF = d.waits.flatMap wrF ++ wrF w := by unfold addW; simp
theorem add_len (d : D) (w : Wr) : (addW d w).waits.length = d.waits.length + 1 := by unfold addW; simp
set_option maxHeartbeats 2000000 in
theorem dev_Write (p : Nat) (d : D) (s : ByteArray) (i : Int) (data : ByteArray) (S : Mem) (oE oW : Option (Nat × Nat)) (hok : OkV S p d oE oW) (hR : Right d) (hf1 : d.fuse ≤ 9223372036854775807) :
  ACall Tryz.prog 91 #[.pointer (some ⟨p,0,none⟩),.string s,.int .i64 i,.string data] (devM S p d oE oW) (DevR S p (writeD d s i data)):=by
 have hlens:=right_lens hR
 have hwl:=hR.wl
 have hf0:=hR.fu
 have hpl:=dev_place p d s i _ (hok.rd hlens.1 hlens.2) hR
 have hp:(devM S p d oE oW).own p=some (devB d oE oW):=Mem.own_set_same _ _ _
 have hap:=hok.apart
 have hft:=hok.fits
 have hME:=devM_W hap (devB d oE oW) (d:=d)
 have hoW:=okO_baseW hap hft (devB d oE oW)
 rw [← devM_eq] at hME
 have hfl:=flat_length wr_len d.waits
 have happ:=appN_self (e:=wrT) hoW hfl
 rw [hME] at happ
 have hmeq:=devM_eq S p d oE oW
 have hdc:∀ oW',(devM S p (addW d (s,i,data)) oE oW').own p=some (devB (addW d (s,i,data)) oE oW'):=fun oW'=>Mem.own_set_same _ _ _
 obtain ⟨qw,dw,hqw⟩:=outV_eq hok.dk.w
 generalize hM:devM S p d oE oW=M at *
 unfold devB at hp
 unfold writeD
 by_cases q1:(placeD d s i).2=0
 ·rw [if_neg (fun h=>h q1)]
  rw [q1] at hpl
  by_cases q2:data.size=64
  ·rw [if_neg (fun h=>h q2)]
   by_cases q3:d.waits.length=16384
   ·rw [if_pos q3]
    rw [hqw] at hp
    refine ACall.enter (rs:=[.tmp 8]) 75 [(0,.pointer (some ⟨p,0,none⟩)),(1,.string s),(2,.int .i64 i),(3,.string data)] Tryz.func91 rfl rfl (Nat.le_of_ble_eq_true rfl) rfl ⟨rfl,rfl,rfl,rfl,trivial⟩ ?_
    iterate 11 refine s1_ ?_
    refine ca_ rfl (hpl) ?_
    rintro _ S1 ⟨rfl,h1⟩
    rw [h1];clear h1 S1
    iterate 7 refine s1_ ?_
    refine su_ [(0,_),(1,_),(2,_),(3,_),(8,_),(10,_)] ?_
    iterate 6 refine s1_ ?_
    refine su_ [(0,_),(1,_),(2,_),(3,_),(8,_),(10,_),(19,_)] ?_
    refine cF_ ?_
    iterate 12 refine s1_ ?_
    refine su_ [(0,_),(1,_),(2,_),(3,_),(8,_),(10,_),(19,_),(21,_)] ?_
    refine cF_ ?_
    iterate 12 refine s1_ ?_
    refine su_ [(0,_),(1,_),(2,_),(3,_),(8,_),(10,_),(19,_),(21,_),(25,_)] ?_
    refine cT_ ?_
    iterate 8 refine s1_ ?_
    refine ⟨_,M,⟨_,_,rfl,rfl,rfl⟩,less_,?_⟩
    exact ⟨oE,oW,hok,rfl,hM.symm⟩
   ·rw [if_neg q3]
    refine ACall.enter (rs:=[.tmp 8]) 75 [(0,.pointer (some ⟨p,0,none⟩)),(1,.string s),(2,.int .i64 i),(3,.string data)] Tryz.func91 rfl rfl (Nat.le_of_ble_eq_true rfl) rfl ⟨rfl,rfl,rfl,rfl,trivial⟩ ?_
    iterate 11 refine s1_ ?_
    refine ca_ rfl (hpl) ?_
    rintro _ S1 ⟨rfl,h1⟩
    rw [h1];clear h1 S1
    iterate 7 refine s1_ ?_
    refine su_ [(0,_),(1,_),(2,_),(3,_),(8,_),(10,_)] ?_
    iterate 6 refine s1_ ?_
    refine su_ [(0,_),(1,_),(2,_),(3,_),(8,_),(10,_),(19,_)] ?_
    refine cF_ ?_
    iterate 12 refine s1_ ?_
    refine su_ [(0,_),(1,_),(2,_),(3,_),(8,_),(10,_),(19,_),(21,_)] ?_
    refine cF_ ?_
    iterate 7 refine s1_ ?_
    refine rC ((by rw [hqw];exact Calm.lenSl Tryz.underlying23 rfl)) ?_
    iterate 4 refine s1_ ?_
    refine su_ [(0,_),(1,_),(2,_),(3,_),(8,_),(10,_),(19,_),(21,_),(25,_)] ?_
    refine cF_ ?_
    iterate 15 refine s1_ ?_
    refine ARun.build1 (lit_lt rfl) ty_sl_23 rfl (by decide) (by decide) rfl rfl ?_
    intro b43 f43
    have g43:=f43
    repeat ((with_reducible replace g43:=fresh_set g43);obtain ⟨g43,_⟩:=g43)
    have:=g43.ne hp;have:=g43.ne' hp
    refine ARun.appendOK (n:=3) (o:=oW) (k:=d.waits.length) (m:=1) (cs:=d.waits.flatMap wrF) (lit_lt rfl) ty_sl_23 rfl rfl hfl hoW (happ.temp f43) rfl (src_own (Mem.own_set_same _ _ _) List.prefix_rfl) rfl (fun v hv=>wr_one [(s,i,data)] v (by rw [List.flatMap_cons,List.flatMap_nil,List.append_nil];exact hv)) (by omega) (by omega) ?_
    intro o' ho'
    have hp2:∀ cs,(outN 3 (baseW S p d oE (devB d oE oW)) o' wrT cs).own p=some (devB d oE oW):=fun cs=>own_outN' (Mem.own_set_same _ _ _) (fun q c e=>((apart_W hap ho').w q c e).2)
    have hE':=devM_W' (d':=addW d (s,i,data)) hap ho' rfl
    rw [add_flat] at hE'
    unfold devB at hp2
    iterate 3 refine s1_ ?_
    refine ARun.store1 rfl rfl ty_size_23 (outV_cells _ _) (hp2 _) (show 2<5 from by decide) (outV_one _ _) ?_
    try simp only [k_ms,k_sz,k_ss,k_za,Nat.reduceAdd]
    iterate 2 refine s1_ ?_
    refine su_ [(0,_),(1,_),(2,_),(3,_),(8,_),(10,_),(19,_),(21,_),(25,_)] ?_
    refine AWP.less (devM S p (addW d (s,i,data)) oE o') (by rw [← hE'];unfold devB;rw [add_len];exact Mem.Less.refl _) ?_
    have hp3:=hdc o'
    have hokk:∀ d',d'.waits=(addW d (s,i,data)).waits→d'.ext=d.ext→OkV S p d' oE o':=fun d' e1 e2=>okV_mk (apart_W hap ho') (fits_W hft ho' (by rw [e1,add_len]) e2)
    unfold devB at hp3
    simp only [show (addW d (s,i,data)).size=d.size from rfl,show (addW d (s,i,data)).fuse=d.fuse from rfl,show (addW d (s,i,data)).down=d.down from rfl] at hp3
    have hfu:(addW d (s,i,data)).fuse=d.fuse:=rfl
    generalize hM2:devM S p (addW d (s,i,data)) oE o'=M2 at *
    unfold fuseD
    rw [hfu]
    by_cases q4:d.fuse=0
    ·rw [if_pos q4]
     iterate 13 refine s1_ ?_
     refine su_ [(0,_),(1,_),(2,_),(3,_),(8,_),(10,_),(19,_),(21,_),(25,_),(48,_)] ?_
     refine cT_ ?_
     iterate 6 refine s1_ ?_
     refine ARun.store1 rfl rfl ty_size_4 rfl hp3 (show 4<5 from by decide) rfl ?_
     try simp only [k_ms,k_sz,k_ss,k_za,Nat.reduceAdd]
     iterate 2 refine s1_ ?_
     refine su_ [(0,_),(1,_),(2,_),(3,_),(8,_),(10,_),(19,_),(21,_),(25,_),(48,_)] ?_
     iterate 8 refine s1_ ?_
     refine ⟨_,devM S p { addW d (s,i,data) with down:=true } oE o',⟨_,_,rfl,rfl,rfl⟩,(by rw [← hM2];unfold devM;rw [Mem.set_set];exact Mem.Less.refl _),?_⟩
     exact ⟨oE,o',hokk _ rfl rfl,rfl,rfl⟩
    ·rw [if_neg q4]
     by_cases q5:0<d.fuse
     ·rw [if_pos q5]
      iterate 13 refine s1_ ?_
      refine su_ [(0,_),(1,_),(2,_),(3,_),(8,_),(10,_),(19,_),(21,_),(25,_),(48,_)] ?_
      refine cF_ ?_
      iterate 11 refine s1_ ?_
      refine su_ [(0,_),(1,_),(2,_),(3,_),(8,_),(10,_),(19,_),(21,_),(25,_),(48,_),(59,_)] ?_
      refine cT_ ?_
      iterate 10 refine s1_ ?_
      refine ARun.store1 rfl rfl ty_size_3 rfl hp3 (show 3<5 from by decide) rfl ?_
      try simp only [k_ms,k_sz,k_ss,k_za,Nat.reduceAdd]
      iterate 3 refine s1_ ?_
      refine su_ [(0,_),(1,_),(2,_),(3,_),(8,_),(10,_),(19,_),(21,_),(25,_),(48,_),(59,_)] ?_
      iterate 6 refine s1_ ?_
      refine ⟨_,devM S p { addW d (s,i,data) with fuse:=d.fuse-1 } oE o',⟨_,_,rfl,rfl,rfl⟩,(by rw [← hM2];unfold devM;rw [Mem.set_set];exact Mem.Less.refl _),?_⟩
      exact ⟨oE,o',hokk _ rfl rfl,rfl,rfl⟩
     ·rw [if_neg q5]
      iterate 13 refine s1_ ?_
      refine su_ [(0,_),(1,_),(2,_),(3,_),(8,_),(10,_),(19,_),(21,_),(25,_),(48,_)] ?_
      refine cF_ ?_
      iterate 11 refine s1_ ?_
      refine su_ [(0,_),(1,_),(2,_),(3,_),(8,_),(10,_),(19,_),(21,_),(25,_),(48,_),(59,_)] ?_
      refine cF_ ?_
      iterate 9 refine s1_ ?_
      refine ⟨_,devM S p (addW d (s,i,data)) oE o',⟨_,_,rfl,rfl,rfl⟩,(by rw [← hM2];exact Mem.Less.refl _),?_⟩
      exact ⟨oE,o',hokk _ rfl rfl,rfl,rfl⟩
  ·rw [if_pos q2]
   refine ACall.enter (rs:=[.tmp 8]) 75 [(0,.pointer (some ⟨p,0,none⟩)),(1,.string s),(2,.int .i64 i),(3,.string data)] Tryz.func91 rfl rfl (Nat.le_of_ble_eq_true rfl) rfl ⟨rfl,rfl,rfl,rfl,trivial⟩ ?_
   iterate 11 refine s1_ ?_
   refine ca_ rfl (hpl) ?_
   rintro _ S1 ⟨rfl,h1⟩
   rw [h1];clear h1 S1
   iterate 7 refine s1_ ?_
   refine su_ [(0,_),(1,_),(2,_),(3,_),(8,_),(10,_)] ?_
   iterate 6 refine s1_ ?_
   refine su_ [(0,_),(1,_),(2,_),(3,_),(8,_),(10,_),(19,_)] ?_
   refine cF_ ?_
   iterate 12 refine s1_ ?_
   refine su_ [(0,_),(1,_),(2,_),(3,_),(8,_),(10,_),(19,_),(21,_)] ?_
   refine cT_ ?_
   iterate 8 refine s1_ ?_
   refine ⟨_,M,⟨_,_,rfl,rfl,rfl⟩,less_,?_⟩
   exact ⟨oE,oW,hok,rfl,hM.symm⟩
 ·rw [if_pos q1]
  have hp1:(placeD d s i).2=1∨(placeD d s i).2=3:=by
   unfold placeD at q1 ⊢;repeat' split
   all_goals simp_all
  refine ACall.enter (rs:=[.tmp 8]) 75 [(0,.pointer (some ⟨p,0,none⟩)),(1,.string s),(2,.int .i64 i),(3,.string data)] Tryz.func91 rfl rfl (Nat.le_of_ble_eq_true rfl) rfl ⟨rfl,rfl,rfl,rfl,trivial⟩ ?_
  iterate 11 refine s1_ ?_
  refine ca_ rfl (hpl) ?_
  rintro _ S1 ⟨rfl,h1⟩
  rw [h1];clear h1 S1
  iterate 7 refine s1_ ?_
  refine su_ [(0,_),(1,_),(2,_),(3,_),(8,_),(10,_)] ?_
  iterate 6 refine s1_ ?_
  refine su_ [(0,_),(1,_),(2,_),(3,_),(8,_),(10,_),(19,_)] ?_
  refine cT_ ?_
  iterate 6 refine s1_ ?_
  refine su_ [(0,_),(1,_),(2,_),(3,_),(8,_),(10,_),(19,_)] ?_
  iterate 2 refine s1_ ?_
  refine ⟨_,M,⟨_,_,rfl,rfl,rfl⟩,less_,?_⟩
  exact ⟨oE,oW,hok,rfl,hM.symm⟩
end Go.Proofs.YtceikpipmcadmaaGreatDoor
namespace Go.Proofs.YtceikpipmcadmaaGreatDoor
open Go.RowKit
open Mv Disk
set_option maxRecDepth 4000
theorem flat_set {α : Type} {n : Nat} {f : α → List Value} (hn : ∀ x, (f x).length = n) (l : List α) (k : Nat) (y : α) (h : k < l.length) (q : Nat) (v : Value) (hq : q < n) (he : (f l[k]).set q v = f y) : (l.flatMap f).set (k * n + q) v = (l.set k y).flatMap f := by
 have e1:l=l.take k ++ l[k] :: l.drop (k+1):=by rw [← drop_get h,List.take_append_drop]
 have e2:l.set k y=l.take k ++ y :: l.drop (k+1):=by rw [List.set_eq_take_append_cons_drop,if_pos h]
 rw [e2]
 conv=>lhs;rw [e1]
 rw [List.flatMap_append,List.flatMap_append,List.flatMap_cons,List.flatMap_cons]
 have hl:=flat_length hn (l.take k)
 rw [List.length_take,Nat.min_eq_left (Nat.le_of_lt h)] at hl
 rw [List.set_append_right _ _ (by omega),List.set_append_left _ _ (by rw [hn];omega),show k*n+q-(List.flatMap f (List.take k l)).length=q from by omega,he]
def setE (d : D) (s data : ByteArray) : D := { d with ext := d.ext.set (pos d.ext s) (s, data) }
theorem kn_at {S : Mem} {b o : Nat} {cs : List Value} (h : S.Knows ⟨b, o, none⟩ cs) (k : Nat) {v : Value} (hk : cs[k]? = some v) : S.Knows ⟨b, o + k, none⟩ [v] := fun w hv j u hj => by
 cases j with
 | zero =>
  simp only [List.getElem?_cons_zero,Option.some.injEq] at hj
  subst hj
  have:=h w hv k v hk
  rw [addr_add] at this ⊢;exact this
 | succ j=>simp at hj
theorem dev_ownE {S : Mem} {p : Nat} {d : D} {b c : Nat} {oW : Option (Nat × Nat)} (h : OkV S p d (some (b, c)) oW) : (devM S p d (some (b, c)) oW).own b = some ⟨extT, d.ext.flatMap extF, c * 2⟩ := by
 rw [devM_eq,← devM_E h.apart];exact Mem.own_set_same _ _ _
theorem dev_setE {S : Mem} {p : Nat} {d d' : D} {b c : Nat} {oW : Option (Nat × Nat)} (h : OkV S p d (some (b, c)) oW) (hw : d'.waits = d.waits) (hl : d'.ext.length = d.ext.length) (h1 : d'.size = d.size) (h2 : d'.fuse = d.fuse) (h3 : d'.down = d.down) : (devM S p d (some (b, c)) oW).set b ⟨extT, d'.ext.flatMap extF, c * 2⟩ = devM S p d' (some (b, c)) oW ∧ OkV S p d' (some (b, c)) oW := by
 have hf:=h.fits
 have e:devB d (some (b,c)) oW=devB d' (some (b,c)) oW:=by unfold devB;rw [hw,hl,h1,h2,h3]
 refine ⟨?_,okV_mk h.apart ⟨(fun x=>by cases x),fun x=>by rw [hw];exact hf.w0 x,fun b c x=>by rw [hl];exact hf.e b c x,fun b c x=>by rw [hw];exact hf.w b c x⟩⟩
 rw [devM_eq,devM_eq,← devM_E h.apart,← devM_E h.apart,e]
 unfold baseE
 rw [hw]
 exact Mem.set_set _ _ _ _
end Go.Proofs.YtceikpipmcadmaaGreatDoor
namespace Go.Proofs.YtceikpipmcadmaaGreatDoor
open Go.RowKit
namespace Disk
open Mv
/-- A sector is put into a text. -/
def putS (x : ByteArray) (w : Wr) : ByteArray := bs (x.data.toList.take (64 * w.2.1.toNat) ++ w.2.2.data.toList ++ x.data.toList.drop (64 * w.2.1.toNat + 64))
theorem putS_size {x : ByteArray} {w : Wr} (h1 : 64 * w.2.1.toNat + 64 ≤ x.size) (h2 : w.2.2.size = 64) : (putS x w).size = x.size := by
 unfold putS
 rw [size_bs]
 simp only [List.length_append,List.length_take,List.length_drop,size_data,h2]
 omega
def accW (kp : Nat → Bool) (x : Ext) (l : List Wr) : Nat → Option ByteArray
  | 0 => none
  | n + 1 => match l[n]? with
    | some w => if w.1 = x.1 ∧ kp n = true then some (putS ((accW kp x l n).getD x.2) w) else accW kp x l n
    | none => accW kp x l n
theorem accW_succ (kp : Nat → Bool) (x : Ext) (l : List Wr) (n : Nat) (h : n < l.length) : accW kp x l (n + 1) = if l[n].1 = x.1 ∧ kp n = true then some (putS ((accW kp x l n).getD x.2) l[n]) else accW kp x l n := by
 rw [accW,List.getElem?_eq_getElem h]
/-- All that waits for an extent fits. -/
def Fit (x : Ext) (l : List Wr) : Prop := ∀ w ∈ l, w.1 = x.1 → 0 ≤ w.2.1 ∧ 64 * w.2.1.toNat + 64 ≤ x.2.size ∧ w.2.2.size = 64
theorem acc_size {kp : Nat → Bool} {x : Ext} {l : List Wr} (hf : Fit x l) : ∀ n, n ≤ l.length → ((accW kp x l n).getD x.2).size = x.2.size
 | 0,_=>rfl
 | n+1,h=>by
  have ih:=acc_size (kp:=kp) hf n (by omega)
  rw [accW_succ kp x l n (by omega)]
  split
  ·rename_i hc
   obtain ⟨_,h1,h2⟩:=hf _ (List.getElem_mem (by omega:n<l.length)) hc.1
   simp only [Option.getD_some]
   rw [putS_size (by rw [ih];exact h1) h2];exact ih
  ·exact ih
def doneX (kp : Nat → Bool) (l : List Wr) (x : Ext) : Ext := (x.1, (accW kp x l l.length).getD x.2)
def settleD (d : D) (kp : Nat → Bool) : D := { d with ext := d.ext.map (doneX kp d.waits), waits := [] }
/-- The first i of them done. -/
def mixE (kp : Nat → Bool) (w : List Wr) (l : List Ext) (i : Nat) : List Ext := (l.take i).map (doneX kp w) ++ l.drop i
theorem mixE_len (kp : Nat → Bool) (w : List Wr) (l : List Ext) (i : Nat) : (mixE kp w l i).length = l.length := by unfold mixE; simp; omega
theorem mixE_zero (kp : Nat → Bool) (w : List Wr) (l : List Ext) : mixE kp w l 0 = l := by simp [mixE]
theorem mixE_all (kp : Nat → Bool) (w : List Wr) (l : List Ext) : mixE kp w l l.length = l.map (doneX kp w) := by simp [mixE]
theorem mixE_at (kp : Nat → Bool) (w : List Wr) (l : List Ext) (i : Nat) (h : i < l.length) : mixE kp w l i = (l.take i).map (doneX kp w) ++ l[i] :: l.drop (i + 1) := by unfold mixE; rw [List.drop_eq_getElem_cons h]
theorem mixE_get (kp : Nat → Bool) (w : List Wr) (l : List Ext) (i : Nat) (h : i < l.length) (h' : i < (mixE kp w l i).length) : (mixE kp w l i)[i] = l[i] := by
 simp only [mixE_at kp w l i h]
 rw [List.getElem_append_right (by simp;omega)]
 simp [Nat.min_eq_left (Nat.le_of_lt h)]
theorem mixE_succ (kp : Nat → Bool) (w : List Wr) (l : List Ext) (i : Nat) (h : i < l.length) : mixE kp w l (i + 1) = (mixE kp w l i).set i (doneX kp w l[i]) := by
 rw [mixE_at kp w l i h,List.set_append_right _ _ (by simp;omega)]
 unfold mixE
 rw [take_get h,List.map_append,List.append_assoc,List.length_map,List.length_take,Nat.min_eq_left (Nat.le_of_lt h),Nat.sub_self]
 rfl
theorem right_fit {d : D} (h : Right d) {x : Ext} (hx : x ∈ d.ext) : Fit x d.waits := fun w hw e => by
 obtain ⟨y,hy,e2,h0,h1,h2⟩:=h.wr w hw
 have:y=x:=asc_inj h.ex.asc hy hx (e2.trans e)
 subst this
 have:=(eok_sec (h.ex.ok y hy)).2
 exact ⟨h0,by omega,h2⟩
end Disk
end Go.Proofs.YtceikpipmcadmaaGreatDoor
namespace Go.Proofs.YtceikpipmcadmaaGreatDoor
open Go.RowKit
open Mv Disk
set_option maxRecDepth 4000
section
variable {P : Program} {N : Nat} {ops : Array Oper} {E : Env} {S : Mem} {K : Env → Mem → Prop}
variable {ty : TypeId} {pos : String} {aft : Array Edge} {gd : Option (Nat × Bool)}
/-- copy of a text into bytes of one's own. -/
theorem Mv.ARun.copyStr {os : List Oper} {T T2 e : TypeId} {y : Nat} {z : List Value} {x1 x2 : Operand} {b o k c d : Nat} {r : Blk} {t : ByteArray} (hn : d < N) (hT : slT P T = some (e, 1, y, z))
  (hx:ev E x1=some (.slice (some ⟨b,o,none⟩) k c)) (hb:S.own b=some r) (hy:ev E x2=some (.string t)) (hle:t.size≤k) (ho:o+t.size≤r.cells.length)
  (h:ARun P N ops os K ((d,.int .i64 (t.size:Int)) :: E) (S.set b ⟨r.elem,spl r.cells o (cellsB t.data.toList),r.room⟩)) :
  ARun P N ops (⟨some d,.call ⟨.builtin .copy,#[x1,x2],#[T,T2]⟩,ty,pos,aft,none⟩ :: os) K E S:=fun a w g hv=>by
 rw [if_pos (by simp [Region.wanted])]
 obtain ⟨hu,i,v,e1,e2,e3,e4,e5⟩:=slT_spec hT
 have hex:(execOp a.eval ⟨some d,.call ⟨.builtin .copy,#[x1,x2],#[T,T2]⟩,ty,pos,aft,none⟩).run P w=((Builtin.copy_ #[T,T2] ty #[.slice (some ⟨b,o,none⟩) k c,.string t]).run P w).andThen fun v w'=>.ok (.value v) w':=by
  simp [execOp,resolve,invoke,builtin,g.ev hx,g.ev hy]
 unfold Oper.wp
 rw [hex]
 obtain ⟨cur,fz,k1,k2,k3,k4⟩:=hv.own b r hb
 have hcur:r.cells.length≤cur.size:=by have:=k2.length_le;simpa using this
 have hl:(cellsB t.data.toList).length=t.size:=by rw [cellsB_length,size_data]
 obtain ⟨q1,q2⟩:=store_cells (P:=P) hv hb (vs:=cellsB t.data.toList) (o:=o) (by omega) (.inl (by rw [hl];exact ho)) (fun v hv=>by
  obtain ⟨x,_,rfl⟩:=List.mem_map.1 hv
  rfl)
 have hr:=run_copy_string (P:=P) w T T2 ty e b o k c t hu (fun w=>by simp [Go.sizeOf,typeInfo,e1,e3]) hle
  (fun j hj=>by simp [World.cell?,k1];omega) (fun j hj=>by have:=k4 (o+j) (.inl (by omega));simpa [World.frozen?,k1] using this)
 rw [hr]
 exact ⟨_,_,h,g.put hn _,q2⟩
end
theorem spl_cells {l t : List UInt8} {k : Nat} (h : k + t.length ≤ l.length) : spl (cellsB l) k (cellsB t) = cellsB (l.take k ++ t ++ l.drop (k + t.length)) := by
 unfold spl cellsB
 simp only [List.map_append,List.map_take,List.map_drop,List.length_map]
theorem putS_cells {x : ByteArray} {w : Wr} (h : 64 * w.2.1.toNat + 64 ≤ x.size) (h2 : w.2.2.size = 64) : spl (cellsB x.data.toList) (0 + 64 * w.2.1.toNat * 1) (cellsB w.2.2.data.toList) = cellsB (putS x w).data.toList := by
 rw [show 0+64*w.2.1.toNat*1=64*w.2.1.toNat from by omega,spl_cells (by rw [size_data,size_data,h2];exact h),size_data,h2]
 unfold putS;rfl
end Go.Proofs.YtceikpipmcadmaaGreatDoor
namespace Go.Proofs.YtceikpipmcadmaaGreatDoor
open Go.RowKit
open Mv Disk
set_option maxRecDepth 4000
abbrev u8T : TypeId := 5
/-- What the bytes of an extent are in: none, or a block of one's own. -/
def OkB (M : Mem) (o : Option (Nat × Nat)) (n : Nat) : Prop := ∀ b c, o = some (b, c) → Fresh M b ∧ n ≤ c
set_option maxHeartbeats 8000000 in
theorem dev_settle (p : Nat) (d : D) (S : Mem) (oE oW : Option (Nat × Nat)) (hok : OkV S p d oE oW) (hR : Right d) (f : FuncId) (caps : List Value) (hgo : goFn Tryz.prog f = true) (kp : Nat → Bool)
  (hkeep:∀ (k:Nat) (M:Mem),k<d.waits.length→S.Less M→ACall Tryz.prog f (([] : List Value) ++ [Value.int .i64 (k:Int)] ++ caps).toArray M fun r S'=>r = .bool (kp k)∧S'=M) :
  ACall Tryz.prog 65 #[.pointer (some ⟨p,0,none⟩),.func (.func f) #[] caps.toArray] (devM S p d oE oW) fun r S'=>r = .tuple #[]∧OkV S p (settleD d kp) oE none∧S'=devM S p (settleD d kp) oE none:=by
 have hrl:=right_len hR
 have hlens:=right_lens hR
 have hwl:=hR.wl
 have hp:(devM S p d oE oW).own p=some (devB d oE oW):=Mem.own_set_same _ _ _
 obtain ⟨qe,de,hqe⟩:=outV_eq hok.dk.e
 obtain ⟨qw,dw,hqw⟩:=outV_eq hok.dk.w
 have hp':=hp
 unfold devB at hp'
 refine ACall.enter (rs:=[]) 73 [(0,.pointer (some ⟨p,0,none⟩)),(1,.func (.func f) #[] caps.toArray)] Tryz.func65 rfl rfl (Nat.le_of_ble_eq_true rfl) rfl ⟨rfl,rfl,trivial⟩ ?_
 iterate 8 refine s1_ ?_
 refine rC ((by rw [hqe];exact Calm.lenSl Tryz.underlying22 rfl)) ?_
 iterate 3 refine s1_ ?_
 refine su_ [(0,_),(1,_),(13,_),(14,_),(15,_)] ?_
 refine s1_ ?_
 refine AWP.loop (X:=Nat) (fun x=>[(0,.pointer (some ⟨p,0,none⟩)),(1,.func (.func f) #[] caps.toArray),(13,outV oE d.ext.length),(14,.int .i64 d.ext.length),(15,.int .i64 x)]) (fun x=>devM S p { d with ext:=mixE kp d.waits d.ext x } oE oW) (fun x=>x≤d.ext.length∧OkV S p { d with ext:=mixE kp d.waits d.ext x } oE oW) (fun x=>d.ext.length-x) (0) ⟨rfl,rfl,rfl,rfl,rfl,trivial⟩ (by rw [mixE_zero];exact Mem.Less.refl _) (⟨Nat.zero_le _,by rw [mixE_zero];exact hok⟩) ?_
 rintro i ⟨hi,hoki⟩
 (try dsimp only at *)
 have hml:=mixE_len kp d.waits d.ext i
 have hpi:(devM S p { d with ext:=mixE kp d.waits d.ext i } oE oW).own p=some (devB { d with ext:=mixE kp d.waits d.ext i } oE oW):=Mem.own_set_same _ _ _
 unfold devB at hpi
 simp only at hpi
 iterate 6 refine s1_ ?_
 refine AWP.condB rfl (fun hc=>?_) (fun hc=>?_)
 ·have hc:i<d.ext.length:=by have:=of_decide_eq_true hc;omega
  obtain ⟨⟨b,c⟩,rfl⟩ : ∃ q,oE=some q:=by cases hq:oE with | none=>(have:=hoki.fits.e0 hq;simp only at this;omega) | some q=>exact ⟨q,rfl⟩
  have hbE:=dev_ownE hoki
  have hmg:=mixE_get kp d.waits d.ext i hc (by omega)
  have hmsu:=mixE_succ kp d.waits d.ext i hc
  have hxm:=List.getElem_mem hc
  have hfit:=right_fit hR hxm
  have hsx:=right_sec hR hxm
  have hasz:=fun n h=>acc_size (kp:=kp) hfit n h
  have hSi:=hoki.less
  have hWS:Sl 3 wrF (devM S p { d with ext:=mixE kp d.waits d.ext i } (some (b,c)) oW) (outV oW d.waits.length) d.waits:=(sl_outN wr_len (e:=wrT) hoki.dk.w rfl hlens.2).less (Mem.less_set _ _ _ hoki.fr.1)
  rw [hqw] at hWS
  have hki:(devM S p { d with ext:=mixE kp d.waits d.ext i } (some (b,c)) oW).Knows ⟨b,0+i*2,none⟩ (extF d.ext[i]):=Mem.own_knows hbE _ _ (fun j v hj=>by have:=flat_get ext_len (mixE kp d.waits d.ext i) i (by omega) j v (by rw [hmg];exact hj);rw [← this];congr 1;omega)
  have hdx:doneX kp d.waits d.ext[i]=(d.ext[i].1,(accW kp d.ext[i] d.waits d.waits.length).getD d.ext[i].2):=rfl
  rw [hdx] at hmsu
  have hasu:=accW_succ kp d.ext[i] d.waits
  have hse:=fun y=>dev_setE (d':={ d with ext:=(mixE kp d.waits d.ext i).set i y }) hoki rfl (by simp) rfl rfl rfl
  have hcl:0+i*2+1<((mixE kp d.waits d.ext i).flatMap extF).length:=by rw [flat_length ext_len,hml];omega
  simp only at hbE hse
  generalize hxx:d.ext[i]=x at *
  unfold extF at hki
  generalize hMi:devM S p { d with ext:=mixE kp d.waits d.ext i } (some (b,c)) oW=Mi at *
  iterate 7 refine s1_ ?_
  refine rC (Calm.indexS Tryz.underlying22 ty_size_81 rfl rfl (by omega) (by omega)) ?_
  refine s1_ ?_
  refine ARun.alloc (lit_lt rfl) ty_zero_81 ?_
  intro b5 f5
  have g5:=f5
  repeat ((with_reducible replace g5:=fresh_set g5);obtain ⟨g5,_⟩:=g5)
  refine nl_ ?_
  iterate 4 refine s1_ ?_
  refine su_ [(0,_),(1,_),(13,_),(14,_),(15,_),(16,_),(5,_),(4,_)] ?_
  have hpb5:=f5.ne hpi
  iterate 13 refine s1_ ?_
  refine rC ((by rw [hqw];exact Calm.lenSl Tryz.underlying23 rfl)) ?_
  rw [hqw]
  iterate 3 refine s1_ ?_
  refine su_ [(0,_),(1,_),(13,_),(14,_),(15,_),(16,_),(5,_),(4,_),(6,_),(24,_),(25,_),(26,_)] ?_
  refine s1_ ?_
  refine AWP.loop (X:=Nat × Option (Nat × Nat)) (fun y=>[(0,.pointer (some ⟨p,0,none⟩)),(1,.func (.func f) #[] caps.toArray),(13,outV (some (b,c)) d.ext.length),(14,.int .i64 d.ext.length),(15,.int .i64 i),(4,.int .i64 i),(5,.pointer (some ⟨b5,0,none⟩)),(6,outV y.2 x.2.size),(24,.slice qw d.waits.length dw),(25,.int .i64 d.waits.length),(26,.int .i64 y.1)]) (fun y=>outM (Mi.set b5 ⟨81,[.string x.1,.string x.2],2⟩) y.2 u8T (cellsB ((accW kp x d.waits y.1).getD x.2).data.toList)) (fun y=>y.1≤d.waits.length∧OkB (Mi.set b5 ⟨81,[.string x.1,.string x.2],2⟩) y.2 x.2.size∧(y.2=none ↔ accW kp x d.waits y.1=none)) (fun y=>d.waits.length-y.1) ((0,none)) ⟨rfl,rfl,rfl,rfl,rfl,rfl,rfl,rfl,rfl,rfl,rfl,trivial⟩ (Mem.Less.refl _) (⟨Nat.zero_le _,(fun b c e=>by cases e),by simp [accW]⟩) ?_
  rintro ⟨k,ob⟩ ⟨hk,hob,hoa⟩
  (try dsimp only at *)
  have hsz:=hasz k hk
  iterate 6 refine s1_ ?_
  refine AWP.condB rfl (fun hc2=>?_) (fun hc2=>?_)
  ·have hc2:k<d.waits.length:=by have:=of_decide_eq_true hc2;omega
   obtain ⟨_,_,ew1,ew2,ew3,hW3⟩:=id hWS
   cases ew1
   obtain ⟨bw,ow,rfl,hkkw⟩:=hW3.resolve_left (fun e=>by rw [e] at hc2;simp at hc2)
   have hkw:=hkkw k hc2
   have hsu:=hasu k hc2
   have hfw:=hfit _ (List.getElem_mem hc2)
   generalize hw:d.waits[k]=w at *
   unfold wrF at hkw
   rcases ob with _ | ⟨bd,cd⟩
   ·have hacc:accW kp x d.waits k=none:=hoa.1 rfl
    rw [hacc] at hsu hsz
    simp only [Option.getD_none] at hsu hsz
    have hb5:(Mi.set b5 ⟨81,[.string x.1,.string x.2],2⟩).own b5=some ⟨81,[.string x.1,.string x.2],2⟩:=Mem.own_set_same _ _ _
    simp only [outM,outV]
    have hML:Mi.Less (Mi.set b5 ⟨81,[.string x.1,.string x.2],2⟩):=Mem.less_set _ _ _ f5.1
    have hkw':=hkw.less hML
    iterate 7 refine s1_ ?_
    refine rC (Calm.indexS Tryz.underlying23 ty_size_83 rfl rfl (by omega) (by omega)) ?_
    refine s1_ ?_
    refine ARun.alloc (lit_lt rfl) ty_zero_83 ?_
    intro b8 f8
    have g8:=f8
    repeat ((with_reducible replace g8:=fresh_set g8);obtain ⟨g8,_⟩:=g8)
    refine nl_ ?_
    iterate 4 refine s1_ ?_
    refine su_ [(0,_),(1,_),(13,_),(14,_),(15,_),(4,_),(5,_),(6,_),(24,_),(25,_),(26,_),(27,_),(8,_),(7,_)] ?_
    by_cases hn:w.1=x.1
    ·by_cases hkk:kp k=true
     ·rw [if_pos ⟨hn,hkk⟩] at hsu
      obtain ⟨hw0,hw1,hw2⟩:=hfw hn
      iterate 7 refine s1_ ?_
      refine rC (Calm.bin rfl rfl (bin_bool (bin_str_neq _ _) (bnot_dec_false hn))) ?_
      iterate 3 refine s1_ ?_
      refine rUn 36 ?_
      refine ARun.callV (first:=[]) (cap:=caps) (lit_lt rfl) hgo rfl rfl (hkeep k _ hc2 (hSi.trans (hML.trans less_))) ?_
      rintro _ S1 ⟨rfl,h1⟩
      rw [h1,hkk];clear h1 S1
      iterate 4 refine s1_ ?_
      refine su_ [(0,_),(1,_),(13,_),(14,_),(15,_),(4,_),(5,_),(6,_),(24,_),(25,_),(26,_),(27,_),(8,_),(7,_),(41,_)] ?_
      refine cF_ ?_
      iterate 9 refine s1_ ?_
      refine su_ [(0,_),(1,_),(13,_),(14,_),(15,_),(4,_),(5,_),(6,_),(24,_),(25,_),(26,_),(27,_),(8,_),(7,_),(41,_),(43,_)] ?_
      refine cT_ ?_
      iterate 3 refine s1_ ?_
      refine ARun.toBytes (lit_lt rfl) ty_str_9 ty_bytes_61 rfl ?_
      intro b46 c46 f46 hc46
      have g46:=f46
      repeat ((with_reducible replace g46:=fresh_set g46);obtain ⟨g46,_⟩:=g46)
      iterate 3 refine s1_ ?_
      refine su_ [(0,_),(1,_),(13,_),(14,_),(15,_),(4,_),(5,_),(6,_),(24,_),(25,_),(26,_),(27,_),(8,_),(7,_),(41,_),(43,_)] ?_
      refine AWP.draw [(0,true),(1,true),(2,true),(3,true),(4,true),(5,true),(6,true),(7,false)] [7] mixed (by kernel_rfl) ?_
      iterate 4 refine s1_ ?_
      refine dP (hc:=fun _=>Calm.sliceLo (64*w.2.1.toNat) Tryz.underlying61 ty_size_5 rfl rfl (by omega) (by omega) (by omega)) (h:=?_)
      iterate 2 refine s1_ ?_
      refine draw_only rfl ?_
      refine ARun.copyStr (lit_lt rfl) ty_sl_61 rfl own_ rfl (by omega) (by simp only [cellsB_length,size_data];omega) ?_
      have hpc:=putS_cells (x:=x.2) (w:=w) hw1 hw2
      refine arun_nil ⟨fun h=>absurd h (by decide),?_⟩
      iterate 3 refine s1_ ?_
      refine su_ [(0,_),(1,_),(13,_),(14,_),(15,_),(4,_),(5,_),(6,_),(24,_),(25,_),(26,_),(27,_),(8,_),(7,_),(41,_),(43,_)] ?_
      iterate 5 refine s1_ ?_
      refine ⟨(k+1,some (b46,c46)),?_,?_,?_,?_⟩
      all_goals (try dsimp only)
      ·exact ⟨rfl,rfl,rfl,rfl,rfl,rfl,rfl,rfl,rfl,rfl,some_int (by simp),trivial⟩
      ·simp only [hsu,Option.getD_some,← hpc,outM];exact less_
      ·exact ⟨hc2,fun b' c' e=>by cases e;exact ⟨fresh_more g46 (by assumption),hc46⟩,by simp [hsu]⟩
      ·omega
     ·rw [if_neg (fun h=>hkk h.2)] at hsu
      iterate 7 refine s1_ ?_
      refine rC (Calm.bin rfl rfl (bin_bool (bin_str_neq _ _) (bnot_dec_false hn))) ?_
      iterate 3 refine s1_ ?_
      refine rUn 36 ?_
      refine ARun.callV (first:=[]) (cap:=caps) (lit_lt rfl) hgo rfl rfl (hkeep k _ hc2 (hSi.trans (hML.trans less_))) ?_
      rintro _ S1 ⟨rfl,h1⟩
      rw [h1,Bool.eq_false_iff.2 hkk];clear h1 S1
      iterate 4 refine s1_ ?_
      refine su_ [(0,_),(1,_),(13,_),(14,_),(15,_),(4,_),(5,_),(6,_),(24,_),(25,_),(26,_),(27,_),(8,_),(7,_),(41,_)] ?_
      refine cT_ ?_
      iterate 9 refine s1_ ?_
      refine ⟨(k+1,none),?_,?_,?_,?_⟩
      all_goals (try dsimp only)
      ·exact ⟨rfl,rfl,rfl,rfl,rfl,rfl,rfl,rfl,rfl,rfl,some_int (by simp),trivial⟩
      ·(try simp only [hsu,outM,Option.getD_none,Option.getD_some]);exact less_
      ·exact ⟨hc2,hob,by simp [hsu]⟩
      ·omega
    ·rw [if_neg (fun h=>hn h.1)] at hsu
     iterate 7 refine s1_ ?_
     refine rC (Calm.bin rfl rfl (bin_bool (bin_str_neq _ _) (bnot_dec_true hn))) ?_
     iterate 8 refine s1_ ?_
     refine su_ [(0,_),(1,_),(13,_),(14,_),(15,_),(4,_),(5,_),(6,_),(24,_),(25,_),(26,_),(27,_),(8,_),(7,_),(41,_)] ?_
     refine cT_ ?_
     iterate 9 refine s1_ ?_
     refine ⟨(k+1,none),?_,?_,?_,?_⟩
     all_goals (try dsimp only)
     ·exact ⟨rfl,rfl,rfl,rfl,rfl,rfl,rfl,rfl,rfl,rfl,some_int (by simp),trivial⟩
     ·(try simp only [hsu,outM,Option.getD_none,Option.getD_some]);exact less_
     ·exact ⟨hc2,hob,by simp [hsu]⟩
     ·omega
   ·obtain ⟨hfb,hcb⟩:=hob bd cd rfl
    obtain ⟨hfb1,hbd5⟩:=fresh_set hfb
    have hbd5':=Ne.symm hbd5
    obtain ⟨cur,hacc⟩ : ∃ cur,accW kp x d.waits k=some cur:=by cases h:accW kp x d.waits k with | none=>exact absurd (hoa.2 h) (by simp) | some cur=>exact ⟨cur,rfl⟩
    rw [hacc] at hsu hsz ⊢
    simp only [Option.getD_some] at hsu hsz ⊢
    have hb5:((Mi.set b5 ⟨81,[.string x.1,.string x.2],2⟩).set bd ⟨u8T,cellsB cur.data.toList,cd⟩).own b5=some ⟨81,[.string x.1,.string x.2],2⟩:=(Mem.own_set_other _ _ hbd5').trans (Mem.own_set_same _ _ _)
    simp only [outM,outV]
    have hML:Mi.Less ((Mi.set b5 ⟨81,[.string x.1,.string x.2],2⟩).set bd ⟨u8T,cellsB cur.data.toList,cd⟩):=(Mem.less_set _ _ _ f5.1).trans (Mem.less_set _ _ _ hfb.1)
    have hkw':=hkw.less hML
    iterate 7 refine s1_ ?_
    refine rC (Calm.indexS Tryz.underlying23 ty_size_83 rfl rfl (by omega) (by omega)) ?_
    refine s1_ ?_
    refine ARun.alloc (lit_lt rfl) ty_zero_83 ?_
    intro b8 f8
    have g8:=f8
    repeat ((with_reducible replace g8:=fresh_set g8);obtain ⟨g8,_⟩:=g8)
    refine nl_ ?_
    iterate 4 refine s1_ ?_
    refine su_ [(0,_),(1,_),(13,_),(14,_),(15,_),(4,_),(5,_),(6,_),(24,_),(25,_),(26,_),(27,_),(8,_),(7,_)] ?_
    by_cases hn:w.1=x.1
    ·by_cases hkk:kp k=true
     ·rw [if_pos ⟨hn,hkk⟩] at hsu
      obtain ⟨hw0,hw1,hw2⟩:=hfw hn
      iterate 7 refine s1_ ?_
      refine rC (Calm.bin rfl rfl (bin_bool (bin_str_neq _ _) (bnot_dec_false hn))) ?_
      iterate 3 refine s1_ ?_
      refine rUn 36 ?_
      refine ARun.callV (first:=[]) (cap:=caps) (lit_lt rfl) hgo rfl rfl (hkeep k _ hc2 (hSi.trans (hML.trans less_))) ?_
      rintro _ S1 ⟨rfl,h1⟩
      rw [h1,hkk];clear h1 S1
      iterate 4 refine s1_ ?_
      refine su_ [(0,_),(1,_),(13,_),(14,_),(15,_),(4,_),(5,_),(6,_),(24,_),(25,_),(26,_),(27,_),(8,_),(7,_),(41,_)] ?_
      refine cF_ ?_
      iterate 9 refine s1_ ?_
      refine su_ [(0,_),(1,_),(13,_),(14,_),(15,_),(4,_),(5,_),(6,_),(24,_),(25,_),(26,_),(27,_),(8,_),(7,_),(41,_),(43,_)] ?_
      refine cF_ ?_
      iterate 2 refine s1_ ?_
      refine AWP.draw [(0,true),(1,true),(2,true),(3,true),(4,true),(5,true),(6,true),(7,false)] [7] mixed (by kernel_rfl) ?_
      iterate 4 refine s1_ ?_
      refine dP (hc:=fun _=>Calm.sliceLo (64*w.2.1.toNat) Tryz.underlying61 ty_size_5 rfl rfl (by omega) (by omega) (by omega)) (h:=?_)
      iterate 2 refine s1_ ?_
      refine draw_only rfl ?_
      refine ARun.copyStr (lit_lt rfl) ty_sl_61 rfl own_ rfl (by omega) (by simp only [cellsB_length,size_data];omega) ?_
      have hpc:=putS_cells (x:=cur) (w:=w) (by omega) hw2
      refine arun_nil ⟨fun h=>absurd h (by decide),?_⟩
      iterate 3 refine s1_ ?_
      refine su_ [(0,_),(1,_),(13,_),(14,_),(15,_),(4,_),(5,_),(6,_),(24,_),(25,_),(26,_),(27,_),(8,_),(7,_),(41,_),(43,_)] ?_
      iterate 5 refine s1_ ?_
      refine ⟨(k+1,some (bd,cd)),?_,?_,?_,?_⟩
      all_goals (try dsimp only)
      ·exact ⟨rfl,rfl,rfl,rfl,rfl,rfl,rfl,rfl,rfl,rfl,some_int (by simp),trivial⟩
      ·simp only [hsu,Option.getD_some,← hpc,outM];exact less_
      ·exact ⟨hc2,hob,by simp [hsu]⟩
      ·omega
     ·rw [if_neg (fun h=>hkk h.2)] at hsu
      iterate 7 refine s1_ ?_
      refine rC (Calm.bin rfl rfl (bin_bool (bin_str_neq _ _) (bnot_dec_false hn))) ?_
      iterate 3 refine s1_ ?_
      refine rUn 36 ?_
      refine ARun.callV (first:=[]) (cap:=caps) (lit_lt rfl) hgo rfl rfl (hkeep k _ hc2 (hSi.trans (hML.trans less_))) ?_
      rintro _ S1 ⟨rfl,h1⟩
      rw [h1,Bool.eq_false_iff.2 hkk];clear h1 S1
      iterate 4 refine s1_ ?_
      refine su_ [(0,_),(1,_),(13,_),(14,_),(15,_),(4,_),(5,_),(6,_),(24,_),(25,_),(26,_),(27,_),(8,_),(7,_),(41,_)] ?_
      refine cT_ ?_
      iterate 9 refine s1_ ?_
      refine ⟨(k+1,some (bd,cd)),?_,?_,?_,?_⟩
      all_goals (try dsimp only)
      ·exact ⟨rfl,rfl,rfl,rfl,rfl,rfl,rfl,rfl,rfl,rfl,some_int (by simp),trivial⟩
      ·(try simp only [hsu,outM,Option.getD_none,Option.getD_some]);exact less_
      ·exact ⟨hc2,hob,by simp [hsu]⟩
      ·omega
    ·rw [if_neg (fun h=>hn h.1)] at hsu
     iterate 7 refine s1_ ?_
     refine rC (Calm.bin rfl rfl (bin_bool (bin_str_neq _ _) (bnot_dec_true hn))) ?_
     iterate 8 refine s1_ ?_
     refine su_ [(0,_),(1,_),(13,_),(14,_),(15,_),(4,_),(5,_),(6,_),(24,_),(25,_),(26,_),(27,_),(8,_),(7,_),(41,_)] ?_
     refine cT_ ?_
     iterate 9 refine s1_ ?_
     refine ⟨(k+1,some (bd,cd)),?_,?_,?_,?_⟩
     all_goals (try dsimp only)
     ·exact ⟨rfl,rfl,rfl,rfl,rfl,rfl,rfl,rfl,rfl,rfl,some_int (by simp),trivial⟩
     ·(try simp only [hsu,outM,Option.getD_none,Option.getD_some]);exact less_
     ·exact ⟨hc2,hob,by simp [hsu]⟩
     ·omega
  ·have hc2:k=d.waits.length:=by have:=of_decide_eq_false hc2;omega
   rw [hc2] at hoa hsz ⊢
   rcases ob with _ | ⟨bd,cd⟩
   ·have hacc:accW kp x d.waits d.waits.length=none:=hoa.1 rfl
    rw [hacc,Option.getD_none,show ((x.1,x.2):Ext)=x from rfl,← hmg,List.set_getElem_self] at hmsu
    simp only [outM,outV]
    iterate 11 refine s1_ ?_
    refine su_ [(0,_),(1,_),(13,_),(14,_),(15,_),(4,_),(5,_),(6,_),(24,_),(25,_),(26,_),(27,_),(57,_)] ?_
    refine cF_ ?_
    iterate 8 refine s1_ ?_
    refine ⟨i+1,?_,?_,?_,?_⟩
    all_goals (try dsimp only)
    ·exact ⟨rfl,rfl,rfl,rfl,rfl,trivial⟩
    ·simp only [hmsu,hMi];exact less_
    ·exact ⟨hc,by simp only [hmsu];exact hoki⟩
    ·omega
   ·obtain ⟨hfb,hcb⟩:=hob bd cd rfl
    obtain ⟨hfb1,hbd5⟩:=fresh_set hfb
    have hbd5':=Ne.symm hbd5
    obtain ⟨cur,hacc⟩ : ∃ cur,accW kp x d.waits d.waits.length=some cur:=by cases h:accW kp x d.waits d.waits.length with | none=>exact absurd (hoa.2 h) (by simp) | some cur=>exact ⟨cur,rfl⟩
    rw [hacc] at hmsu hsz ⊢
    simp only [Option.getD_some] at hmsu hsz ⊢
    have n1:=hfb1.ne hpi
    have n2:=hfb1.ne hbE
    have n3:=f5.ne hbE
    have n2':=Ne.symm n2
    have n3':=Ne.symm n3
    have hfs:=flat_set ext_len (mixE kp d.waits d.ext i) i (x.1,cur) (by omega) 1 (.string cur) (by decide) (by rw [hmg];rfl)
    simp only [outM,outV]
    iterate 11 refine s1_ ?_
    refine su_ [(0,_),(1,_),(13,_),(14,_),(15,_),(4,_),(5,_),(6,_),(24,_),(25,_),(26,_),(27,_),(57,_)] ?_
    refine cT_ ?_
    refine AWP.draw [(0,true),(1,true),(2,true),(3,true),(4,true),(5,true),(6,true),(7,true),(8,true),(9,true),(10,false)] [10] mixed (by kernel_rfl) ?_
    iterate 7 refine s1_ ?_
    refine dC (hc:=Calm.toStr ty_bytes_61 ty_str_9 rfl (l:=cur.data.toList) (by rw [size_data];exact hsz) (rds_own (r:=⟨u8T,cellsB cur.data.toList,cd⟩) (b:=bd) own_)) (h:=?_)
    refine dP (hc:=fun _=>Calm.indexS Tryz.underlying22 ty_size_81 rfl rfl (by omega) (by omega)) (h:=?_)
    refine s1_ ?_
    refine draw_only rfl ?_
    refine ARun.store1 rfl rfl ty_size_9 rfl (r:=⟨extT,(mixE kp d.waits d.ext i).flatMap extF,c*2⟩) own_ hcl rfl ?_
    try simp only [k_ms,k_sz,k_ss,k_za,Nat.reduceAdd]
    refine arun_nil ⟨fun h=>absurd h (by decide),?_⟩
    iterate 3 refine s1_ ?_
    refine su_ [(0,_),(1,_),(13,_),(14,_),(15,_),(4,_),(5,_),(6,_),(24,_),(25,_),(26,_),(27,_),(57,_)] ?_
    iterate 5 refine s1_ ?_
    refine ⟨i+1,?_,?_,?_,?_⟩
    all_goals (try dsimp only)
    ·exact ⟨rfl,rfl,rfl,rfl,rfl,trivial⟩
    ·simp only [hmsu];rw [← (hse (x.1,cur)).1,← hfs];exact less_
    ·exact ⟨hc,by simp only [hmsu];exact (hse (x.1,cur)).2⟩
    ·omega
 ·have hc:i=d.ext.length:=by have:=of_decide_eq_false hc;omega
  subst hc
  rw [mixE_all] at hoki hpi
  simp only [mixE_all]
  iterate 10 refine s1_ ?_
  refine ARun.store1 rfl rfl ty_size_23 rfl hpi (show 2<5 from by decide) rfl ?_
  try simp only [k_ms,k_sz,k_ss,k_za,Nat.reduceAdd]
  refine s1_ ?_
  have hfin:(devM S p (settleD d kp) oE none).Less ((devM S p { d with ext:=d.ext.map (doneX kp d.waits) } oE oW).set p ⟨102,[.int .i64 d.size,outV oE (d.ext.map (doneX kp d.waits)).length,.slice none 0 0,.int .i64 d.fuse,.bool d.down],5⟩):=by unfold devM;rw [Mem.set_set];show ((outN 2 S oE extT ((d.ext.map (doneX kp d.waits)).flatMap extF)).set p ⟨102,[.int .i64 d.size,outV oE (d.ext.map (doneX kp d.waits)).length,.slice none 0 0,.int .i64 d.fuse,.bool d.down],5⟩).Less _;exact Less.set (outN_over hoki.dk.w) _ _
  have hap:=hoki.apart
  have hft:=hoki.fits
  refine ⟨_,devM S p (settleD d kp) oE none,rfl,hfin,?_⟩
  exact ⟨rfl,okV_mk ⟨hap.e,(fun b c e=>by cases e),(fun b c b' c' e e'=>by cases e'),hap.p⟩ ⟨hft.e0,fun _=>rfl,hft.e,(fun b c e=>by cases e)⟩,rfl⟩
end Go.Proofs.YtceikpipmcadmaaGreatDoor
namespace Go.Proofs.YtceikpipmcadmaaGreatDoor
open Go.RowKit
open Mv Disk
set_option maxRecDepth 4000
def bools (b : Bool) : List Value := [.bool b]
theorem dev_Sync1 (k : Int) (S : Mem) : ACall Tryz.prog 111 #[.int .i64 k] S fun r S' => r = .bool true ∧ S' = S := by
 refine ACall.enter (rs:=[.tmp 2]) 3 [(0,.int .i64 k)] Tryz.func111 rfl rfl (Nat.le_of_ble_eq_true rfl) rfl ⟨rfl,trivial⟩ ?_
 iterate 5 refine s1_ ?_
 refine su_ [(2,_)] ?_
 iterate 6 refine s1_ ?_
 refine ⟨_,S,⟨_,_,rfl,rfl,rfl⟩,less_,?_⟩
 exact ⟨rfl,rfl⟩
theorem dev_Sync (p : Nat) (d : D) (S : Mem) (oE oW : Option (Nat × Nat)) (hok : OkV S p d oE oW) (hR : Right d) :
  ACall Tryz.prog 61 #[.pointer (some ⟨p,0,none⟩)] (devM S p d oE oW) fun r S'=>∃ oE' oW',OkV S p (settleD d fun _=>true) oE' oW'∧r = .tuple #[]∧S'=devM S p (settleD d fun _=>true) oE' oW':=by
 have h:=dev_settle p d S oE oW hok hR 111 [] go_111 (fun _=>true) (fun k M _ _=>dev_Sync1 k M)
 generalize devM S p d oE oW=M at *
 refine ACall.enter (rs:=[]) 4 [(0,.pointer (some ⟨p,0,none⟩))] Tryz.func61 rfl rfl (Nat.le_of_ble_eq_true rfl) rfl ⟨rfl,trivial⟩ ?_
 iterate 2 refine s1_ ?_
 refine ca_ rfl (h) ?_
 rintro _ S1 ⟨rfl,hok',h1⟩
 rw [h1];clear h1 S1
 refine s1_ ?_
 refine ⟨_,_,rfl,Mem.Less.refl _,?_⟩
 exact ⟨oE,none,hok',rfl,rfl⟩
theorem settle_lens {d : D} (hR : Right d) (kp : Nat → Bool) : (settleD d kp).ext.length ≤ 9223372036854775807 ∧ (settleD d kp).waits.length ≤ 9223372036854775807 := by
 have h:=right_lens hR
 exact ⟨by show (List.map _ _).length≤_;rw [List.length_map];exact h.1,by show (0:Nat)≤_;exact Nat.zero_le _⟩
def syncD (d : D) : D × Int := (settleD d fun _ => true, 0)
set_option maxHeartbeats 1000000 in
theorem disk_Sync (v : Value) (d : D) (S : Mem) (hd : DkR S v d) (hz : Dz d) :
  ACall Tryz.prog 27 #[v] S (DkRes (opened d (syncD d)) S):=by
 have hopen:=disk_Open v d S hd hz
 obtain ⟨pe,ce,pw,cw,rfl,hE,hW⟩:=id hd
 unfold opened
 rcases openD_or d with ⟨ho,hR⟩ | ⟨ho,hR,hdn⟩ | ⟨ho,hR,hdn⟩ <;> rw [ho] at hopen ⊢
 ·rw [if_neg (show ¬ (2:Int)=0 from by decide)]
  refine ACall.enter (rs:=[.cell 2 25,.tmp 3]) 20 [(0,.agg #[.int .i64 d.size,.slice pe d.ext.length ce,.slice pw d.waits.length cw,.int .i64 d.fuse,.bool d.down])] Tryz.func27 rfl rfl (Nat.le_of_ble_eq_true rfl) rfl ⟨rfl,trivial⟩ ?_
  iterate 2 refine s1_ ?_
  refine k_b5 rfl ?_
  intro b1 f1
  have g1:=f1
  repeat ((with_reducible replace g1:=fresh_set g1);obtain ⟨g1,_⟩:=g1)
  refine nl_ ?_
  refine ARun.alloc (lit_lt rfl) ty_zero_25 ?_
  intro b2 f2
  have g2:=f2
  repeat ((with_reducible replace g2:=fresh_set g2);obtain ⟨g2,_⟩:=g2)
  refine nl_ ?_
  iterate 6 refine s1_ ?_
  refine ca_ rfl ((hopen.frame f1).frame f2) ?_
  rintro _ S1 ⟨Sa,⟨M,⟨p,oE,oW,hok,rfl,hM⟩,fa,hSa⟩,fb,h1⟩
  rw [h1,hSa];rw [hSa] at fb;clear h1 S1 hSa Sa
  iterate 7 refine s1_ ?_
  refine su_ [(0,_),(1,_),(2,_),(3,_),(4,_),(5,_)] ?_
  iterate 7 refine s1_ ?_
  refine su_ [(0,_),(1,_),(2,_),(3,_),(4,_),(5,_),(12,_)] ?_
  refine cF_ ?_
  rw [hM] at fa fb ⊢
  iterate 6 refine s1_ ?_
  refine ca_ rfl (((disk_done p D0 2 S oE oW hok (by decide) (by decide)).frame fa).frame fb) ?_
  rintro _ S1 ⟨Sa,⟨M2,⟨v,rfl,hl2,hdk⟩,fc,hSa⟩,fd,h1⟩
  rw [h1,hSa];rw [hSa] at fd;clear h1 S1 hSa Sa
  obtain ⟨qe,de,qw,dw,rfl,_⟩:=id hdk
  obtain ⟨ge,_⟩:=fresh_set fd
  iterate 6 refine s1_ ?_
  refine su_ [(0,_),(1,_),(2,_),(3,_),(4,_),(5,_),(12,_)] ?_
  refine s1_ ?_
  refine ⟨_,M2,⟨_,_,_,rfl,.inr ⟨ty_agg_25,[_,_,_,_,_],ty_size_25,rds_,rfl⟩,⟨_,_,rfl,rfl,rfl⟩,rfl⟩,less_,?_⟩
  exact ⟨_,rfl,hl2,hdk⟩
 ·rw [if_neg (show ¬ (10:Int)=0 from by decide)]
  refine ACall.enter (rs:=[.cell 2 25,.tmp 3]) 20 [(0,.agg #[.int .i64 d.size,.slice pe d.ext.length ce,.slice pw d.waits.length cw,.int .i64 d.fuse,.bool d.down])] Tryz.func27 rfl rfl (Nat.le_of_ble_eq_true rfl) rfl ⟨rfl,trivial⟩ ?_
  iterate 2 refine s1_ ?_
  refine k_b5 rfl ?_
  intro b1 f1
  have g1:=f1
  repeat ((with_reducible replace g1:=fresh_set g1);obtain ⟨g1,_⟩:=g1)
  refine nl_ ?_
  refine ARun.alloc (lit_lt rfl) ty_zero_25 ?_
  intro b2 f2
  have g2:=f2
  repeat ((with_reducible replace g2:=fresh_set g2);obtain ⟨g2,_⟩:=g2)
  refine nl_ ?_
  iterate 6 refine s1_ ?_
  refine ca_ rfl ((hopen.frame f1).frame f2) ?_
  rintro _ S1 ⟨Sa,⟨M,⟨p,oE,oW,hok,rfl,hM⟩,fa,hSa⟩,fb,h1⟩
  rw [h1,hSa];rw [hSa] at fb;clear h1 S1 hSa Sa
  iterate 7 refine s1_ ?_
  refine su_ [(0,_),(1,_),(2,_),(3,_),(4,_),(5,_)] ?_
  iterate 7 refine s1_ ?_
  refine su_ [(0,_),(1,_),(2,_),(3,_),(4,_),(5,_),(12,_)] ?_
  refine cF_ ?_
  rw [hM] at fa fb ⊢
  iterate 6 refine s1_ ?_
  refine ca_ rfl (((disk_done p d 10 S oE oW hok (Nat.le_trans (right_len hR).1 (by decide)) (Nat.le_trans hR.wl (by decide))).frame fa).frame fb) ?_
  rintro _ S1 ⟨Sa,⟨M2,⟨v,rfl,hl2,hdk⟩,fc,hSa⟩,fd,h1⟩
  rw [h1,hSa];rw [hSa] at fd;clear h1 S1 hSa Sa
  obtain ⟨qe,de,qw,dw,rfl,_⟩:=id hdk
  obtain ⟨ge,_⟩:=fresh_set fd
  iterate 6 refine s1_ ?_
  refine su_ [(0,_),(1,_),(2,_),(3,_),(4,_),(5,_),(12,_)] ?_
  refine s1_ ?_
  refine ⟨_,M2,⟨_,_,_,rfl,.inr ⟨ty_agg_25,[_,_,_,_,_],ty_size_25,rds_,rfl⟩,⟨_,_,rfl,rfl,rfl⟩,rfl⟩,less_,?_⟩
  exact ⟨_,rfl,hl2,hdk⟩
 ·rw [if_pos rfl]
  refine ACall.enter (rs:=[.cell 2 25,.tmp 3]) 20 [(0,.agg #[.int .i64 d.size,.slice pe d.ext.length ce,.slice pw d.waits.length cw,.int .i64 d.fuse,.bool d.down])] Tryz.func27 rfl rfl (Nat.le_of_ble_eq_true rfl) rfl ⟨rfl,trivial⟩ ?_
  iterate 2 refine s1_ ?_
  refine k_b5 rfl ?_
  intro b1 f1
  have g1:=f1
  repeat ((with_reducible replace g1:=fresh_set g1);obtain ⟨g1,_⟩:=g1)
  refine nl_ ?_
  refine ARun.alloc (lit_lt rfl) ty_zero_25 ?_
  intro b2 f2
  have g2:=f2
  repeat ((with_reducible replace g2:=fresh_set g2);obtain ⟨g2,_⟩:=g2)
  refine nl_ ?_
  iterate 6 refine s1_ ?_
  refine ca_ rfl ((hopen.frame f1).frame f2) ?_
  rintro _ S1 ⟨Sa,⟨M,⟨p,oE,oW,hok,rfl,hM⟩,fa,hSa⟩,fb,h1⟩
  rw [h1,hSa];rw [hSa] at fb;clear h1 S1 hSa Sa
  iterate 7 refine s1_ ?_
  refine su_ [(0,_),(1,_),(2,_),(3,_),(4,_),(5,_)] ?_
  iterate 7 refine s1_ ?_
  refine su_ [(0,_),(1,_),(2,_),(3,_),(4,_),(5,_),(12,_)] ?_
  refine cT_ ?_
  rw [hM] at fa fb ⊢
  iterate 2 refine s1_ ?_
  refine ca_ rfl (((dev_Sync p d S oE oW hok hR).frame fa).frame fb) ?_
  rintro _ S1 ⟨Sa,⟨M3,⟨oE3,oW3,hok3,rfl,hM3⟩,fa3,hSa⟩,fb3,h1⟩
  rw [h1,hSa];rw [hSa] at fb3;clear h1 S1 hSa Sa;rw [hM3] at fa3 fb3 ⊢
  iterate 2 refine s1_ ?_
  refine su_ [(0,_),(1,_),(2,_),(3,_),(4,_),(5,_),(12,_)] ?_
  iterate 4 refine s1_ ?_
  refine ca_ rfl (((disk_done p _ _ S oE3 oW3 hok3 (settle_lens hR _).1 (settle_lens hR _).2).frame fa3).frame fb3) ?_
  rintro _ S1 ⟨Sa,⟨M2,⟨v,rfl,hl2,hdk⟩,fc,hSa⟩,fd,h1⟩
  rw [h1,hSa];rw [hSa] at fd;clear h1 S1 hSa Sa
  obtain ⟨qe,de,qw,dw,rfl,_⟩:=id hdk
  obtain ⟨ge,_⟩:=fresh_set fd
  iterate 6 refine s1_ ?_
  refine su_ [(0,_),(1,_),(2,_),(3,_),(4,_),(5,_),(12,_)] ?_
  refine s1_ ?_
  refine ⟨_,M2,⟨_,_,_,rfl,.inr ⟨ty_agg_25,[_,_,_,_,_],ty_size_25,rds_,rfl⟩,⟨_,_,rfl,rfl,rfl⟩,rfl⟩,less_,?_⟩
  exact ⟨_,rfl,hl2,hdk⟩
def keepK (l : List Bool) (k : Nat) : Bool := l.getD k false
theorem disk_Crash1 (v : Value) (l : List Bool) (k kb : Nat) (S : Mem) (hl : Sl 1 bools S v l) (hk : S.Knows ⟨kb, 0, none⟩ [v]) (hkl : k ≤ 16384) :
  ACall Tryz.prog 66 #[.int .i64 (k:Int),.pointer (some ⟨kb,0,none⟩)] S fun r S'=>r = .bool (keepK l k)∧S'=S:=by
 obtain ⟨a,cap,rfl,h1,h2,h3⟩:=id hl
 unfold keepK
 by_cases hc:k<l.length
 ·obtain ⟨b,off,rfl,hkk⟩:=h3.resolve_left (fun e=>by subst e;simp at hc)
  have hki:=hkk k hc
  unfold bools at hki
  have e:l.getD k false=l[k]:=by simp [List.getD,List.getElem?_eq_getElem hc]
  rw [e]
  refine ACall.enter (rs:=[.tmp 3]) 14 [(0,.int .i64 (k:Int)),(1,.pointer (some ⟨kb,0,none⟩))] Tryz.func66 rfl rfl (Nat.le_of_ble_eq_true rfl) rfl ⟨rfl,rfl,trivial⟩ ?_
  iterate 20 refine s1_ ?_
  refine su_ [(0,_),(1,_),(3,_)] ?_
  refine s1_ ?_
  refine ⟨_,S,⟨_,_,rfl,rfl,rfl⟩,less_,?_⟩
  exact ⟨rfl,rfl⟩
 ·have e:l.getD k false=false:=by simp [List.getD,List.getElem?_eq_none (Nat.le_of_not_lt hc)]
  rw [e]
  refine ACall.enter (rs:=[.tmp 3]) 14 [(0,.int .i64 (k:Int)),(1,.pointer (some ⟨kb,0,none⟩))] Tryz.func66 rfl rfl (Nat.le_of_ble_eq_true rfl) rfl ⟨rfl,rfl,trivial⟩ ?_
  iterate 20 refine s1_ ?_
  refine su_ [(0,_),(1,_),(3,_)] ?_
  refine s1_ ?_
  refine ⟨_,S,⟨_,_,rfl,rfl,rfl⟩,less_,?_⟩
  exact ⟨rfl,rfl⟩
def upD (d : D) : D := { d with down := false, fuse := -1 }
noncomputable def crashD (d : D) (l : List Bool) : D × Int := if chkD d = 0 then (upD (settleD d (keepK l)), 0) else (D0, 2)
set_option maxHeartbeats 2000000 in
theorem disk_Crash (v vk : Value) (d : D) (l : List Bool) (S : Mem) (hd : DkR S v d) (hz : Dz d) (hl : Sl 1 bools S vk l) :
  ACall Tryz.prog 28 #[v,vk] S (DkRes (crashD d l) S):=by
 have hcheck:=fun M h=>disk_Check v d M h hz
 have hown:=fun M h=>disk_Own v d M h hz.el hz.wl
 obtain ⟨pe,ce,pw,cw,rfl,hE,hW⟩:=id hd
 obtain ⟨pk,ck,rfl,hl1,hl2,hl3⟩:=id hl
 unfold crashD
 rcases chkD_or d with ⟨hk,hR⟩ | ⟨hk,hR⟩
 ·rw [if_pos hk]
  refine ACall.enter (rs:=[.cell 4 25,.tmp 5]) 33 [(0,.agg #[.int .i64 d.size,.slice pe d.ext.length ce,.slice pw d.waits.length cw,.int .i64 d.fuse,.bool d.down]),(1,.slice pk l.length ck)] Tryz.func28 rfl rfl (Nat.le_of_ble_eq_true rfl) rfl ⟨rfl,rfl,trivial⟩ ?_
  iterate 2 refine s1_ ?_
  refine k_b5 rfl ?_
  intro b2 f2
  have g2:=f2
  repeat ((with_reducible replace g2:=fresh_set g2);obtain ⟨g2,_⟩:=g2)
  refine nl_ ?_
  refine ARun.box1 (lit_lt rfl) rfl rfl ?_
  intro b3 f3
  have g3:=f3
  repeat ((with_reducible replace g3:=fresh_set g3);obtain ⟨g3,_⟩:=g3)
  refine nl_ ?_
  refine ARun.alloc (lit_lt rfl) ty_zero_25 ?_
  intro b4 f4
  have g4:=f4
  repeat ((with_reducible replace g4:=fresh_set g4);obtain ⟨g4,_⟩:=g4)
  refine nl_ ?_
  iterate 3 refine s1_ ?_
  obtain ⟨S0,hS0⟩ : ∃ S0,(S.set b2 ⟨25,[.int .i64 d.size,.slice pe d.ext.length ce,.slice pw d.waits.length cw,.int .i64 d.fuse,.bool d.down],5⟩).set b3 ⟨48,[.slice pk l.length ck],1⟩=S0:=⟨_,rfl⟩
  have hSS0:S.Less S0:=by rw [← hS0];exact (Mem.less_set _ _ _ f2.1).trans (Mem.less_set _ _ _ f3.1)
  have kb3:S0.own b3=some ⟨48,[.slice pk l.length ck],1⟩:=by rw [← hS0];exact Mem.own_set_same _ _ _
  have kb2:S0.own b2=some ⟨25,[.int .i64 d.size,.slice pe d.ext.length ce,.slice pw d.waits.length cw,.int .i64 d.fuse,.bool d.down],5⟩:=by rw [← hS0];exact (Mem.own_set_other _ _ (Ne.symm (fresh_set f3).2)).trans (Mem.own_set_same _ _ _)
  rw [hS0] at f4 ⊢
  have hdS:=hd.less hSS0
  have hlS:=hl.less hSS0
  have n2:=f4.ne kb2
  have n3:=f4.ne kb3
  iterate 4 refine s1_ ?_
  refine ca_ rfl (hcheck _ (hdS.less (Mem.less_set _ _ _ f4.1))) ?_
  rintro _ S1 ⟨rfl,h1⟩
  rw [h1,hk];clear h1 S1
  iterate 3 refine s1_ ?_
  refine su_ [(0,_),(1,_),(2,_),(3,_),(4,_),(5,_),(6,_)] ?_
  iterate 6 refine s1_ ?_
  refine su_ [(0,_),(1,_),(2,_),(3,_),(4,_),(5,_),(6,_),(11,_)] ?_
  refine cF_ ?_
  iterate 5 refine s1_ ?_
  refine ca_ rfl ((hown S0 hdS).frame f4) ?_
  rintro _ S1 ⟨M,⟨oE,oW,hok,rfl,hM⟩,f4',h1⟩
  rw [h1];clear h1 S1
  unfold dkV
  obtain ⟨qe,de,hqe⟩:=outV_eq hok.e
  obtain ⟨qw,dw,hqw⟩:=outV_eq hok.w
  rw [hqe,hqw]
  refine s1_ ?_
  refine k_b5 rfl ?_
  intro b17 f17
  have g17:=f17
  repeat ((with_reducible replace g17:=fresh_set g17);obtain ⟨g17,_⟩:=g17)
  refine nl_ ?_
  iterate 3 refine s1_ ?_
  refine su_ [(0,_),(1,_),(2,_),(3,_),(4,_),(5,_),(6,_),(11,_),(7,_)] ?_
  obtain ⟨f17',n17⟩:=fresh_set f17
  have hokV:OkV S0 b17 d oE oW:=⟨hok,by rw [← hM];exact f17'⟩
  have hmm:(M.set b4 ⟨25,[.int .i64 0,.slice none 0 0,.slice none 0 0,.int .i64 0,.bool false],5⟩).set b17 ⟨102,[.int .i64 d.size,.slice qe d.ext.length de,.slice qw d.waits.length dw,.int .i64 d.fuse,.bool d.down],5⟩=(devM S0 b17 d oE oW).set b4 ⟨25,[.int .i64 0,.slice none 0 0,.slice none 0 0,.int .i64 0,.bool false],5⟩:=by rw [Mem.set_comm _ _ _ (Ne.symm n17)];unfold devM;rw [hqe,hqw,← hM]
  rw [hmm]
  have fb4:Fresh (devM S0 b17 d oE oW) b4:=by unfold devM;rw [← hM];exact fresh_more f4' (Ne.symm n17)
  have hset:=dev_settle b17 d S0 oE oW hokV hR 66 [.pointer (some ⟨b3,0,none⟩)] go_66 (keepK l) (fun k M hk hM=>disk_Crash1 _ l k b3 M (hlS.less hM) ((rds_cons (rd_own' (hM.own kb3) rfl) (rds_nil _ _)).knows) (by have:=hR.wl;omega))
  iterate 4 refine s1_ ?_
  refine ca_ rfl (hset.frame fb4) ?_
  rintro _ S1 ⟨M2,⟨rfl,hok2,hM2⟩,fb4',h1⟩
  rw [h1,hM2];rw [hM2] at fb4';clear h1 S1
  have hp6:((devM S0 b17 (settleD d (keepK l)) oE none).set b4 ⟨25,[.int .i64 0,.slice none 0 0,.slice none 0 0,.int .i64 0,.bool false],5⟩).own b17=some ⟨102,[.int .i64 d.size,outV oE (settleD d (keepK l)).ext.length,.slice none 0 0,.int .i64 d.fuse,.bool d.down],5⟩:=(Mem.own_set_other _ _ n17).trans (Mem.own_set_same _ _ _)
  iterate 2 refine s1_ ?_
  refine su_ [(0,_),(1,_),(2,_),(3,_),(4,_),(5,_),(6,_),(11,_),(7,_)] ?_
  iterate 7 refine s1_ ?_
  refine ARun.store1 rfl rfl ty_size_4 rfl hp6 (show 4<5 from by decide) rfl ?_
  try simp only [k_ms,k_sz,k_ss,k_za,Nat.reduceAdd]
  iterate 3 refine s1_ ?_
  refine ARun.store1 rfl rfl ty_size_3 rfl (Mem.own_set_same _ _ _) (show 3<5 from by decide) rfl ?_
  try simp only [k_ms,k_sz,k_ss,k_za,Nat.reduceAdd]
  iterate 2 refine s1_ ?_
  refine su_ [(0,_),(1,_),(2,_),(3,_),(4,_),(5,_),(6,_),(11,_),(7,_)] ?_
  have hok4:OkV S0 b17 (upD (settleD d (keepK l))) oE none:=okV_mk hok2.apart ⟨hok2.fits.e0,fun _=>rfl,hok2.fits.e,(fun b c e=>by cases e)⟩
  refine AWP.less ((devM S0 b17 (upD (settleD d (keepK l))) oE none).set b4 ⟨25,[.int .i64 0,.slice none 0 0,.slice none 0 0,.int .i64 0,.bool false],5⟩) (by unfold devM;rw [Mem.set_comm _ _ _ (Ne.symm n17),Mem.set_set];exact Mem.Less.refl _) ?_
  have fb5:Fresh (devM S0 b17 (upD (settleD d (keepK l))) oE none) b4:=by obtain ⟨q1,q2⟩:=fresh_set fb4';exact fresh_more q1 q2
  iterate 3 refine s1_ ?_
  refine ca_ rfl ((disk_done b17 (upD (settleD d (keepK l))) 0 S0 oE none hok4 (settle_lens hR (keepK l)).1 (settle_lens hR (keepK l)).2).frame fb5) ?_
  rintro _ S1 ⟨M3,⟨v,rfl,hl3',hdk⟩,fc,h1⟩
  rw [h1];clear h1 S1
  obtain ⟨qe2,de2,qw2,dw2,rfl,_⟩:=id hdk
  iterate 6 refine s1_ ?_
  refine su_ [(0,_),(1,_),(2,_),(3,_),(4,_),(5,_),(6,_),(11,_),(7,_)] ?_
  refine s1_ ?_
  refine ⟨_,M3,⟨_,_,_,rfl,.inr ⟨ty_agg_25,[_,_,_,_,_],ty_size_25,rds_,rfl⟩,⟨_,_,rfl,rfl,rfl⟩,rfl⟩,less_,?_⟩
  exact ⟨_,rfl,hSS0.trans hl3',hdk⟩
 ·rw [if_neg (by rw [hk];decide)]
  refine ACall.enter (rs:=[.cell 4 25,.tmp 5]) 33 [(0,.agg #[.int .i64 d.size,.slice pe d.ext.length ce,.slice pw d.waits.length cw,.int .i64 d.fuse,.bool d.down]),(1,.slice pk l.length ck)] Tryz.func28 rfl rfl (Nat.le_of_ble_eq_true rfl) rfl ⟨rfl,rfl,trivial⟩ ?_
  iterate 2 refine s1_ ?_
  refine k_b5 rfl ?_
  intro b2 f2
  have g2:=f2
  repeat ((with_reducible replace g2:=fresh_set g2);obtain ⟨g2,_⟩:=g2)
  refine nl_ ?_
  refine ARun.box1 (lit_lt rfl) rfl rfl ?_
  intro b3 f3
  have g3:=f3
  repeat ((with_reducible replace g3:=fresh_set g3);obtain ⟨g3,_⟩:=g3)
  refine nl_ ?_
  refine ARun.alloc (lit_lt rfl) ty_zero_25 ?_
  intro b4 f4
  have g4:=f4
  repeat ((with_reducible replace g4:=fresh_set g4);obtain ⟨g4,_⟩:=g4)
  refine nl_ ?_
  iterate 7 refine s1_ ?_
  refine ca_ rfl (hcheck _ (hd.less less_)) ?_
  rintro _ S1 ⟨rfl,h1⟩
  rw [h1,hk];clear h1 S1
  iterate 3 refine s1_ ?_
  refine su_ [(0,_),(1,_),(2,_),(3,_),(4,_),(5,_),(6,_)] ?_
  iterate 6 refine s1_ ?_
  refine su_ [(0,_),(1,_),(2,_),(3,_),(4,_),(5,_),(6,_),(11,_)] ?_
  refine cT_ ?_
  iterate 8 refine s1_ ?_
  refine su_ [(0,_),(1,_),(2,_),(3,_),(4,_),(5,_),(6,_),(11,_)] ?_
  iterate 2 refine s1_ ?_
  refine ⟨_,S,⟨_,_,_,rfl,.inr ⟨ty_agg_25,[_,_,_,_,_],ty_size_25,rds_,rfl⟩,⟨_,_,rfl,rfl,rfl⟩,rfl⟩,less_,?_⟩
  exact ⟨_,rfl,Mem.Less.refl _,dkR_zero S⟩
end Go.Proofs.YtceikpipmcadmaaGreatDoor
namespace Go.Proofs.YtceikpipmcadmaaGreatDoor
open Go.RowKit
open Mv Disk
theorem has_no {l : List Ext} {s : ByteArray} : has l s = false ↔ ∀ x ∈ l, x.1 ≠ s := by
 rw [← Bool.not_eq_true,has_iff]
 exact ⟨fun h x hx e=>h ⟨x,hx,e⟩,fun h ⟨x,hx,e⟩=>h x hx e⟩
def dropE (l : List Ext) (s : ByteArray) : List Ext := l.filter fun x => decide (x.1 ≠ s)
/-- A disk without an extent. -/
def lessD (d : D) (s : ByteArray) : D := { d with ext := dropE d.ext s, waits := filt s d.waits }
theorem dropE_none {l : List Ext} {s : ByteArray} (h : has l s = false) : dropE l s = l :=
 List.filter_eq_self.2 fun x hx=>by simpa using has_no.1 h x hx
theorem pos_yes {x : Ext} {l : List Ext} {s : ByteArray} (h : lt x.1 s = true) : pos (x :: l) s = pos l s + 1 := by unfold pos; rw [List.takeWhile_cons, h]; rfl
theorem pos_no {x : Ext} {l : List Ext} {s : ByteArray} (h : lt x.1 s = false) : pos (x :: l) s = 0 := by unfold pos; rw [List.takeWhile_cons, h]; rfl
theorem has_cons (x : Ext) (l : List Ext) (s : ByteArray) : has (x :: l) s = (decide (x.1 = s) || has l s) := rfl
theorem dropE_cons_eq {x : Ext} {l : List Ext} {s : ByteArray} (h : x.1 = s) : dropE (x :: l) s = dropE l s := by
 unfold dropE;rw [List.filter_cons,if_neg (by simpa using h)]
theorem dropE_cons_ne {x : Ext} {l : List Ext} {s : ByteArray} (h : x.1 ≠ s) : dropE (x :: l) s = x :: dropE l s := by
 unfold dropE;rw [List.filter_cons,if_pos (by simpa using h)]
theorem asc_behind {x : Ext} {l : List Ext} (ha : Asc (x :: l)) : ∀ y ∈ l, lt x.1 y.1 = true := (List.pairwise_cons.1 ha).1
theorem asc_has_no {x : Ext} {l : List Ext} (ha : Asc (x :: l)) : has l x.1 = false := has_no.2 fun y hy e => by
 have:=asc_behind ha y hy;rw [e,lt_irrefl] at this;cases this
theorem asc_lt_has {x : Ext} {l : List Ext} {s : ByteArray} (ha : Asc (x :: l)) (h : has l s = true) : lt x.1 s = true := by
 obtain ⟨y,hy,rfl⟩:=has_iff.1 h
 exact asc_behind ha y hy
theorem dropE_erase {l : List Ext} {s : ByteArray} (ha : Asc l) (h : has l s = true) : dropE l s = l.eraseIdx (pos l s) := by
 induction l with
 | nil=>cases h
 | cons x l ih =>
  by_cases e:x.1=s
  ·subst e
   rw [pos_no (lt_irrefl _),dropE_cons_eq rfl,dropE_none (asc_has_no ha)];rfl
  ·rw [has_cons,decide_eq_false e,Bool.false_or] at h
   rw [dropE_cons_ne e,pos_yes (asc_lt_has ha h),ih (asc_tail ha) h];rfl
theorem free_less {d : D} {s : ByteArray} (hR : Right d) (h : has d.ext s = true) : forgetD (eraseD d s) s = lessD d s := by
 unfold forgetD eraseD lessD
 rw [dropE_erase hR.ex.asc h]
theorem filt_wait {d : D} {s : ByteArray} (hR : Right d) (h : has d.ext s = false) : filt s d.waits = d.waits := filt_all fun w hw => isN_no.2 fun e => by
 obtain ⟨x,hx,e1,_⟩:=hR.wr w hw
 exact has_no.1 h x hx (e1.trans e)
/-! ### Writes that are done -/
theorem has_map {f : Ext → Ext} (hf : ∀ x, (f x).1 = x.1) (l : List Ext) (s : ByteArray) : has (l.map f) s = has l s := by
 induction l with
 | nil=>rfl
 | cons x l ih=>rw [List.map_cons,has_cons,has_cons,ih,hf]
theorem asc_map {f : Ext → Ext} (hf : ∀ x, (f x).1 = x.1) {l : List Ext} (h : Asc l) : Asc (l.map f) := by
 unfold Asc at *
 rw [List.pairwise_map]
 exact h.imp fun {a b} q=>by rw [hf,hf];exact q
end Go.Proofs.YtceikpipmcadmaaGreatDoor
namespace Go.Proofs.YtceikpipmcadmaaGreatDoor
open Go.RowKit
open Mv Disk
set_option maxRecDepth 4000
theorem rd_Named (s : ByteArray) (S : Mem) : ACall Tryz.prog 133 #[.string s] S fun r S' => r = .bool (decide (nm s)) ∧ S' = S := by
 by_cases h0:s.size=0
 ·have e:s=ByteArray.empty:=(size0 s).2 h0
  refine ACall.enter (rs:=[.tmp 2]) 10 [(0,.string s)] Tryz.func133 rfl rfl (Nat.le_of_ble_eq_true rfl) rfl ⟨rfl,trivial⟩ ?_
  iterate 8 refine s1_ ?_
  refine rC (Calm.bin rfl rfl (bin_bool (bin_str_neq _ _) (bnot_dec_false e))) ?_
  iterate 8 refine s1_ ?_
  refine su_ [(0,_),(2,_)] ?_
  refine s1_ ?_
  refine ⟨_,S,⟨_,_,rfl,rfl,rfl⟩,less_,?_⟩
  exact ⟨congrArg Value.bool (decide_eq_false (fun h=>h.1 h0)).symm,rfl⟩
 ·have e : ¬ s=ByteArray.empty:=fun h=>h0 ((size0 s).1 h)
  refine ACall.enter (rs:=[.tmp 2]) 10 [(0,.string s)] Tryz.func133 rfl rfl (Nat.le_of_ble_eq_true rfl) rfl ⟨rfl,trivial⟩ ?_
  iterate 8 refine s1_ ?_
  refine rC (Calm.bin rfl rfl (bin_bool (bin_str_neq _ _) (bnot_dec_true e))) ?_
  iterate 8 refine s1_ ?_
  refine su_ [(0,_),(2,_)] ?_
  refine s1_ ?_
  refine ⟨_,S,⟨_,_,rfl,rfl,rfl⟩,less_,?_⟩
  exact ⟨congrArg Value.bool (decide_eq_decide.2 (by unfold nm;omega)),rfl⟩
end Go.Proofs.YtceikpipmcadmaaGreatDoor
namespace Go.Proofs.YtceikpipmcadmaaGreatDoor
open Go.RowKit
open Mv Disk
set_option maxRecDepth 4000
theorem rds_ownE {S : Mem} {b : Nat} {r : Blk} {cs : List Value} (h : S.own b = some r) (e : r.cells = cs) : S.rds ⟨b, 0, none⟩ cs := by rw [← e]; exact rds_own h
end Go.Proofs.YtceikpipmcadmaaGreatDoor
namespace Go.Proofs.YtceikpipmcadmaaGreatDoor
open Go.RowKit
namespace Mv
section
variable {P : Program} {N : Nat} {l : List Oper} {W : List Nat} {S0 : Mem} {K : Env → Mem → Prop}
/-- From here on, whatever comes up. -/
def DG (P : Program) (N : Nat) (l : List Oper) (W : List Nat) (S0 : Mem) (K : Env → Mem → Prop) (n : Nat) (listed : Array Bool) (E : Env) (S : Mem) : Prop :=
  ∀ w0 a w, Closed l.toArray listed → Good N E a → View S w → Step S0 w0 S w → wpAnyG P l.toArray (Q0 N K S0 w0) (fun i => W.contains i) (View S0) n listed a w
theorem DG.nil {listed : Array Bool} {E : Env} {S : Mem} (hr : Region.ready .any l.toArray listed = []) (h : K E S) : DG P N l W S0 K 0 listed E S :=
 fun w0 a w _ g hv hs=>⟨hr,E,S,h,g,hs⟩
/-- Each of those that may come up. -/
theorem DG.fork {n : Nat} {listed : Array Bool} {E : Env} {S : Mem} (is : List Nat) (hr : (Region.ready .any l.toArray listed == is) = true) (hne : is ≠ [])
  (h:∀ i ∈ is,∃ o,l[i]?=some o∧AOp P N l.toArray o (fun E' S'=>(W.contains i=false→S0.Less S')∧DG P N l W S0 K n (listed.setIfInBounds i true) E' S') E S):DG P N l W S0 K (n+1) listed E S:=fun w0 a w hcl g hv hs=>by
 have hr:=beq_iff_eq.1 hr
 refine ⟨fun h0=>absurd (hr.symm.trans h0) hne,fun j hj=>?_⟩
 have hj':=hj
 rw [hr] at hj
 obtain ⟨o,ho,hop⟩:=h j hj
 have h1:=hop a w g hv
 unfold wpOp
 have ho':l.toArray[j]?=some o:=by simpa using ho
 simp only [ho']
 have next:∀ a1 w1,Post N (fun E' S'=>(W.contains j=false→S0.Less S')∧DG P N l W S0 K n (listed.setIfInBounds j true) E' S') S w a1 w1→(W.contains j=false→View S0 w→View S0 w1)∧wpAnyG P l.toArray (Q0 N K S0 w0) (fun i=>W.contains i) (View S0) n (listed.setIfInBounds j true) a1 w1:=fun a1 w1 ⟨E1,S1,⟨k1,k2⟩,g1,s1⟩ =>
  ⟨fun hw _=>s1.view.less (k1 hw),k2 w0 a1 w1 (closed_put hcl hj') g1 s1.view (hs.trans s1)⟩
 split
 ·rename_i hw;rw [if_pos hw] at h1
  exact .inl (upon_noQ (Oper.wp_mono next h1))
 ·rename_i hw;rw [if_neg hw] at h1
  exact next _ _ h1
theorem DG.fork1 {n : Nat} {listed : Array Bool} {E : Env} {S : Mem} (i : Nat) (hr : (Region.ready .any l.toArray listed == [i]) = true)
  (h:∃ o,l[i]?=some o∧AOp P N l.toArray o (fun E' S'=>(W.contains i=false→S0.Less S')∧DG P N l W S0 K n (listed.setIfInBounds i true) E' S') E S):DG P N l W S0 K (n+1) listed E S :=
 DG.fork [i] hr (by simp) fun j hj=>by
  have e:j=i:=by simpa using hj
  rw [e];exact h
theorem DG.fork2 {n : Nat} {listed : Array Bool} {E : Env} {S : Mem} (i j : Nat) (hr : (Region.ready .any l.toArray listed == [i, j]) = true)
  (h:∃ o,l[i]?=some o∧AOp P N l.toArray o (fun E' S'=>(W.contains i=false→S0.Less S')∧DG P N l W S0 K n (listed.setIfInBounds i true) E' S') E S)
  (k:∃ o,l[j]?=some o∧AOp P N l.toArray o (fun E' S'=>(W.contains j=false→S0.Less S')∧DG P N l W S0 K n (listed.setIfInBounds j true) E' S') E S):DG P N l W S0 K (n+1) listed E S :=
 DG.fork [i,j] hr (by simp) fun q hq=>by
  rcases List.mem_cons.1 hq with rfl | hq
  ·exact h
  ·obtain rfl:q=j:=by simpa using hq
   exact k
/-- One that only looks is taken first. -/
theorem DG.first {n : Nat} {listed : Array Bool} {E : Env} {S : Mem} (i : Nat) (hsel : Region.noSelect l.toArray = true) (hc1 : mayFirst l W listed i = true)
  (h:∃ o d v,l[i]?=some o∧o.dst=some d∧d<N∧(pureOp o=true∨S0.Less S)∧ACalmG P N l.toArray o E (if pureOp o then noMem else S0) v∧DG P N l W S0 K n (listed.setIfInBounds i true) ((d,v) :: E) S):DG P N l W S0 K (n+1) listed E S:=fun w0 a w hcl g hv hs=>by
 obtain ⟨o,d,v,ho,hd,hn,hless,hcalm,hrest⟩:=h
 simp only [mayFirst,Bool.and_eq_true,Bool.or_eq_true] at hc1
 obtain ⟨⟨hr,hf⟩,hp⟩:=hc1
 have ho':l.toArray[i]?=some o:=by simpa using ho
 have hri:i ∈ Region.ready .any l.toArray listed:=by simpa using hr
 let D:World→Prop:=fun w'=>if pureOp o=true then True else View S0 w'
 have hDw:D w:=by
  simp only [D]
  split
  ·trivial
  ·rename_i hx
   exact hv.less (hless.resolve_left hx)
 have hmem:∀ w',D w'→View (if pureOp o then noMem else S0) w':=fun w' h=>by
  simp only [D] at h
  split
  ·exact view_noMem _
  ·rename_i hx;rw [if_neg hx] at h;exact h
 refine wpAnyG_first (D:=D) (v:=v) ho' (Region.noSelect_spec hsel) (fun c a w h=>h) ?_ n listed a w hcl (Region.free_spec ho' hf) hri ?_ hDw ?_
 ·intro j w1 w2 listed' hcl' hun hj hD1 hpres
  simp only [D] at hD1 ⊢
  split
  ·trivial
  ·rename_i hx
   rw [if_neg hx] at hD1
   refine hpres ?_ hD1
   rcases hp with hp | hp
   ·rw [ho] at hp;exact absurd (by simpa using hp) hx
   ·cases hwc:W.contains j with
    | false=>rfl
    | true =>
     have h1:=List.all_eq_true.1 hp j (by simpa using hwc)
     obtain ⟨hju,oj,hoj,hall⟩:=mem_ready.1 hj
     have h2:=waitsFor_spec h1 listed' hcl' fun o2 ho2 e he hb=>by
      obtain rfl:oj=o2:=Option.some.inj (hoj.symm.trans ho2)
      exact hall e he hb
     rcases Nat.lt_or_ge i listed'.size with hlt | hge
     ·simp [hlt] at hun h2;rw [hun] at h2;cases h2
     ·simp [Array.getElem?_eq_none hge] at h2
 ·by_cases hw:Region.wanted o (yielded l.toArray a.tmps)=true
  ·refine .inl ⟨hw,fun w' hD'=>?_⟩
   rcases hcalm a w' g (hmem w' hD') with h1 | h1
   ·exact h1.2
   ·rw [hw] at h1;cases h1.1
  ·rcases hcalm a w g (hmem w hDw) with h1 | h1
   ·exact absurd h1.1 hw
   ·exact .inr h1
 ·rw [hd]
  exact hrest w0 _ w (closed_put hcl hri) (g.put hn v) hv hs
theorem DG.pure {n : Nat} {listed : Array Bool} {E : Env} {S : Mem} {o : Oper} {d : Nat} {v : Value} (i : Nat) (hsel : Region.noSelect l.toArray = true) (hc1 : mayFirst l W listed i = true) (ho : l[i]? = some o) (hp : pureOp o = true) (hg : o.guard = none) (hd : o.dst = some d) (hn : d < N)
  (hc:∀ S',ACalm P N o E S' v) (h:DG P N l W S0 K n (listed.setIfInBounds i true) ((d,v) :: E) S):DG P N l W S0 K (n+1) listed E S :=
 DG.first i hsel hc1 ⟨o,d,v,ho,hd,hn,.inl hp,fun a w g hv=>.inl ⟨by simp [Region.wanted,hg],hc _ a w g hv⟩,h⟩
theorem DG.look {n : Nat} {listed : Array Bool} {E : Env} {S : Mem} {o : Oper} {d : Nat} {v : Value} (i : Nat) (hsel : Region.noSelect l.toArray = true) (hc1 : mayFirst l W listed i = true) (ho : l[i]? = some o) (hp : pureOp o = false) (hg : o.guard = none) (hd : o.dst = some d) (hn : d < N) (hl : S0.Less S)
  (hc:ACalm P N o E S0 v) (h:DG P N l W S0 K n (listed.setIfInBounds i true) ((d,v) :: E) S):DG P N l W S0 K (n+1) listed E S :=
 DG.first i hsel hc1 ⟨o,d,v,ho,hd,hn,.inr hl,fun a w g hv=>.inl ⟨by simp [Region.wanted,hg],by rw [hp] at hv;exact hc a w g hv⟩,h⟩
theorem DG.only {n : Nat} {listed : Array Bool} {E : Env} {S : Mem} {o : Oper} (i : Nat) (hr : (Region.ready .any l.toArray listed == [i]) = true) (ho : l[i]? = some o)
  (h:ARun P N l.toArray [o] (fun E' S'=>(W.contains i=false→S0.Less S')∧DG P N l W S0 K n (listed.setIfInBounds i true) E' S') E S):DG P N l W S0 K (n+1) listed E S:=DG.fork1 i hr ⟨o,ho,h⟩
theorem DG.two {n : Nat} {listed : Array Bool} {E : Env} {S : Mem} {o o' : Oper} (i j : Nat) (hr : (Region.ready .any l.toArray listed == [i, j]) = true) (ho : l[i]? = some o)
  (h:ARun P N l.toArray [o] (fun E' S'=>(W.contains i=false→S0.Less S')∧DG P N l W S0 K n (listed.setIfInBounds i true) E' S') E S) (ho':l[j]?=some o')
  (h':ARun P N l.toArray [o'] (fun E' S'=>(W.contains j=false→S0.Less S')∧DG P N l W S0 K n (listed.setIfInBounds j true) E' S') E S):DG P N l W S0 K (n+1) listed E S:=DG.fork2 i j hr ⟨o,ho,h⟩ ⟨o',ho',h'⟩
theorem DG.end_ {listed : Array Bool} {E : Env} {S : Mem} (hr : (Region.ready .any l.toArray listed).isEmpty = true) (h : K E S) : DG P N l W S0 K 0 listed E S := DG.nil (by simpa using hr) h
theorem AWP.drawG {id : Nat} {Q : Exit → Env → Mem → Prop} {E : Env} {S : Mem} (W : List Nat) (hm : P.follows .mixedOrders = true)
  (h:DG P N l W S (Q .normal) l.length (Array.replicate l.length false) E S):AWP P N (.region id l.toArray true) Q E S:=fun a w g hv=>by
 refine wp_mono (Q:=Q0 N (Q .normal) S w) ?_ (fun e a' w' x=>by cases e <;> first | exact x | exact x.elim)
 refine wp_region_any hm ?_
 refine wpAny_of_G (W:=fun i=>W.contains i) (C:=View S) _ _ _ _ ?_
 have hst:Step S w S { w with drawn:=w.drawn+1 }:=Step.drawn hv _
 have:=h w a _ (closed_start _ _) g hst.view hst
 simpa using this
end
end Mv
end Go.Proofs.YtceikpipmcadmaaGreatDoor
namespace Go.Proofs.YtceikpipmcadmaaGreatDoor
open Go.RowKit
open Mv Disk
set_option maxRecDepth 4000
section
variable {P : Program} {N : Nat} {E : Env} {S : Mem} {dst : Option Nat} {ty : TypeId} {pos : String} {aft : Array Edge} {gd : Option (Nat × Bool)}
end
theorem Mv.AppN.lessL {n : Nat} {M S S' : Mem} {o : Option (Nat × Nat)} {e : TypeId} {cs : List Value} (h : AppN n M S o e cs) (hl : S'.Less S) : AppN n M S' o e cs :=
 ⟨fun ho=>⟨(h.nil ho).1,hl.trans (h.nil ho).2⟩,fun b c ho=>⟨(h.own b c ho).1,hl.trans (h.own b c ho).2⟩⟩
end Go.Proofs.YtceikpipmcadmaaGreatDoor
namespace Go.Proofs.YtceikpipmcadmaaGreatDoor
open Go.RowKit
open Mv Disk
set_option maxRecDepth 4000
theorem Mv.OkO.lessL {S T : Mem} {o : Option (Nat × Nat)} {n : Nat} (h : OkO T o n) (hl : S.Less T) : OkO S o n :=
 ⟨h.nil,fun q c e=>⟨⟨(by
  have h1:=(h.own q c e).1.1
  cases hs:S.own q with
  | none=>rfl
  | some r=>rw [hl.1 q r hs] at h1;cases h1),fun a v ha=>(h.own q c e).1.2 a v (by rw [← hl.2];exact ha)⟩,(h.own q c e).2⟩⟩
end Go.Proofs.YtceikpipmcadmaaGreatDoor
namespace Go.Proofs.YtceikpipmcadmaaGreatDoor
open Go.RowKit
open Mv Disk
set_option maxRecDepth 4000

theorem frees_cons (d0 d : D) (s : ByteArray) (l : List ByteArray) : freesD d0 d (s :: l) = if has d.ext s = true then freesD d0 (forgetD (eraseD d s) s) l else (d0, 3) := by
 rw [freesD]
 unfold freeD
 by_cases q:has d.ext s=true
 ·rw [if_pos q,if_pos q];rfl
 ·rw [if_neg q,if_neg q];rfl
end Go.Proofs.YtceikpipmcadmaaGreatDoor
namespace Go.Proofs.YtceikpipmcadmaaGreatDoor
open Go.RowKit Go.Shelf
open Mv Disk
attribute [local go_sem] Oper.semAt_some
def upto {α : Type} (f : Nat → α) (k : Nat) : List α := (List.range k).map f
theorem upto_succ' {α : Type} (f : Nat → α) (k : Nat) : upto f (k + 1) = upto f k ++ [f k] := by simp [upto, List.range_succ]
theorem upto_length' {α : Type} (f : Nat → α) (k : Nat) : (upto f k).length = k := by simp [upto]
def w0 : Wr := (ByteArray.empty, 0, ByteArray.empty)
/-- What is told in round j of so many: the index, the write. -/
def backF (l : List Wr) (j : Nat) : Nat × Wr := (l.length - 1 - j, l.getD (l.length - 1 - j) w0)
def wrV (w : Wr) : Value := .agg #[.string w.1, .int .i64 w.2.1, .string w.2.2]
set_option maxRecDepth 100000 in
set_option maxHeartbeats 2000000 in
theorem back1_in (F : Fence) (n : Nat) (h8 : F.fn 147) (hro : F.round = none) (hn : 1 ≤ n) (l Bs n₀ b off cap : Nat) (zs : List Wr) (hreach : zs.length ≤ 16384) (hb : b < n₀) (hBn : Bs < n₀) (J Jx : List (Nat × Wr) → World → Prop)
  (hY:∀ pre x W,J pre W→pre.length<zs.length→YieldAt F (n-1) Tryz.prog l #[.int .i64 (x.1:Int),wrV x.2] W fun e W' =>
   (e = .returned (.bool true)∧J (pre ++ [x]) W'∧Below n₀ W W')∨(e = .returned (.bool false)∧Jx (pre ++ [x]) W'))
  (W:World) (hBs:W.cell? ⟨Bs,0,none⟩=some (.slice (some ⟨b,off,none⟩) zs.length cap)) (hc:∀ j (h:j<zs.length) q v,(wrF zs[j])[q]?=some v→W.cell? ⟨b,off+j*3+q,none⟩=some v) (h0:J [] W) :
  CallsIn F n Tryz.prog 147 #[.func (.yield l) #[] #[],.pointer (some ⟨Bs,0,none⟩)] W fun e W'=>(∃ v,e = .returned v) ∧
   ((∃ ys,ys=upto (backF zs) zs.length∧J ys W')∨(∃ pre,(∃ k,k≤zs.length∧pre=upto (backF zs) k)∧Jx pre W')):=by
 refine callsIn_of_wp Tryz.func147 rfl h8 ?_ hro
 simp only [Tryz.ntmps147,List.size_toArray,List.length_cons,List.length_nil,Nat.reduceAdd,Nat.reduceSub,Array.replicate_succ,Array.replicate_zero,List.push_toArray,List.append_toArray,List.nil_append,List.cons_append]
 gi_wp2
 gi_loopw [3] (fun i wr=>∃ k:Nat,k≤zs.length∧i = .int .i64 ((zs.length:Int)-1-k)∧J (upto (backF zs) k) wr∧Below n₀ W wr)
  (fun i _=>(intOf i+1).toNat)
 case atStart=>exact ⟨0,Nat.zero_le _,by simp,h0,Below.refl _ _⟩
 case round =>
  obtain ⟨k,hk,rfl,hJs,hnx⟩:=hrel
  by_cases hlt:k<zs.length
  ·obtain ⟨m,hm⟩ : ∃ m,zs.length-1-k=m:=⟨_,rfl⟩
   have hml:m<zs.length:=by omega
   have hm':(zs.length:Int)-1-k=m:=by omega
   have hbk:backF zs k=(m,zs[m]):=by unfold backF;rw [hm];simp [List.getD,List.getElem?_eq_getElem hml]
   obtain ⟨fn,tmps,assign,body,hy,hR⟩:=hY _ (backF zs k) wr hJs (by rw [upto_length'];exact hlt)
   rw [hbk] at hy hR
   dsimp only [wrV] at hy
   rw [hm']
   have hcx:∀ q v,(wrF zs[m])[q]?=some v→wr.cell? ⟨b,off+m*3+q,none⟩=some v:=fun q v hq=>(hnx.cell (p:=⟨b,off+m*3+q,none⟩) hb).trans (hc m hml q v hq)
   have hc0:wr.cell? ⟨b,off+m*3,none⟩=some (.string zs[m].1):=hcx 0 _ rfl
   have hc1:wr.cell? ⟨b,off+m*3+1,none⟩=some (.int .i64 zs[m].2.1):=hcx 1 _ rfl
   have hc2:wr.cell? ⟨b,off+m*3+2,none⟩=some (.string zs[m].2.2):=hcx 2 _ rfl
   have hBs':=(hnx.cell (p:=⟨Bs,0,none⟩) hBn).trans hBs
   gi_wp2
   refine hR.mono ?_
   rintro e W3 (⟨rfl,hJ3,hk3⟩ | ⟨rfl,hJx3⟩)
   ·gi_wp2
    go_roundw
    case rel=>exact ⟨k+1,by omega,by simp;omega,by rw [upto_succ',hbk];exact hJ3,hnx.trans hk3⟩
    case measure=>simp [intOf]
   ·gi_wp2
    refine bodyPost_ret (results_none rfl _ _ _) rfl ?_
    exact ⟨⟨_,rfl⟩,.inr ⟨_,⟨k+1,by omega,by rw [upto_succ',hbk]⟩,hJx3⟩⟩
  ·obtain rfl:k=zs.length:=by omega
   have e1:(zs.length:Int)-1-zs.length = -1:=by omega
   rw [e1]
   gi_wp2
   go_end0
   exact ⟨⟨_,rfl⟩,.inl ⟨_,rfl,hJs⟩⟩
set_option maxRecDepth 100000 in
set_option maxHeartbeats 1000000 in
theorem back1_nil_in (F : Fence) (n : Nat) (h8 : F.fn 147) (hro : F.round = none) (l Bs : Nat) (A : Option Addr) (cap : Nat) (J : List (Nat × Wr) → World → Prop) (W : World) (hBs : W.cell? ⟨Bs, 0, none⟩ = some (.slice A 0 cap)) (h0 : J [] W) :
  CallsIn F n Tryz.prog 147 #[.func (.yield l) #[] #[],.pointer (some ⟨Bs,0,none⟩)] W fun e W'=>(∃ v,e = .returned v)∧J [] W':=by
 refine callsIn_of_wp Tryz.func147 rfl h8 ?_ hro
 simp only [Tryz.ntmps147,List.size_toArray,List.length_cons,List.length_nil,Nat.reduceAdd,Nat.reduceSub,Array.replicate_succ,Array.replicate_zero,List.push_toArray,List.append_toArray,List.nil_append,List.cons_append]
 gi_wp2
 gi_loopw [3] (fun i wr=>i = .int .i64 (-1)∧J [] wr) (fun _ _=>0)
 case atStart=>exact ⟨rfl,h0⟩
 case round =>
  obtain ⟨rfl,hJs⟩:=hrel
  gi_wp2
  go_end0
  exact ⟨⟨_,rfl⟩,hJs⟩
set_option maxHeartbeats 1000000 in
theorem back_in (F : Fence) (n : Nat) (h5 : F.fn 110) (hro : F.round = none) (a : Option Addr) (len cap : Nat) (w : World) :
  CallsIn F n Tryz.prog 110 #[.slice a len cap] w fun e w'=>e = .returned (.func (.func 147) #[] #[.pointer (some ⟨w.heap.size,0,none⟩)])∧w'=w.alloc (.cells #[.slice a len cap] 23):=by
 refine callsIn_of_wp Tryz.func110 rfl h5 ?_ hro
 simp only [Tryz.ntmps110,List.size_toArray,List.length_cons,List.length_nil,Nat.reduceAdd,Nat.reduceSub,Array.replicate_succ,Array.replicate_zero,List.push_toArray,List.append_toArray,List.nil_append,List.cons_append]
 gi_wp2
 go_ret
 exact ⟨rfl,rfl⟩
/-- Of what waits, in a block below n₀. -/
def Waits (n₀ : Nat) (W : World) (sv : Value) (zs : List Wr) : Prop :=
  ∃ A cap, sv = .slice A zs.length cap ∧ (zs = [] ∨ ∃ b off, A = some ⟨b, off, none⟩ ∧ b < n₀ ∧ ∀ j (h : j < zs.length) q v, (wrF zs[j])[q]? = some v → W.cell? ⟨b, off + j * 3 + q, none⟩ = some v)
theorem Waits.below {n₀ : Nat} {A B : World} (h : Below n₀ A B) {sv : Value} {zs : List Wr} (hw : Waits n₀ A sv zs) : Waits n₀ B sv zs := by
 obtain ⟨a,cap,e,h1⟩:=hw
 exact ⟨a,cap,e,h1.imp id fun ⟨b,off,e1,hb,hc⟩=>⟨b,off,e1,hb,fun j hj q v hq=>(h.cell (p:=⟨b,off+j*3+q,none⟩) hb).trans (hc j hj q v hq)⟩⟩
theorem back_stops (F : Fence) (n : Nat) (h8 : F.fn 147) (hro : F.round = none) (hn : 1 ≤ n) (Bs n₀ : Nat) (sv : Value) (zs : List Wr) (hreach : zs.length ≤ 16384) (w : World) (hBs : Bs < n₀) (hn₀ : n₀ ≤ w.heap.size)
  (hc:w.cell? ⟨Bs,0,none⟩=some sv) (hI:Waits n₀ w sv zs) :
  SeqStopsK F n Tryz.prog 147 #[.pointer (some ⟨Bs,0,none⟩)] (fun x:Nat × Wr=>#[Value.int .i64 (x.1:Int),wrV x.2]) (Below n₀) (fun ys=>ys=upto (backF zs) zs.length) (fun pre=>∃ k,k≤zs.length∧pre=upto (backF zs) k) zs.length w:=fun l J Jx W hW _ _ hY h0=>by
 have hWn:=hW.mono hn₀
 have hc':=(hWn.cell (p:=⟨Bs,0,none⟩) hBs).trans hc
 obtain ⟨A,cap,rfl,h1⟩:=hI.below hWn
 rcases h1 with rfl | ⟨b,off,rfl,hb,hcs⟩
 ·exact (back1_nil_in F n h8 hro l Bs A cap J W hc' h0).mono fun e W' ⟨he,hj⟩=>⟨he,.inl ⟨_,rfl,hj⟩⟩
 ·refine (back1_in F n h8 hro hn l Bs n₀ b off cap zs hreach hb hBs J Jx hY W hc' hcs h0).mono ?_
  rintro e W' ⟨he,⟨ys,rfl,hj⟩ | ⟨pre,⟨k,hk,rfl⟩,hj⟩⟩
  ·exact ⟨he,.inl ⟨_,rfl,hj⟩⟩
  ·exact ⟨he,.inr ⟨_,⟨k,hk,rfl⟩,hj⟩⟩
end Go.Proofs.YtceikpipmcadmaaGreatDoor
namespace Go.Proofs.YtceikpipmcadmaaGreatDoor
open Go.RowKit
open Mv Disk
def hit (s : ByteArray) (k : Int) (y : Nat × Wr) : Bool := y.2.2.1 == k && (y.2.1.toList == s.toList)
def lastW (l : List Wr) (s : ByteArray) (k : Int) : Option (Nat × Wr) := (upto (backF l) l.length).find? (hit s k)
def readD (d : D) (s : ByteArray) (k : Int) : ByteArray × Int :=
  if (placeD d s k).2 ≠ 0 then (ByteArray.empty, (placeD d s k).2) else match lastW d.waits s k with
    | some y => (y.2.2.2, 0)
    | none => ((exOf d.ext s).2.extract (64 * k.toNat) (64 * k.toNat + 64), 0)
/-- What is seen when so many of the writes (of these) have been met. -/
def seeW (kp : Nat → Bool) (l : List Wr) (s : ByteArray) (k : Int) (b : ByteArray) : Nat → ByteArray
  | 0 => b
  | n + 1 => match l[n]? with
    | some w => if w.1 = s ∧ w.2.1 = k ∧ kp n = true then w.2.2 else seeW kp l s k b n
    | none => seeW kp l s k b n
theorem seeW_succ (kp : Nat → Bool) (l : List Wr) (s : ByteArray) (k : Int) (b : ByteArray) {n : Nat} (h : n < l.length) : seeW kp l s k b (n + 1) = if l[n].1 = s ∧ l[n].2.1 = k ∧ kp n = true then l[n].2.2 else seeW kp l s k b n := by
 rw [seeW,List.getElem?_eq_getElem h]
def allK : Nat → Bool := fun _ => true
def revN (l : List Wr) (n : Nat) : List (Nat × Wr) := (List.range n).reverse.map fun i => (i, l.getD i w0)
theorem upto_rev (l : List Wr) : upto (backF l) l.length = revN l l.length := by
 unfold upto revN
 refine List.ext_getElem (by simp) fun i h1 h2=>?_
 simp only [List.length_map,List.length_range] at h1
 simp [backF,List.getElem_reverse]
theorem revN_succ (l : List Wr) (n : Nat) : revN l (n + 1) = (n, l.getD n w0) :: revN l n := by
 unfold revN;rw [List.range_succ,List.reverse_append];rfl
theorem toList_inj' {a b : ByteArray} : (a.toList == b.toList) = decide (a = b) := by
 rw [Bool.eq_iff_iff,beq_iff_eq,decide_eq_true_eq]
 exact ⟨fun h=>str_ext (by rw [← Lib.toList_data,← Lib.toList_data];exact h),fun h=>by rw [h]⟩
theorem find_see (l : List Wr) (s : ByteArray) (k : Int) (b : ByteArray) : ∀ n, n ≤ l.length → (match (revN l n).find? (hit s k) with | some y => y.2.2.2 | none => b) = seeW allK l s k b n
 | 0,_=>rfl
 | n+1,h=>by
  rw [revN_succ,seeW_succ _ _ _ _ _ (by omega),List.find?_cons]
  have e:l.getD n w0=l[n]:=by simp [List.getD,List.getElem?_eq_getElem (show n<l.length by omega)]
  have eh:hit s k (n,l.getD n w0)=decide (l[n].1=s∧l[n].2.1=k∧allK n=true):=by
   rw [e];unfold hit allK
   rw [toList_inj',Bool.eq_iff_iff];simp [and_comm]
  rw [eh]
  by_cases q:l[n].1=s∧l[n].2.1=k∧allK n=true
  ·rw [if_pos q,decide_eq_true q,e]
  ·rw [if_neg q,decide_eq_false q];exact find_see l s k b n (by omega)
/-- What is seen, in plain words. -/
def seen (d : D) (s : ByteArray) (k : Int) : ByteArray := seeW allK d.waits s k ((exOf d.ext s).2.extract (64 * k.toNat) (64 * k.toNat + 64)) d.waits.length
theorem readD_see (d : D) (s : ByteArray) (k : Int) : readD d s k = if (placeD d s k).2 ≠ 0 then (ByteArray.empty, (placeD d s k).2) else (seen d s k, 0) := by
 unfold readD seen
 by_cases q:(placeD d s k).2≠0
 ·rw [if_pos q,if_pos q]
 ·rw [if_neg q,if_neg q,← find_see _ _ _ _ _ (Nat.le_refl _)]
  unfold lastW
  rw [upto_rev]
  cases (revN d.waits d.waits.length).find? (hit s k) <;> rfl
/-! ### A sector of what was done -/
theorem ba_extract_bs (x : ByteArray) (i j : Nat) : x.extract i j = bs ((x.data.toList.take j).drop i) := by
 apply str_ext
 rw [bs_data,ByteArray.data_extract,Array.toList_extract,List.extract_eq_take_drop,List.drop_take]
theorem cut_other {α : Type} (X W : List α) (m k : Nat) (hW : W.length = 64) (hm : 64 * m + 64 ≤ X.length) (hk : 64 * k + 64 ≤ X.length) : ((X.take (64 * m) ++ W ++ X.drop (64 * m + 64)).take (64 * k + 64)).drop (64 * k) = if m = k then W else (X.take (64 * k + 64)).drop (64 * k) := by
 apply List.ext_getElem?
 intro i
 by_cases e:m=k
 ·subst e
  rw [if_pos rfl,List.getElem?_drop,List.getElem?_take]
  by_cases hi:i<64
  ·rw [if_pos (by omega),List.getElem?_append_left (by simp;omega),List.getElem?_append_right (by simp;omega)]
   congr 1;simp;omega
  ·rw [if_neg (by omega),List.getElem?_eq_none (by omega)]
 ·rw [if_neg e,List.getElem?_drop,List.getElem?_take,List.getElem?_drop,List.getElem?_take]
  by_cases hi:i<64
  ·rw [if_pos (by omega),if_pos (by omega)]
   rcases Nat.lt_or_ge k m with q | q
   ·rw [List.getElem?_append_left (by simp;omega),List.getElem?_append_left (by simp;omega),List.getElem?_take,if_pos (by omega)]
   ·rw [List.getElem?_append_right (by simp;omega),List.getElem?_drop]
    congr 1;simp;omega
  ·rw [if_neg (by omega),if_neg (by omega)]
theorem putS_see {x : ByteArray} {w : Wr} {k : Nat} (h1 : 64 * w.2.1.toNat + 64 ≤ x.size) (h2 : w.2.2.size = 64) (hk : 64 * k + 64 ≤ x.size) : (putS x w).extract (64 * k) (64 * k + 64) = if w.2.1.toNat = k then w.2.2 else x.extract (64 * k) (64 * k + 64) := by
 rw [ba_extract_bs,ba_extract_bs]
 have hx:x.data.toList.length=x.size:=size_data x
 have hw:w.2.2.data.toList.length=64:=by rw [size_data,h2]
 have hp:(putS x w).data.toList=x.data.toList.take (64*w.2.1.toNat) ++ w.2.2.data.toList ++ x.data.toList.drop (64*w.2.1.toNat+64):=by unfold putS;rw [bs_data]
 rw [hp,cut_other _ _ _ _ hw (by omega) (by omega)]
 split
 ·exact bs_of _
 ·rfl
theorem acc_see {kp : Nat → Bool} {x : Ext} {l : List Wr} {k : Nat} (hf : Fit x l) (hk : 64 * k + 64 ≤ x.2.size) : ∀ n, n ≤ l.length → ((accW kp x l n).getD x.2).extract (64 * k) (64 * k + 64) = seeW kp l x.1 (k : Int) (x.2.extract (64 * k) (64 * k + 64)) n
 | 0,_=>rfl
 | n+1,h=>by
  have ih:=acc_see (kp:=kp) hf hk n (by omega)
  have hs:=acc_size (kp:=kp) hf n (by omega)
  rw [accW_succ kp x l n (by omega),seeW_succ _ _ _ _ _ (by omega)]
  by_cases q:l[n].1=x.1∧kp n=true
  ·obtain ⟨h0,h1,h2⟩:=hf _ (List.getElem_mem (by omega:n<l.length)) q.1
   rw [if_pos q,Option.getD_some,putS_see (by rw [hs];exact h1) h2 (by rw [hs];exact hk)]
   by_cases e:l[n].2.1=(k:Int)
   ·rw [if_pos (by omega),if_pos ⟨q.1,e,q.2⟩]
   ·rw [if_neg (by omega),if_neg (fun z=>e z.2.1)];exact ih
  ·rw [if_neg q,if_neg (fun z=>q ⟨z.1,z.2.2⟩)];exact ih
theorem seeW_mem (kp : Nat → Bool) (l : List Wr) (s : ByteArray) (k : Int) (b : ByteArray) : ∀ n, seeW kp l s k b n = b ∨ ∃ w ∈ l, w.1 = s ∧ w.2.1 = k ∧ seeW kp l s k b n = w.2.2
 | 0=>.inl rfl
 | n+1=>by
  by_cases h:n<l.length
  ·rw [seeW_succ _ _ _ _ _ h]
   by_cases q:l[n].1=s∧l[n].2.1=k∧kp n=true
   ·rw [if_pos q];exact .inr ⟨_,List.getElem_mem h,q.1,q.2.1,rfl⟩
   ·rw [if_neg q];exact seeW_mem kp l s k b n
  ·rw [seeW,List.getElem?_eq_none (by omega)];exact seeW_mem kp l s k b n
theorem seeW_front (kp : Nat → Bool) (l m : List Wr) (s : ByteArray) (k : Int) (b : ByteArray) : ∀ n, n ≤ l.length → seeW kp (l ++ m) s k b n = seeW kp l s k b n
 | 0,_=>rfl
 | n+1,h=>by
  rw [seeW_succ _ _ _ _ _ (show n<(l ++ m).length by simp;omega),seeW_succ _ _ _ _ _ (show n<l.length by omega),List.getElem_append_left (by omega),seeW_front kp l m s k b n (by omega)]
theorem seeW_snoc (kp : Nat → Bool) (l : List Wr) (w : Wr) (s : ByteArray) (k : Int) (b : ByteArray) : seeW kp (l ++ [w]) s k b (l ++ [w]).length = if w.1 = s ∧ w.2.1 = k ∧ kp l.length = true then w.2.2 else seeW kp l s k b l.length := by
 rw [show (l ++ [w]).length=l.length+1 by simp,seeW_succ _ _ _ _ _ (by simp),seeW_front _ _ _ _ _ _ _ (Nat.le_refl _)]
 simp
/-! ### Behind what is done -/
theorem seen_add (d : D) (s' : ByteArray) (i : Int) (data s : ByteArray) (k : Int) : seen (addW d (s', i, data)) s k = if s' = s ∧ i = k then data else seen d s k := by
 unfold seen addW
 rw [seeW_snoc]
 simp only [allK,and_true]
theorem exOf_mem {l : List Ext} (ha : Asc l) {x : Ext} (hx : x ∈ l) : exOf l x.1 = x := by
 obtain ⟨i,hi,rfl⟩:=List.getElem_of_mem hx
 have e:=pos_mem ha hi
 rw [exOf_eq (by rw [e];exact hi)]
 simp only [e]
theorem exOf_has {l : List Ext} {s : ByteArray} (ha : Asc l) (h : has l s = true) : exOf l s ∈ l ∧ (exOf l s).1 = s := by
 obtain ⟨x,hx,rfl⟩:=has_iff.1 h
 rw [exOf_mem ha hx];exact ⟨hx,rfl⟩
theorem exOf_map {f : Ext → Ext} (hf : ∀ x, (f x).1 = x.1) {l : List Ext} {s : ByteArray} (ha : Asc l) (h : has l s = true) : exOf (l.map f) s = f (exOf l s) := by
 obtain ⟨x,hx,rfl⟩:=has_iff.1 h
 have:=exOf_mem (asc_map hf ha) (List.mem_map_of_mem hx)
 rw [hf] at this
 rw [this,exOf_mem ha hx]
theorem place0 {d : D} {s : ByteArray} {k : Int} (h : (placeD d s k).2 = 0) : has d.ext s = true ∧ 0 ≤ k ∧ k < sec (exOf d.ext s) := by
 unfold placeD at h
 by_cases q:has d.ext s=true
 ·rw [if_pos q] at h
  by_cases q1:k<0∨(sec (exOf d.ext s):Int)≤k
  ·rw [if_pos q1] at h;simp at h
  ·exact ⟨q,by omega,by omega⟩
 ·rw [if_neg q] at h;simp at h
theorem seen_settle {d : D} {s : ByteArray} {k : Int} (hR : Right d) (h : (placeD d s k).2 = 0) (kp : Nat → Bool) : seen (settleD d kp) s k = seeW kp d.waits s k ((exOf d.ext s).2.extract (64 * k.toNat) (64 * k.toNat + 64)) d.waits.length := by
 obtain ⟨hh,h0,h1⟩:=place0 h
 obtain ⟨hm,hn⟩:=exOf_has hR.ex.asc hh
 have hs:=(eok_sec (hR.ex.ok _ hm)).2
 obtain ⟨m,rfl⟩ : ∃ m:Nat,k=m:=⟨k.toNat,by omega⟩
 unfold seen settleD
 simp only [List.length_nil,seeW]
 rw [exOf_map (f:=doneX kp d.waits) (fun _=>rfl) hR.ex.asc hh]
 have:=acc_see (kp:=kp) (k:=m) (right_fit hR hm) (by omega) d.waits.length (Nat.le_refl _)
 rw [hn] at this
 exact this
end Go.Proofs.YtceikpipmcadmaaGreatDoor
namespace Go.Proofs.YtceikpipmcadmaaGreatDoor
open Go.RowKit
namespace Reg

/-- What one operation of a region comes to: a value, or a call that returns one. -/
def Yield (P : Program) (m : Sem Next) (w : World) (R : Value → World → Prop) : Prop :=
  match m.run P w with
  | .ok (.value v) w' => R v w'
  | .ok .skip w' => R undef w'
  | .ok (.enter f args) w' => Calls P f args w' fun e w'' => ∃ v, e = .returned v ∧ R v w''
  | _ => False

/-- The slot d is written by no operation that may have run ahead of operation i. -/
def before (ops : Array Oper) (i d : Nat) : Bool := ops.toList.all fun o => o.dst != some d || o.after.toList.any (fun e => Region.binds .any e && e.on == i)

/-- One done more. -/
def upd (s : Nat → Bool) (i : Nat) : Nat → Bool := fun k => k == i || s k
theorem upd_same (s : Nat → Bool) (i : Nat) : upd s i i = true := by simp [upd]
theorem upd_other (s : Nat → Bool) {i k : Nat} (h : k ≠ i) : upd s i k = s k := by simp [upd, h]
/-- Operation k waits for operation i. -/
def waits (ops : Array Oper) (i k : Nat) : Bool := ((ops[k]?).map fun o => o.after.toList.any fun e => Region.binds .any e && e.on == i).getD false

/-- One operation: what it needs, what it gives. 's': which are done. -/
def Step (P : Program) (ops : Array Oper) (T : Array Value) (D : Nat → Value → World → Prop) (I : (Nat → Bool) → World → Prop) (Ext : World → World → Prop) (i : Nat) (o : Oper) : Prop :=
  ∀ (a : Act) (w : World) (s : Nat → Bool), a.tmps.size = T.size → I s w →
    (∀ e ∈ o.after, Region.binds .any e = true → ∀ o' d, ops[e.on]? = some o' → o'.dst = some d → D e.on (a.eval (.tmp d)) w) →
    (∀ e ∈ o.after, Region.binds .any e = true → s e.on = true) → s i = false → (∀ k, waits ops i k = true → s k = false) →
    (∀ d, before ops i d = true → a.eval (.tmp d) = T.getD d undef) →
    match o.guard with
    | none => Yield P (execOp a.eval o) w fun v w' => D i v w' ∧ I (upd s i) w' ∧ Ext w w'
    | some (g, want) => ∃ b og dg, ops[g]? = some og ∧ og.dst = some dg ∧ a.eval (.tmp dg) = .bool b ∧
        if b = want then Yield P (execOp a.eval o) w fun v w' => D i v w' ∧ I (upd s i) w' ∧ Ext w w' else D i undef w ∧ I (upd s i) w ∧ Ext w w

/-- The region's text is in order: each slot written once, edges lead back. -/
def good (ops : Array Oper) (n : Nat) : Bool :=
  (ops.toList.filterMap (·.dst)).all (· < n) &&
  ((List.range ops.size).all fun i => (List.range ops.size).all fun j => i == j || ((ops[i]?).bind (·.dst)).isNone || ((ops[i]?).bind (·.dst)) != ((ops[j]?).bind (·.dst))) &&
  ((List.range ops.size).all fun i => ((ops[i]?).map fun o => o.after.all fun e => decide (e.on < i)).getD true)

structure Inv (ops : Array Oper) (T : Array Value) (df : List Deferred) (D : Nat → Value → World → Prop) (I : (Nat → Bool) → World → Prop) (listed : Array Bool) (a : Act) (w : World) : Prop where
  df : a.defers = df
  sz : a.tmps.size = T.size
  base : ∀ d, (∀ k o, ops[k]? = some o → o.dst = some d → listed.getD k false = false) → a.tmps.getD d undef = T.getD d undef
  done : ∀ k o d, ops[k]? = some o → o.dst = some d → listed.getD k false = true → D k (a.tmps.getD d undef) w
  closed : ∀ k o, ops[k]? = some o → listed.getD k false = true → ∀ e ∈ o.after, Region.binds .any e = true → listed.getD e.on false = true
  lsz : listed.size = ops.size
  inv : I (fun k => listed.getD k false) w

theorem good_dst {ops : Array Oper} {n : Nat} (h : good ops n = true) {i : Nat} {o : Oper} {d : Nat} (hi : ops[i]? = some o) (hd : o.dst = some d) : d < n := by
 simp only [good,Bool.and_eq_true,List.all_eq_true,decide_eq_true_eq] at h
 exact h.1.1 d (List.mem_filterMap.2 ⟨o,by simpa using Array.mem_of_getElem? hi,hd⟩)
theorem good_one {ops : Array Oper} {n : Nat} (h : good ops n = true) {i j : Nat} {o o' : Oper} {d : Nat} (hi : ops[i]? = some o) (hj : ops[j]? = some o') (hd : o.dst = some d) (hd' : o'.dst = some d) : i = j := by
 simp only [good,Bool.and_eq_true,List.all_eq_true] at h
 have hil:=(Array.getElem?_eq_some_iff.1 hi).1
 have hjl:=(Array.getElem?_eq_some_iff.1 hj).1
 have:=h.1.2 i (List.mem_range.2 hil) j (List.mem_range.2 hjl)
 simpa [hi,hj,hd,hd'] using this
theorem good_back {ops : Array Oper} {n : Nat} (h : good ops n = true) {i : Nat} {o : Oper} (hi : ops[i]? = some o) {e : Edge} (he : e ∈ o.after) : e.on < i := by
 simp only [good,Bool.and_eq_true,List.all_eq_true] at h
 have hil:=(Array.getElem?_eq_some_iff.1 hi).1
 have:=h.2 i (List.mem_range.2 hil)
 simp only [hi,Option.map_some,Option.getD_some,Array.all_eq_true_iff_forall_mem,decide_eq_true_eq] at this
 exact this e he

theorem getD_put (T : Array Value) (d : Nat) (v : Value) (h : d < T.size) (k : Nat) : (T.setIfInBounds d v).getD k undef = if k = d then v else T.getD k undef := by
 simp only [Array.getD_eq_getD_getElem?,Array.getElem?_setIfInBounds]
 by_cases e:d=k
 ·subst e;simp [h]
 ·simp [e,Ne.symm e]

theorem getD_flag {listed : Array Bool} {i : Nat} (h : i < listed.size) (b : Bool) : listed.getD i b = listed.getD i (!b) := by simp [h]

section
variable {P : Program} {ops : Array Oper} {Q : Exit → Act → World → Prop} {T : Array Value} {df : List Deferred} {D : Nat → Value → World → Prop} {I : (Nat → Bool) → World → Prop} {Ext : World → World → Prop}

theorem ready_empty (hg : good ops T.size = true) {listed : Array Bool} (hl : listed.size = ops.size) (h : Region.ready .any ops listed = []) : ∀ k, k < ops.size → listed.getD k false = true := by
 intro k
 induction k using Nat.strongRecOn with
 | _ k ih =>
  intro hk
  cases hv:listed.getD k false with
  | true=>rfl
  | false =>
   exfalso
   have hm:k ∈ Region.ready .any ops listed:=by
    rw [mem_ready]
    refine ⟨by rw [getD_flag (by omega)];exact hv,ops[k],Array.getElem?_eq_getElem hk,fun e he _=>?_⟩
    have hlt:=good_back hg (Array.getElem?_eq_getElem hk) he
    exact ih e.on hlt (by omega)
   rw [h] at hm
   cases hm

theorem inv_put (hg : good ops T.size = true) (mono : ∀ k v w w', Ext w w' → D k v w → D k v w')
  {listed:Array Bool} {a:Act} {w w':World} (h:Inv ops T df D I listed a w) {i:Nat} {o:Oper} (hi:ops[i]?=some o) (hr:i ∈ Region.ready .any ops listed)
  {v:Value} (hD:D i v w') (hI:I (upd (fun k=>listed.getD k false) i) w') (hb:Ext w w'):Inv ops T df D I (listed.setIfInBounds i true) (a.put o.dst v) w':=by
 have hil:=(Array.getElem?_eq_some_iff.1 hi).1
 obtain ⟨hr0,o',ho',hall⟩:=mem_ready.1 hr
 obtain rfl:o=o':=Option.some.inj (hi.symm.trans ho')
 have hnot:listed.getD i false=false:=by rw [getD_flag (by rw [h.lsz];exact hil)];exact hr0
 have hflag:∀ k,(listed.setIfInBounds i true).getD k false=if k=i then true else listed.getD k false:=fun k=>by
  by_cases e:k=i
  ·subst e;simp [h.lsz,hil]
  ·rw [if_neg e,getD_set_ne false (Ne.symm e)]
 have hput:∀ d,(a.put o.dst v).tmps.getD d undef=if o.dst=some d then v else a.tmps.getD d undef:=fun d=>by
  cases hd:o.dst with
  | none=>simp [Act.put]
  | some d' =>
   have:=good_dst hg hi hd
   simp only [Act.put]
   rw [getD_put _ _ _ (by rw [h.sz];exact this)]
   by_cases e:d=d'
   ·subst e;simp
   ·rw [if_neg e,if_neg (by simpa using fun x=>e x.symm)]
 constructor
 ·cases hd:o.dst <;> simp [Act.put,h.df]
 ·cases hd:o.dst <;> simp [Act.put,h.sz]
 ·intro d hd
  rw [hput]
  by_cases e:o.dst=some d
  ·have:=hd i o hi e
   rw [hflag,if_pos rfl] at this
   cases this
  ·rw [if_neg e]
   refine h.base d fun k ok hk hdk=>?_
   have:=hd k ok hk hdk
   rw [hflag] at this
   by_cases ek:k=i
   ·subst ek;exact hnot
   ·rwa [if_neg ek] at this
 ·intro k ok d hk hdk hlk
  rw [hput]
  rw [hflag] at hlk
  by_cases ek:k=i
  ·subst ek
   obtain rfl:o=ok:=Option.some.inj (hi.symm.trans hk)
   rw [if_pos hdk];exact hD
  ·rw [if_neg ek] at hlk
   rw [if_neg (fun e=>ek (good_one hg hk hi hdk e))]
   exact mono _ _ _ _ hb (h.done k ok d hk hdk hlk)
 ·intro k ok hk hlk e he hbe
  rw [hflag] at hlk
  rw [hflag]
  by_cases ee:e.on=i
  ·rw [if_pos ee]
  ·rw [if_neg ee]
   by_cases ek:k=i
   ·subst ek
    obtain rfl:o=ok:=Option.some.inj (hi.symm.trans hk)
    exact hall e he hbe
   ·rw [if_neg ek] at hlk
    exact h.closed k ok hk hlk e he hbe
 ·simp [h.lsz]
 ·have e:(fun k=>(listed.setIfInBounds i true).getD k false)=upd (fun k=>listed.getD k false) i:=by
   funext k
   rw [hflag]
   by_cases ek:k=i
   ·subst ek;rw [if_pos rfl,upd_same]
   ·rw [if_neg ek,upd_other _ ek]
  rw [e];exact hI

theorem wp_of_yield {o : Oper} {a : Act} {w : World} {K : Act → World → Prop} {R : Value → World → Prop} (h : Yield P (execOp a.eval o) w R) (hK : ∀ v w', R v w' → K (a.put o.dst v) w') : o.wp P a w K Q := by
 unfold Yield at h
 unfold Oper.wp
 generalize (execOp a.eval o).run P w=r at *
 cases r with
 | ok n w' =>
  cases n <;> simp only [Oper.upon] at h ⊢ <;> first
   | exact hK _ _ h
   | exact h.elim
   | (refine Calls.mono h ?_;rintro e w'' ⟨v,rfl,hR⟩;exact hK _ _ hR)
 | halt x w'=>exact h.elim

theorem any_of (hg : good ops T.size = true) (mono : ∀ k v w w', Ext w w' → D k v w → D k v w')
  (step:∀ i o,ops[i]?=some o→Step P ops T D I Ext i o)
  (fin:∀ tm w' s,tm.size=T.size→I s w'→(∀ k,k<ops.size→s k=true)→(∀ k o d,ops[k]?=some o→o.dst=some d→D k (tm.getD d undef) w') →
   (∀ d,(∀ (k:Nat) (o:Oper),ops[k]?=some o→o.dst≠some d)→tm.getD d undef=T.getD d undef)→Q .normal ⟨tm,df⟩ w') :
  ∀ (fuel:Nat) (listed:Array Bool) (a:Act) (w:World),((List.range ops.size).countP fun k=>!listed.getD k false)≤fuel→Inv ops T df D I listed a w→wpAny P .any ops Q fuel listed a w:=by
 have hend:∀ (listed:Array Bool) (a:Act) (w:World),Inv ops T df D I listed a w→(∀ k,k<ops.size→listed.getD k false=true)→Q .normal a w:=by
  intro listed a w h hall
  obtain ⟨tm,dfs⟩:=a
  obtain rfl:dfs=df:=h.df
  refine fin tm w _ h.sz h.inv hall (fun k o d hk hd=>h.done k o d hk hd (hall k (Array.getElem?_eq_some_iff.1 hk).1)) fun d hd=>h.base d fun k o hk hdk=>(hd k o hk hdk).elim
 intro fuel
 induction fuel with
 | zero =>
  intro listed a w hc h
  have hall:∀ k,k<ops.size→listed.getD k false=true:=by
   intro k hk
   have:=List.countP_eq_zero.1 (Nat.le_zero.1 hc) k (List.mem_range.2 hk)
   simpa using this
  have he:Region.ready .any ops listed = []:=by
   apply List.eq_nil_iff_forall_not_mem.2
   intro i hi
   obtain ⟨h0,o,ho,_⟩:=mem_ready.1 hi
   have hil:=(Array.getElem?_eq_some_iff.1 ho).1
   have:=hall i hil
   rw [getD_flag (by rw [h.lsz];exact hil)] at h0
   simp only [Bool.not_true] at h0
   rw [h0] at this;cases this
  exact ⟨he,hend _ _ _ h hall⟩
 | succ fuel ih =>
  intro listed a w hc h
  refine ⟨fun he=>hend _ _ _ h (ready_empty hg h.lsz he),fun i hi=>?_⟩
  obtain ⟨h0,o,ho,hall⟩:=mem_ready.1 hi
  have hil:=(Array.getElem?_eq_some_iff.1 ho).1
  have hnot:listed.getD i false=false:=by rw [getD_flag (by rw [h.lsz];exact hil)];exact h0
  have hcount:((List.range ops.size).countP fun k=>!(listed.setIfInBounds i true).getD k false)≤fuel:=by
   have hlt:((List.range ops.size).countP fun k=>!(listed.setIfInBounds i true).getD k false)<((List.range ops.size).countP fun k=>!listed.getD k false):=by
    have hsplit:∀ (l:List Nat),i ∈ l→(l.countP fun k=>!(listed.setIfInBounds i true).getD k false)<(l.countP fun k=>!listed.getD k false):=by
     have hle:∀ (l:List Nat),(l.countP fun k=>!(listed.setIfInBounds i true).getD k false)≤(l.countP fun k=>!listed.getD k false):=by
      intro l
      refine List.countP_mono_left fun k _ hk=>?_
      by_cases ek:k=i
      ·subst ek;simp [hnot]
      ·rwa [getD_set_ne false (Ne.symm ek)] at hk
     intro l
     induction l with
     | nil=>intro hm;cases hm
     | cons x l ihl =>
      intro hm
      by_cases ex:x=i
      ·subst ex
       have h1:(listed.setIfInBounds x true).getD x false=true:=by simp [h.lsz,hil]
       rw [List.countP_cons,List.countP_cons,h1,hnot]
       have:=hle l
       simp only [Bool.not_true,Bool.not_false,if_true,Bool.false_eq_true,if_false]
       omega
      ·have hm':i ∈ l:=(List.mem_cons.1 hm).resolve_left (Ne.symm ex)
       rw [List.countP_cons,List.countP_cons,getD_set_ne false (Ne.symm ex)]
       have:=ihl hm'
       omega
    exact hsplit _ (List.mem_range.2 hil)
   omega
  have hst:=step i o ho a w (fun k=>listed.getD k false) h.sz h.inv
   (fun e he hb o' d ho' hd=>h.done e.on o' d ho' hd (hall e he hb)) (fun e he hb=>hall e he hb) hnot
   (fun k hk=>by
    unfold waits at hk
    cases hok:ops[k]? with
    | none=>simp [hok] at hk
    | some ok =>
     simp only [hok,Option.map_some,Option.getD_some,List.any_eq_true,Bool.and_eq_true,beq_iff_eq] at hk
     obtain ⟨e,he,hbe,heq⟩:=hk
     cases hlk:listed.getD k false with
     | false=>rfl
     | true =>
      have:=h.closed k ok hok hlk e (Array.mem_toList_iff.1 he) hbe
      rw [heq,hnot] at this;cases this)
   (fun d hd=>h.base d fun k ok hk hdk=>by
    unfold before at hd
    rw [List.all_eq_true] at hd
    have:=hd ok (by simpa using Array.mem_of_getElem? hk)
    simp only [hdk,bne_self_eq_false,Bool.false_or,List.any_eq_true,Bool.and_eq_true,beq_iff_eq] at this
    obtain ⟨e,he,hbe,heq⟩:=this
    have he:=Array.mem_toList_iff.1 he
    cases hlk:listed.getD k false with
    | false=>rfl
    | true =>
     have:=h.closed k ok hk hlk e he hbe
     rw [heq,hnot] at this;cases this)
  have hput:∀ v w',D i v w'∧I (upd (fun k=>listed.getD k false) i) w'∧Ext w w'→wpAny P .any ops Q fuel (listed.setIfInBounds i true) (a.put o.dst v) w':=fun v w' ⟨hD,hI,hb⟩ =>
   ih _ _ _ hcount (inv_put hg mono h ho hi hD hI hb)
  unfold wpOp
  simp only [ho]
  cases hgd:o.guard with
  | none =>
   simp only [hgd] at hst
   rw [if_pos (by simp [Region.wanted,hgd])]
   exact .inl (wp_of_yield hst hput)
  | some gw =>
   obtain ⟨g,want⟩:=gw
   simp only [hgd] at hst
   obtain ⟨b,og,dg,hog,hdg,hρ,hst⟩:=hst
   have hdlt:=good_dst hg hog hdg
   have hy:yielded ops a.tmps g=some b:=by
    have:a.tmps[dg]?=some (.bool b):=by
     have h1:a.tmps.getD dg undef = .bool b:=hρ
     have h2:dg<a.tmps.size:=by rw [h.sz];exact hdlt
     simpa [h2] using h1
    simp [yielded,hog,hdg,this]
   by_cases hbw:b=want
   ·rw [if_pos hbw] at hst
    rw [if_pos (by simp [Region.wanted,hgd,hy,hbw])]
    exact .inl (wp_of_yield hst hput)
   ·rw [if_neg hbw] at hst
    rw [if_neg (by simp [Region.wanted,hgd,hy,hbw])]
    exact hput undef w hst

/-- THE REGION: each operation steps; at the end each slot holds what its operation gives. -/
theorem wp_steps {id : Nat} {w : World} (hm : P.follows .mixedOrders = true) (hg : good ops T.size = true)
  (D:Nat→Value→World→Prop) (I:(Nat→Bool)→World→Prop) (Ext:World→World→Prop) (h0:I (fun _=>false) w.drew) (mono:∀ k v w w',Ext w w'→D k v w→D k v w')
  (step:∀ i o,ops[i]?=some o→Step P ops T D I Ext i o)
  (fin:∀ tm w' s,tm.size=T.size→I s w'→(∀ k,k<ops.size→s k=true)→(∀ k o d,ops[k]?=some o→o.dst=some d→D k (tm.getD d undef) w') →
   (∀ d,(∀ (k:Nat) (o:Oper),ops[k]?=some o→o.dst≠some d)→tm.getD d undef=T.getD d undef)→Q .normal ⟨tm,df⟩ w') :
  (Code.region id ops true).wp P Q ⟨T,df⟩ w:=by
 refine wp_region_any hm (any_of (T:=T) (df:=df) hg mono step fin ops.size _ _ _ ?_ ?_)
 ·exact Nat.le_trans List.countP_le_length (by simp)
 ·have hf:∀ k,(Array.replicate ops.size false).getD k false=false:=fun k=>by
   simp only [Array.getD_eq_getD_getElem?,Array.getElem?_replicate];split <;> rfl
  exact ⟨rfl,rfl,fun _ _=>rfl,fun k o d _ _ h=>(by rw [hf] at h;exact absurd h (by decide)),fun k o _ h=>(by rw [hf] at h;exact absurd h (by decide)),by simp,(by simp only [hf];exact h0)⟩
end

/-- Of each operation of a list. -/
def AllFrom (X : Nat → Oper → Prop) : Nat → List Oper → Prop
  | _, [] => True
  | k, o :: l => X k o ∧ AllFrom X (k + 1) l
theorem allFrom_get {X : Nat → Oper → Prop} : ∀ (l : List Oper) (k : Nat), AllFrom X k l → ∀ i o, l[i]? = some o → X (k + i) o
 | [],_,_,i,o,h=>by simp at h
 | x :: l,k,⟨h1,h2⟩,i,o,h=>by
  cases i with
  | zero=>simp at h;subst h;exact h1
  | succ i =>
   have:=allFrom_get l (k+1) h2 i o (by simpa using h)
   rwa [show k+1+i=k+(i+1) from by omega] at this
theorem each {X : Nat → Oper → Prop} {l : List Oper} (h : AllFrom X 0 l) : ∀ i o, l.toArray[i]? = some o → X i o := fun i o hi => by
 have:=allFrom_get l 0 h i o (by simpa using hi)
 rwa [Nat.zero_add] at this
end Reg
end Go.Proofs.YtceikpipmcadmaaGreatDoor
namespace Go.Proofs.YtceikpipmcadmaaGreatDoor
open Go.RowKit Go.Shelf
open Mv Disk
set_option maxRecDepth 4000
/-- A disk at work of which we know the cells. -/
def RdK (M : Mem) (p : Nat) (d : D) (qe : Option Addr) (de : Nat) (sv : Value) : Prop := M.Knows ⟨p, 0, none⟩ [.int .i64 d.size, .slice qe d.ext.length de, sv, .int .i64 d.fuse, .bool d.down] ∧ Sl 2 extF M (.slice qe d.ext.length de) d.ext
set_option maxHeartbeats 1000000 in
theorem dev_placeK (p : Nat) (d : D) (s : ByteArray) (i : Int) (M : Mem) (qe : Option Addr) (de : Nat) (sv : Value) (h : RdK M p d qe de sv) (hR : Right d) : ACall Tryz.prog 109 #[.pointer (some ⟨p, 0, none⟩), .string s, .int .i64 i] M fun r S' => r = .tuple #[.int .i64 ((placeD d s i).1 : Nat), .int .i64 (placeD d s i).2] ∧ S' = M := by
 obtain ⟨hp,hME⟩:=h
 have hp1:=kn_at hp 1 rfl
 have hhp:=has_pos hR.ex.asc s
 unfold placeD
 by_cases q:has d.ext s=true
 ·obtain ⟨hlt,he⟩:=hhp.1 q
  have hsx:=right_sec hR (List.getElem_mem hlt)
  have hfind:=disk_find _ d.ext s M hME hR.ex.asc (Nat.le_trans (right_len hR).1 (by decide))
  rw [if_pos q,exOf_eq hlt]
  obtain ⟨_,_,ee1,ee2,ee3,hE3⟩:=id hME
  cases ee1
  obtain ⟨b,off,rfl,hk⟩:=hE3.resolve_left (fun e=>by rw [e] at hlt;simp at hlt)
  have hki:=hk _ hlt
  generalize hpp:pos d.ext s=k at *
  generalize d.ext[k]=x at *
  unfold extF at hki
  by_cases q1:i<0
  ·rw [if_pos (.inl q1)]
   refine ACall.enter (rs:=[.tmp 6,.tmp 7]) 40 [(0,.pointer (some ⟨p,0,none⟩)),(1,.string s),(2,.int .i64 i)] Tryz.func109 rfl rfl (Nat.le_of_ble_eq_true rfl) rfl ⟨rfl,rfl,rfl,trivial⟩ ?_
   iterate 14 refine s1_ ?_
   refine ca_ rfl (hfind) ?_
   rintro _ S1 ⟨rfl,h1⟩
   rw [h1,q];clear h1 S1
   iterate 7 refine s1_ ?_
   refine su_ [(0,_),(1,_),(2,_),(6,_),(7,_),(8,_),(9,_)] ?_
   iterate 9 refine s1_ ?_
   refine su_ [(0,_),(1,_),(2,_),(6,_),(7,_),(8,_),(9,_),(20,_)] ?_
   refine cF_ ?_
   iterate 20 refine s1_ ?_
   refine su_ [(0,_),(1,_),(2,_),(6,_),(7,_),(8,_),(9,_),(20,_),(23,_)] ?_
   refine cT_ ?_
   iterate 9 refine s1_ ?_
   refine ⟨_,M,⟨_,_,rfl,⟨_,_,rfl,rfl,rfl⟩,rfl⟩,less_,?_⟩
   exact ⟨rfl,rfl⟩
  ·by_cases q2:(sec x:Int)≤i
   ·rw [if_pos (.inr q2)]
    refine ACall.enter (rs:=[.tmp 6,.tmp 7]) 40 [(0,.pointer (some ⟨p,0,none⟩)),(1,.string s),(2,.int .i64 i)] Tryz.func109 rfl rfl (Nat.le_of_ble_eq_true rfl) rfl ⟨rfl,rfl,rfl,trivial⟩ ?_
    iterate 14 refine s1_ ?_
    refine ca_ rfl (hfind) ?_
    rintro _ S1 ⟨rfl,h1⟩
    rw [h1,q];clear h1 S1
    iterate 7 refine s1_ ?_
    refine su_ [(0,_),(1,_),(2,_),(6,_),(7,_),(8,_),(9,_)] ?_
    iterate 9 refine s1_ ?_
    refine su_ [(0,_),(1,_),(2,_),(6,_),(7,_),(8,_),(9,_),(20,_)] ?_
    refine cF_ ?_
    iterate 14 refine s1_ ?_
    refine ARun.callG 2 false 26 rfl (lit_lt rfl) rfl (lit_lt rfl) go_114 rfl (disk_sectors x _ (by omega)) ?_
    rintro _ S1 ⟨rfl,h1⟩
    rw [h1];clear h1 S1
    iterate 5 refine s1_ ?_
    refine su_ [(0,_),(1,_),(2,_),(6,_),(7,_),(8,_),(9,_),(20,_),(23,_)] ?_
    refine cT_ ?_
    iterate 9 refine s1_ ?_
    refine ⟨_,M,⟨_,_,rfl,⟨_,_,rfl,rfl,rfl⟩,rfl⟩,less_,?_⟩
    exact ⟨rfl,rfl⟩
   ·rw [if_neg (by omega)]
    refine ACall.enter (rs:=[.tmp 6,.tmp 7]) 40 [(0,.pointer (some ⟨p,0,none⟩)),(1,.string s),(2,.int .i64 i)] Tryz.func109 rfl rfl (Nat.le_of_ble_eq_true rfl) rfl ⟨rfl,rfl,rfl,trivial⟩ ?_
    iterate 14 refine s1_ ?_
    refine ca_ rfl (hfind) ?_
    rintro _ S1 ⟨rfl,h1⟩
    rw [h1,q];clear h1 S1
    iterate 7 refine s1_ ?_
    refine su_ [(0,_),(1,_),(2,_),(6,_),(7,_),(8,_),(9,_)] ?_
    iterate 9 refine s1_ ?_
    refine su_ [(0,_),(1,_),(2,_),(6,_),(7,_),(8,_),(9,_),(20,_)] ?_
    refine cF_ ?_
    iterate 14 refine s1_ ?_
    refine ARun.callG 2 false 26 rfl (lit_lt rfl) rfl (lit_lt rfl) go_114 rfl (disk_sectors x _ (by omega)) ?_
    rintro _ S1 ⟨rfl,h1⟩
    rw [h1];clear h1 S1
    iterate 5 refine s1_ ?_
    refine su_ [(0,_),(1,_),(2,_),(6,_),(7,_),(8,_),(9,_),(20,_),(23,_)] ?_
    refine cF_ ?_
    iterate 10 refine s1_ ?_
    refine su_ [(0,_),(1,_),(2,_),(6,_),(7,_),(8,_),(9,_),(20,_),(23,_)] ?_
    refine s1_ ?_
    refine ⟨_,M,⟨_,_,rfl,⟨_,_,rfl,rfl,rfl⟩,rfl⟩,less_,?_⟩
    exact ⟨rfl,rfl⟩
 ·rw [if_neg q]
  refine ACall.enter (rs:=[.tmp 6,.tmp 7]) 40 [(0,.pointer (some ⟨p,0,none⟩)),(1,.string s),(2,.int .i64 i)] Tryz.func109 rfl rfl (Nat.le_of_ble_eq_true rfl) rfl ⟨rfl,rfl,rfl,trivial⟩ ?_
  iterate 14 refine s1_ ?_
  refine ca_ rfl (disk_find _ d.ext s _ hME hR.ex.asc (Nat.le_trans (right_len hR).1 (by decide))) ?_
  rintro _ S1 ⟨rfl,h1⟩
  rw [h1,Bool.eq_false_iff.2 q];clear h1 S1
  iterate 7 refine s1_ ?_
  refine su_ [(0,_),(1,_),(2,_),(6,_),(7,_),(8,_),(9,_)] ?_
  iterate 9 refine s1_ ?_
  refine su_ [(0,_),(1,_),(2,_),(6,_),(7,_),(8,_),(9,_),(20,_)] ?_
  refine cT_ ?_
  iterate 9 refine s1_ ?_
  refine ⟨_,M,⟨_,_,rfl,⟨_,_,rfl,rfl,rfl⟩,rfl⟩,less_,?_⟩
  exact ⟨rfl,rfl⟩
/-- What stands in a world stands in a later one. -/
theorem view_later {w w1 : World} (h : Below w.heap.size w w1) : View (roM w) w1 :=
 ⟨fun _ _ h=>(by cases h),fun a v hv=>⟨by
  have hb:a.block<w.heap.size:=by
   rcases Nat.lt_or_ge a.block w.heap.size with q | q
   ·exact q
   ·have hv':w.cell? a=some v:=hv
    simp [World.cell?,Array.getElem?_eq_none q] at hv'
  exact (h.cell hb).trans hv,rfl⟩,fun _ _ h=>(by cases h)⟩
theorem place_calls (p : Nat) (d : D) (s : ByteArray) (i : Int) (w : World) (qe : Option Addr) (de : Nat) (sv : Value) (h : RdK (roM w) p d qe de sv) (hR : Right d) (w1 : World) (hb : Below w.heap.size w w1) :
  Calls Tryz.prog 109 #[.pointer (some ⟨p,0,none⟩),.string s,.int .i64 i] w1 fun e w2=>e = .returned (.tuple #[.int .i64 ((placeD d s i).1:Nat),.int .i64 (placeD d s i).2])∧Below w1.heap.size w1 w2 :=
 (dev_placeK p d s i (roM w) qe de sv h hR w1 (view_later hb)).mono fun _ _ ⟨v,S',he,⟨hr,_⟩,st⟩=>⟨by rw [he,hr],st.toBelow fun _=>rfl⟩
theorem boxes4 {w w2 : World} {t1 t2 t3 t4 : TypeId} {v1 v2 v3 v4 : Value} (h : Below ((((w.alloc (.cells #[v1] t1)).alloc (.cells #[v2] t2)).alloc (.cells #[v3] t3)).alloc (.cells #[v4] t4)).heap.size ((((w.alloc (.cells #[v1] t1)).alloc (.cells #[v2] t2)).alloc (.cells #[v3] t3)).alloc (.cells #[v4] t4)) w2) :
  Boxed w2 w.heap.size t1 v1∧Boxed w2 (w.heap.size+1) t2 v2∧Boxed w2 (w.heap.size+1+1) t3 v3∧Boxed w2 (w.heap.size+1+1+1) t4 v4∧Below w.heap.size w w2∧w.heap.size+4≤w2.heap.size:=by
 have b1:=(((Boxed.new w t1 v1).alloc (.cells #[v2] t2)).alloc (.cells #[v3] t3)).alloc (.cells #[v4] t4)
 have b2:=((Boxed.new (w.alloc (.cells #[v1] t1)) t2 v2).alloc (.cells #[v3] t3)).alloc (.cells #[v4] t4)
 have b3:=(Boxed.new ((w.alloc (.cells #[v1] t1)).alloc (.cells #[v2] t2)) t3 v3).alloc (.cells #[v4] t4)
 have b4:=Boxed.new (((w.alloc (.cells #[v1] t1)).alloc (.cells #[v2] t2)).alloc (.cells #[v3] t3)) t4 v4
 have hB0:Below w.heap.size w ((((w.alloc (.cells #[v1] t1)).alloc (.cells #[v2] t2)).alloc (.cells #[v3] t3)).alloc (.cells #[v4] t4)):=((((Below.refl _ w).alloc (Nat.le_refl _) _).alloc (by simp) _).alloc (by simp;omega) _).alloc (by simp;omega) _
 have hsz:((((w.alloc (.cells #[v1] t1)).alloc (.cells #[v2] t2)).alloc (.cells #[v3] t3)).alloc (.cells #[v4] t4)).heap.size=w.heap.size+4:=by simp
 simp only [World.size_alloc] at b2 b3 b4
 rw [hsz] at h
 exact ⟨(h.block _ (by omega)).trans b1,(h.block _ (by omega)).trans b2,(h.block _ (by omega)).trans b3,(h.block _ (by omega)).trans b4,hB0.trans (h.mono (by omega)),by rw [← hsz];exact h.size⟩
theorem cell_new3 (W : World) (cs : Array Value) (t : TypeId) (i : Nat) {v : Value} (h : cs[i]? = some v) : (W.alloc (.cells cs t)).cell? ⟨W.heap.size, i, none⟩ = some v := by
 have e:=World.alloc_heap_new W (.cells cs t)
 unfold World.cell?
 rw [e]
 exact h
theorem place_ok {d : D} {s : ByteArray} {k : Int} {j : Nat} (hR : Right d) (h : placeD d s k = (j, 0)) : ∃ hlt : j < d.ext.length, exOf d.ext s = d.ext[j] ∧ 0 ≤ k ∧ k < sec d.ext[j] := by
 unfold placeD at h
 by_cases q:has d.ext s=true
 ·obtain ⟨hlt,_⟩:=(has_pos hR.ex.asc s).1 q
  rw [if_pos q] at h
  by_cases q1:k<0∨(sec (exOf d.ext s):Int)≤k
  ·rw [if_pos q1] at h;simp at h
  ·rw [if_neg q1] at h
   obtain rfl:pos d.ext s=j:=by simpa using h
   rw [exOf_eq hlt] at q1 ⊢
   exact ⟨hlt,rfl,by omega,by omega⟩
 ·rw [if_neg q] at h;simp at h
attribute [local go_sem] Oper.semAt_some
theorem boxed_below {n B : Nat} {W W' : World} {t : TypeId} {v : Value} (h : Below n W W') (hb : B < n) (hx : Boxed W B t v) : Boxed W' B t v := (h.block _ hb).trans hx
theorem Waits.grow {n m : Nat} {W : World} {sv : Value} {zs : List Wr} (h : Waits n W sv zs) (hl : n ≤ m) : Waits m W sv zs := by
 obtain ⟨A,cap,e,h1⟩:=h
 exact ⟨A,cap,e,h1.imp id fun ⟨b,off,e1,hb,hc⟩=>⟨b,off,e1,by omega,hc⟩⟩
theorem wr_facts {m : Nat} {ex : Ext} (h1 : sec ex ≤ 16384 ∧ ex.2.size = 64 * sec ex ∧ 1 ≤ sec ex) (h2 : (m : Int) < (sec ex : Int)) : IntKind.i64.wrap (64 * (m : Int)) = ((64 * m : Nat) : Int) ∧ IntKind.i64.wrap ((m : Int) + 1) = ((m + 1 : Nat) : Int) ∧ IntKind.i64.wrap (64 * ((m + 1 : Nat) : Int)) = ((64 * (m + 1) : Nat) : Int) ∧ 64 * (m + 1) ≤ ex.2.size := by
 refine ⟨?_,?_,?_,by omega⟩
 ·rw [IntWalk.i64_in _ (by omega)];omega
 ·rw [IntWalk.i64_in _ (by omega)];omega
 ·rw [IntWalk.i64_in _ (by omega)];omega
/-! ### A region behind a deferred mark -/
def Lk (a : Act) : Env → Prop
  | [] => True
  | (k, v) :: E => a.tmps.getD k undef = v ∧ Lk a E
theorem Lk.at_ {a : Act} : ∀ {E : Env}, Lk a E → ∀ d v, lk E d = some v → a.tmps.getD d undef = v
 | [],_,d,v,h=>by cases h
 | (k,u) :: E,⟨h1,h2⟩,d,v,h=>by
  simp only [lk] at h
  split at h
  ·rename_i e;cases h;rw [← e];exact h1
  ·exact h2.at_ d v h
theorem yield_calm {P : Program} {N : Nat} {o : Oper} {E : Env} {v : Value} {R : Value → World → Prop} {a : Act} {w : World} (hsz : a.tmps.size = N) (hE : Lk a E) (hc : ACalm P N o E (roM w) v) (hR : R v w) : Reg.Yield P (execOp a.eval o) w R := by
 unfold Reg.Yield
 have:=hc ⟨a.tmps,[]⟩ w ⟨hsz,rfl,hE.at_⟩ (view_roM w)
 have e:(execOp a.eval o).run P w = .ok (.value v) w:=this
 rw [e];exact hR
theorem rd_roM {w : World} {a : Addr} {v : Value} (h : w.cell? a = some v) : (roM w).rd a = some v := h
theorem yield_store {P : Program} {T : TypeId} {x y : Operand} {a : Act} {w : World} {b : Nat} {t : TypeId} {v0 v : Value} {ty : TypeId} {pos : String} {aft : Array Edge} {gd : Option (Nat × Bool)} {R : Value → World → Prop} (hs : sizeT P T = some 1) (hc : v.cells = #[v]) (h1 : v.oneCell' = true) (hb : Boxed w b t v0) (hx : a.eval x = .pointer (some ⟨b, 0, none⟩)) (hy : a.eval y = v) (hR : R undef (w.setCell ⟨b, 0, none⟩ v)) : Reg.Yield P (execOp a.eval ⟨none, .store T x y, ty, pos, aft, gd⟩) w R := by
 have hv:View ⟨fun k=>if k=b then some ⟨t,[v0],1⟩ else none,⟨fun _=>none,fun _=>none⟩⟩ w:=⟨fun k r hk=>(by
  by_cases e:k=b
  ·subst e
   simp only [if_true] at hk
   cases hk
   exact ⟨#[v0],(0,0),hb,List.prefix_refl _,Nat.le_refl _,fun j _ h=>by omega⟩
  ·simp only [if_neg e] at hk;cases hk),fun _ _ h=>(by cases h),fun _ _ h=>(by cases h)⟩
 obtain ⟨h2,_⟩:=store_cells (P:=P) hv (b:=b) (o:=0) (r:=⟨t,[v0],1⟩) (vs:=[v]) (by simp) (Nat.zero_le _) (.inl (Nat.le_refl _)) (by simpa using h1)
 have e:(execOp a.eval ⟨none,.store T x y,ty,pos,aft,gd⟩).run P w = .ok .skip (w.setCell ⟨b,0,none⟩ v):=by
  have hs':sizeT P T=some v.cells.size:=by rw [hc];exact hs
  have h2':(storeCells ⟨b,0,none⟩ v.cells.toList).run P w = .ok () (w.setCell ⟨b,0,none⟩ v):=by rw [hc];exact h2
  simp [execOp,hx,hy,Instr.storeAt,Instr.sureAddr,storeVar,run_sizeT hs' w,h2']
 unfold Reg.Yield
 rw [e];exact hR
theorem no_dst {ops : Array Oper} {d : Nat} (h : (ops.toList.all fun o => o.dst != some d) = true) : ∀ (k : Nat) (o : Oper), ops[k]? = some o → o.dst ≠ some d := fun k o hk e => by
 have:=List.all_eq_true.1 h o (by simpa using Array.mem_of_getElem? hk)
 rw [e] at this;simp at this
/-- The two stores of the answer, as far as they are done. -/
def two (W : World) (B6 B7 : Nat) (v6 v7 : Value) : Bool → Bool → World
  | _, true => (W.setCell ⟨B6, 0, none⟩ v6).setCell ⟨B7, 0, none⟩ v7
  | true, false => W.setCell ⟨B6, 0, none⟩ v6
  | false, false => W
theorem keep_two {W : World} {B6 B7 : Nat} {v6 v7 : Value} {st : Nat → Bool} {w1 : World} {i : Nat} (h : w1 = two W B6 B7 v6 v7 (st 15) (st 16)) (h1 : 15 ≠ i) (h2 : 16 ≠ i) : w1 = two W B6 B7 v6 v7 (Reg.upd st i 15) (Reg.upd st i 16) := by
 rw [Reg.upd_other _ h1,Reg.upd_other _ h2];exact h
theorem two_none {W : World} {B6 B7 : Nat} {v6 v7 : Value} {st : Nat → Bool} {w1 : World} (h : w1 = two W B6 B7 v6 v7 (st 15) (st 16)) (h1 : st 15 = false) (h2 : st 16 = false) : w1 = W := by
 rw [h,h1,h2];rfl
set_option maxRecDepth 100000 in
set_option maxHeartbeats 4000000 in
theorem readW (p : Nat) (d : D) (s : ByteArray) (k : Int) (w : World) (qe : Option Addr) (de : Nat) (sv : Value) (h : RdK (roM w) p d qe de sv) (hR : Right d) (hpn : p < w.heap.size) (hWt : Waits w.heap.size w sv d.waits) (hlen : d.waits.length ≤ 16384) :
  Calls Tryz.prog 60 #[.pointer (some ⟨p,0,none⟩),.string s,.int .i64 k] w fun e w'=>e = .returned (.tuple #[.string (readD d s k).1,.int .i64 (readD d s k).2])∧Below w.heap.size w w':=by
 have hpl:=place_calls p d s k w qe de sv h hR
 generalize hrv:readD d s k=rv
 obtain ⟨rv1,rv2⟩:=rv
 unfold readD at hrv
 generalize hpd:placeD d s k=pl at *
 obtain ⟨j,er⟩:=pl
 have hc:∀ i v,[Value.int .i64 d.size,.slice qe d.ext.length de,sv,.int .i64 d.fuse,.bool d.down][i]?=some v → ∀ w2,Below w.heap.size w w2→w2.cell? ⟨p,i,none⟩=some v:=fun i v hi w2 hb=>by
  have:=h.1 w (view_roM w) i v hi
  have e:(⟨p,0,none⟩ : Addr).add i=⟨p,i,none⟩:=by unfold Addr.add;cases i <;> simp
  rw [e] at this
  exact (hb.cell (p:=⟨p,i,none⟩) hpn).trans this
 refine (callsIn_wide (n:=6)).1 ?_
 refine callsIn_of_wp_marks Tryz.func60 rfl trivial ?_ rfl
 simp only [Tryz.ntmps60,List.size_toArray,List.length_cons,List.length_nil,Nat.reduceAdd,Nat.reduceSub,Array.replicate_succ,Array.replicate_zero,List.push_toArray,List.append_toArray,List.nil_append,List.cons_append]
 have hB4:∀ (u1 u2 u3 u4:Value) (t1 t2 t3 t4:TypeId),Below w.heap.size w ((((w.alloc (.cells #[u1] t1)).alloc (.cells #[u2] t2)).alloc (.cells #[u3] t3)).alloc (.cells #[u4] t4)):=fun _ _ _ _ _ _ _ _=>((((Below.refl _ w).alloc (Nat.le_refl _) _).alloc (by simp) _).alloc (by simp;omega) _).alloc (by simp;omega) _
 by_cases q:er=0
 ·subst q
  rw [if_neg (by simp)] at hrv
  obtain ⟨A,cap,rfl,hW1⟩:=id hWt
  gi_wp2_with (first
   | (refine ⟨trivial,?_⟩;gi_at_call 109;refine (callsIn_wide.2 (hpl _ (hB4 _ _ _ _ _ _ _ _))).mono ?_;rintro e w2 ⟨rfl,hb2⟩;obtain ⟨b4,b5,b6,b7,hB2,hs2⟩:=boxes4 hb2;have cW:=hc 2 _ rfl w2 hB2)
   | (refine ⟨trivial,?_⟩;gi_at_call 110;refine (back_in Fence.wide _ trivial rfl _ _ _ _).mono ?_;rintro e w' ⟨rfl,rfl⟩))
  obtain ⟨W0,hW0⟩ : ∃ W0,w2.alloc (.cells #[.slice A d.waits.length cap] 23)=W0:=⟨_,rfl⟩
  have bL:Boxed W0 w2.heap.size 23 (.slice A d.waits.length cap):=by rw [← hW0];exact Boxed.new _ _ _
  have b4':Boxed W0 w.heap.size 9 (.string s):=by rw [← hW0];exact b4.alloc _
  have b5':Boxed W0 (w.heap.size+1) 3 (.int .i64 k):=by rw [← hW0];exact b5.alloc _
  have b6':Boxed W0 (w.heap.size+1+1) 9 (.string { data:=#[] }):=by rw [← hW0];exact b6.alloc _
  have b7':Boxed W0 (w.heap.size+1+1+1) 29 (.int .i64 0):=by rw [← hW0];exact b7.alloc _
  have hB0:Below w.heap.size w W0:=by rw [← hW0];exact hB2.alloc hB2.size _
  have hsz:W0.heap.size=w2.heap.size+1:=by rw [← hW0];simp
  rw [hW0]
  clear hW0 b4 b5 b6 b7 hb2
  have hWt0:Waits W0.heap.size W0 (.slice A d.waits.length cap) d.waits:=(hWt.below hB0).grow (by omega)
  refine wpIn_rangeFunc_ownH rfl (by omega) (gf:=147) (lb:=#[.pointer (some ⟨w2.heap.size,0,none⟩)]) rfl trivial (enters_of Tryz.func147 (by kernel_rfl) rfl)
   (back_stops Fence.wide (6-1) trivial rfl (by omega) w2.heap.size W0.heap.size _ d.waits hlen W0 (by omega) (Nat.le_refl _) bL.cell hWt0) belowK_t (belowK_b (Nat.le_refl _)) (Below.refl _ _) (fun _=>rfl)
   (fun pre W=>(∀ y ∈ pre,hit s k y=false)∧Below W0.heap.size W0 W)
   (fun c pre W=>(c = .ret ∧ ∃ pre' y,pre=pre' ++ [y]∧(∀ z ∈ pre',hit s k z=false)∧hit s k y=true∧Boxed W (w.heap.size+1+1) 9 (.string y.2.2.2)∧Boxed W (w.heap.size+1+1+1) 29 (.int .i64 0))∧Below w.heap.size w W)
   (OwnFrom.and (ownFrom_pure _ _) (ownFrom_below (Nat.le_refl _) (Nat.le_refl _)))
   (fun c=>OwnFrom.and (Own.from (fun st A B row hs hg hr=>by obtain ⟨e0,pre',y,e1,e2,e3,e4,e5⟩:=hs;exact ⟨e0,pre',y,e1,e2,e3,boxed_own _ _ (fun (_:Unit)=>Value.string y.2.2.2) () A B row e4 hg hr,boxed_own _ _ (fun (_:Unit)=>Value.int .i64 0) () A B row e5 hg hr⟩) _) (ownFrom_below (Nat.le_refl _) hB0.size))
   ⟨by simp,Below.refl _ _⟩
   (fun x a' W=>∃ Bx,(W.cell? ⟨Bx,0,none⟩=some (.string x.2.1)∧W.cell? ⟨Bx,1,none⟩=some (.int .i64 x.2.2.1)∧W.cell? ⟨Bx,2,none⟩=some (.string x.2.2.2))∧a' = { tmps:=#[.pointer (some ⟨p,0,none⟩),.string s,.int .i64 k,undef,.pointer (some ⟨w.heap.size,0,none⟩),.pointer (some ⟨w.heap.size+1,0,none⟩),.pointer (some ⟨w.heap.size+1+1,0,none⟩),.pointer (some ⟨w.heap.size+1+1+1,0,none⟩),.int .i64 j,.int .i64 0,undef,.pointer (some ⟨Bx,0,none⟩),.tuple #[.int .i64 j,.int .i64 0],.pointer (some ⟨p,0,none⟩),.string s,.int .i64 k,.tuple #[.int .i64 j,.int .i64 0],.int .i64 j,.int .i64 0,.int .i64 0,.bool false,undef,.pointer (some ⟨p,0,none⟩),.pointer (some ⟨p,0,none⟩),.pointer (some ⟨p,0,none⟩),.pointer (some ⟨p,2,none⟩),.slice A d.waits.length cap,.func (.func 147) #[] #[.pointer (some ⟨w2.heap.size,0,none⟩)],.int .i64 x.1,wrV x.2,undef,undef,undef,undef,undef,undef,undef,undef,undef,undef,undef,undef,undef,undef,undef,undef,undef,undef,undef,undef,undef,undef,undef,undef,undef,undef,undef],defers:=[] })
   (fun x a' st X Y row hs hg hr=>by obtain ⟨Bx,⟨h1,h2,h3⟩,h4⟩:=hs;exact ⟨Bx,⟨cell_kept h1 hg (fun r e=>(hr r e).2),cell_kept h2 hg (fun r e=>(hr r e).2),cell_kept h3 hg (fun r e=>(hr r e).2)⟩,h4⟩)
   ?assign ?body ?done ?stop
  case assign =>
   rintro l pre x W K ⟨hI1,hI2⟩ hK
   simp only [wrV] at hK ⊢
   gi_wp2
   exact hK _ _ ((KeepsOthers.alloc _ _).from _) ((Below.refl _ W).alloc hI2.size _) ⟨hI1,hI2.alloc hI2.size _⟩ ⟨W.heap.size,⟨cell_new3 W _ _ 0 rfl,cell_new3 W _ _ 1 rfl,cell_new3 W _ _ 2 rfl⟩,rfl⟩
  case body =>
   rintro l pre x a' W hl ⟨r,hr⟩ ⟨hI1,hI2⟩ ⟨Bx,⟨c0,c1,c2⟩,rfl⟩ hlt
   simp only [wrV]
   have cs:=(boxed_below hI2 (by omega) b4').cell
   have ck:=(boxed_below hI2 (by omega) b5').cell
   have bs:=boxed_below hI2 (by omega) b6'
   have be:=boxed_below hI2 (by omega) b7'
   have cs6:=bs.cell
   have fs6:=bs.frozen
   have cs7:=be.cell
   have fs7:=be.frozen
   have hBW:Below w.heap.size w W:=hB0.trans (hI2.mono hB0.size)
   gi_wp2
   ·rename_i hx1 hx2
    refine ⟨((KeepsOthers.setCell _ _ _).trans (KeepsOthers.setCell _ _ _)).from _,⟨rfl,pre,x,rfl,hI1,by unfold hit;rw [hx2,hx1];simp,(bs.set _).other (by omega) _,(be.other (by omega) _).set _⟩,(hBW.setCell (p:=⟨w.heap.size+1+1,0,none⟩) (by simp;omega) _).setCell (p:=⟨w.heap.size+1+1+1,0,none⟩) (by simp;omega) _⟩
   ·rename_i hx1 hx2
    exact ⟨KeepsFrom.refl _ _,Below.refl _ _,fun y hy=>(List.mem_append.1 hy).elim (hI1 y) (fun e=>by simp at e;subst e;unfold hit;rw [hx2];simp),hI2⟩
   ·rename_i hx1
    exact ⟨KeepsFrom.refl _ _,Below.refl _ _,fun y hy=>(List.mem_append.1 hy).elim (hI1 y) (fun e=>by simp at e;subst e;unfold hit;rw [beq_eq_false_iff_ne.2 hx1];rfl),hI2⟩
  case done =>
   rintro D ys W hD rfl ⟨hI1,hI2⟩ hK
   have hBW:Below w.heap.size w W:=hB0.trans (hI2.mono hB0.size)
   obtain ⟨hlt,hex,hk0,hk1⟩:=place_ok hR hpd
   obtain ⟨_,_,ee1,ee2,ee3,hE3⟩:=id h.2
   cases ee1
   obtain ⟨b,off,rfl,hkk⟩:=hE3.resolve_left (fun e=>by rw [e] at hlt;simp at hlt)
   have cE:=hc 1 _ rfl W hBW
   have ck:=(boxed_below hI2 (by omega) b5').cell
   have bs:=boxed_below hI2 (by omega) b6'
   have be:=boxed_below hI2 (by omega) b7'
   have cs6:=bs.cell
   have fs6:=bs.frozen
   have cs7:=be.cell
   have fs7:=be.frozen
   gi_wp2
   have cX:W.cell? ⟨b,off+j*2+1,none⟩=some (.string d.ext[j].2):=kn_at (hkk _ hlt) 1 rfl W (view_later hBW) 0 _ rfl
   have hsx:=right_sec hR (List.getElem_mem hlt)
   obtain ⟨m,rfl⟩ : ∃ m:Nat,k=m:=⟨k.toNat,by omega⟩
   have hnone:lastW d.waits s m=none:=by
    unfold lastW;rw [List.find?_eq_none];intro y hy;rw [hI1 y hy];simp
   rw [hnone,hex] at hrv
   clear hex hnone
   generalize d.ext[j]=ex at *
   obtain ⟨hm1,hm2,hm3,hm4⟩:=wr_facts hsx hk1
   clear hpl hc hW1 hWt0 hB4 hB2 cW bL b4' b5' b6' b7' hI1 hkk hE3 hk0
   refine wpIn_wide.2 ?_
   refine Reg.wp_steps rfl (by kernel_rfl) (fun k v _=>v=([.pointer (some ⟨p,0,none⟩),.pointer (some ⟨p,0,none⟩),.pointer (some ⟨p,0,none⟩),.pointer (some ⟨p,1,none⟩),.slice (some ⟨b,off,none⟩) d.ext.length de,.int .i64 (j:Int),.pointer (some ⟨b,off+j*2,none⟩),.pointer (some ⟨b,off+j*2+1,none⟩),.string ex.2,.int .i64 (m:Int),.int .i64 ((64*m:Nat):Int),.int .i64 (m:Int),.int .i64 ((m+1:Nat):Int),.int .i64 ((64*(m+1):Nat):Int),.string (ex.2.extract (64*m) (64*(m+1)))] : List Value).getD k undef) (fun st w'=>w'=two W.drew (w.heap.size+1+1) (w.heap.size+1+1+1) (.string (ex.2.extract (64*m) (64*(m+1)))) (.int .i64 0) (st 15) (st 16)) (fun _ _=>True) rfl (fun _ _ _ _ _ h=>h) (Reg.each ?_) ?fin
   case fin =>
    intro tm w' st hsz' hI hall hDf hbase
    have e15:st 15=true:=hall 15 (by decide)
    have e16:st 16=true:=hall 16 (by decide)
    have g6:tm[6]?.getD undef = .pointer (some ⟨w.heap.size+1+1,0,none⟩):=by rw [← Array.getD_eq_getD_getElem?];exact hbase 6 (no_dst (by kernel_rfl))
    have g7:tm[7]?.getD undef = .pointer (some ⟨w.heap.size+1+1+1,0,none⟩):=by rw [← Array.getD_eq_getD_getElem?];exact hbase 7 (no_dst (by kernel_rfl))
    have hw':w'=(W.drew.setCell ⟨w.heap.size+1+1,0,none⟩ (.string (ex.2.extract (64*m) (64*(m+1))))).setCell ⟨w.heap.size+1+1+1,0,none⟩ (.int .i64 0):=by have h:w'=two _ _ _ _ _ (st 15) (st 16):=hI;rw [h,e15,e16];rfl
    obtain ⟨rfl,rfl⟩ : ex.2.extract (64*m) (64*(m+1))=rv1∧(0:Int)=rv2:=by simpa [Int.toNat_natCast,Nat.mul_succ] using hrv
    have b6:=((bs.set (W:=W.drew) (.string (ex.2.extract (64*m) (64*(m+1))))).other (B':=w.heap.size+1+1+1) (by omega) (.int .i64 0))
    have b7:=((be.other (W:=W.drew) (B':=w.heap.size+1+1) (by omega) (.string (ex.2.extract (64*m) (64*(m+1))))).set (.int .i64 0))
    have hB':Below w.heap.size w w':=by rw [hw'];exact ((hBW.drew).setCell (p:=⟨w.heap.size+1+1,0,none⟩) (by simp;omega) _).setCell (p:=⟨w.heap.size+1+1+1,0,none⟩) (by simp;omega) _
    have hK':w'.heap[D]?=some (.deferred (some [])):=by rw [hw',Below.heap_setCell _ _ _ _ (by show D≠w.heap.size+1+1+1;omega),Below.heap_setCell _ _ _ _ (by show D≠w.heap.size+1+1;omega)];exact hK
    rw [← hw'] at b6 b7
    clear hDf hm1 hm2 hm3 hm4 hsz' hbase hall hI hw' e15 e16 hrv ck cE cX cs6 cs7 fs6 fs7 bs be
    rename_i K1 aK
    refine aK _ _ ?_
    gi_wp2
    refine ⟨by simp,.inl ⟨_,_,rfl,run_takeDeferred hK',?_⟩⟩
    have h6:=cell_kept b6.cell (grownBy_putObj' _ D (.deferred none)) (fun r e=>by cases e;exact ⟨_,hK',rfl⟩)
    have h7:=cell_kept b7.cell (grownBy_putObj' _ D (.deferred none)) (fun r e=>by cases e;exact ⟨_,hK',rfl⟩)
    refine ⟨.tuple #[.string (ex.2.extract (64*m) (64*(m+1))),.int .i64 0],?_,rfl,hB'.trans (belowK_b (w:=w) (Nat.le_refl _) _ D _ _ (by omega) hK' rfl rfl)⟩
    simp [results,Tryz.f60,go_sem,h6,h7,g6,g7]
   refine ⟨?_,?_,?_,?_,?_,?_,?_,?_,?_,?_,?_,?_,?_,?_,?_,?_,?_,trivial⟩
   all_goals (intro a w1 st ha hI hd hs hi hw hT;clear hK hBW hI2 hB0 hWt hpd hrv h)
   ·obtain rfl:=two_none hI (hw 15 (by kernel_rfl)) (hw 16 (by kernel_rfl))
    exact yield_calm ha (E:=[(0,.pointer (some ⟨p,0,none⟩))]) ⟨hT 0 (by kernel_rfl),trivial⟩ (Calm.move rfl) ⟨rfl,keep_two hI (by decide) (by decide),trivial⟩
   ·obtain rfl:=two_none hI (hw 15 (by kernel_rfl)) (hw 16 (by kernel_rfl))
    exact yield_calm ha (E:=[(42,.pointer (some ⟨p,0,none⟩))]) ⟨hd ⟨0,.data⟩ (by simp) rfl _ _ rfl rfl,trivial⟩ (Calm.nilCheck rfl) ⟨rfl,keep_two hI (by decide) (by decide),trivial⟩
   ·obtain rfl:=two_none hI (hw 15 (by kernel_rfl)) (hw 16 (by kernel_rfl))
    exact yield_calm ha (E:=[(43,.pointer (some ⟨p,0,none⟩))]) ⟨hd ⟨1,.data⟩ (by simp) rfl _ _ rfl rfl,trivial⟩ (Calm.fieldAddr (n:=4) (off:=0) (by kernel_rfl) rfl) ⟨rfl,keep_two hI (by decide) (by decide),trivial⟩
   ·obtain rfl:=two_none hI (hw 15 (by kernel_rfl)) (hw 16 (by kernel_rfl))
    exact yield_calm ha (E:=[(44,.pointer (some ⟨p,0,none⟩))]) ⟨hd ⟨2,.data⟩ (by simp) rfl _ _ rfl rfl,trivial⟩ (Calm.fieldAddr (n:=0) (off:=1) (by kernel_rfl) rfl) ⟨rfl,keep_two hI (by decide) (by decide),trivial⟩
   ·obtain rfl:=two_none hI (hw 15 (by kernel_rfl)) (hw 16 (by kernel_rfl))
    exact yield_calm ha (E:=[(45,.pointer (some ⟨p,1,none⟩))]) ⟨hd ⟨3,.data⟩ (by simp) rfl _ _ rfl rfl,trivial⟩ (Calm.load (by kernel_rfl) rfl (rd_roM cE)) ⟨rfl,keep_two hI (by decide) (by decide),trivial⟩
   ·obtain rfl:=two_none hI (hw 15 (by kernel_rfl)) (hw 16 (by kernel_rfl))
    exact yield_calm ha (E:=[(8,.int .i64 (j:Int))]) ⟨hT 8 (by kernel_rfl),trivial⟩ (Calm.move rfl) ⟨rfl,keep_two hI (by decide) (by decide),trivial⟩
   ·obtain rfl:=two_none hI (hw 15 (by kernel_rfl)) (hw 16 (by kernel_rfl))
    exact yield_calm ha (E:=[(46,.slice (some ⟨b,off,none⟩) d.ext.length de),(47,.int .i64 (j:Int))]) ⟨hd ⟨4,.data⟩ (by simp) rfl _ _ rfl rfl,hd ⟨5,.data⟩ (by simp) rfl _ _ rfl rfl,trivial⟩ (Calm.indexS (e:=81) (n:=2) (by kernel_rfl) (by kernel_rfl) rfl rfl (Int.natCast_nonneg _) (Int.ofNat_lt.2 hlt)) ⟨rfl,keep_two hI (by decide) (by decide),trivial⟩
   ·obtain rfl:=two_none hI (hw 15 (by kernel_rfl)) (hw 16 (by kernel_rfl))
    exact yield_calm ha (E:=[(48,.pointer (some ⟨b,off+j*2,none⟩))]) ⟨hd ⟨6,.data⟩ (by simp) rfl _ _ rfl rfl,trivial⟩ (Calm.fieldAddr (n:=0) (off:=1) (by kernel_rfl) rfl) ⟨rfl,keep_two hI (by decide) (by decide),trivial⟩
   ·obtain rfl:=two_none hI (hw 15 (by kernel_rfl)) (hw 16 (by kernel_rfl))
    exact yield_calm ha (E:=[(49,.pointer (some ⟨b,off+j*2+1,none⟩))]) ⟨hd ⟨7,.data⟩ (by simp) rfl _ _ rfl rfl,trivial⟩ (Calm.load (by kernel_rfl) rfl (rd_roM cX)) ⟨rfl,keep_two hI (by decide) (by decide),trivial⟩
   ·obtain rfl:=two_none hI (hw 15 (by kernel_rfl)) (hw 16 (by kernel_rfl))
    exact yield_calm ha (E:=[(5,.pointer (some ⟨w.heap.size+1,0,none⟩))]) ⟨hT 5 (by kernel_rfl),trivial⟩ (Calm.load (by kernel_rfl) rfl (rd_roM ck)) ⟨rfl,keep_two hI (by decide) (by decide),trivial⟩
   ·obtain rfl:=two_none hI (hw 15 (by kernel_rfl)) (hw 16 (by kernel_rfl))
    exact yield_calm ha (E:=[(51,.int .i64 (m:Int))]) ⟨hd ⟨9,.data⟩ (by simp) rfl _ _ rfl rfl,trivial⟩ (Calm.bin rfl rfl (bin_mulW hm1)) ⟨rfl,keep_two hI (by decide) (by decide),trivial⟩
   ·obtain rfl:=two_none hI (hw 15 (by kernel_rfl)) (hw 16 (by kernel_rfl))
    exact yield_calm ha (E:=[(5,.pointer (some ⟨w.heap.size+1,0,none⟩))]) ⟨hT 5 (by kernel_rfl),trivial⟩ (Calm.load (by kernel_rfl) rfl (rd_roM ck)) ⟨rfl,keep_two hI (by decide) (by decide),trivial⟩
   ·obtain rfl:=two_none hI (hw 15 (by kernel_rfl)) (hw 16 (by kernel_rfl))
    exact yield_calm ha (E:=[(53,.int .i64 (m:Int))]) ⟨hd ⟨11,.data⟩ (by simp) rfl _ _ rfl rfl,trivial⟩ (Calm.bin rfl rfl (bin_addW hm2)) ⟨rfl,keep_two hI (by decide) (by decide),trivial⟩
   ·obtain rfl:=two_none hI (hw 15 (by kernel_rfl)) (hw 16 (by kernel_rfl))
    exact yield_calm ha (E:=[(54,.int .i64 ((m+1:Nat):Int))]) ⟨hd ⟨12,.data⟩ (by simp) rfl _ _ rfl rfl,trivial⟩ (Calm.bin rfl rfl (bin_mulW hm3)) ⟨rfl,keep_two hI (by decide) (by decide),trivial⟩
   ·obtain rfl:=two_none hI (hw 15 (by kernel_rfl)) (hw 16 (by kernel_rfl))
    exact yield_calm ha (E:=[(50,.string ex.2),(52,.int .i64 ((64*m:Nat):Int)),(55,.int .i64 ((64*(m+1):Nat):Int))]) ⟨hd ⟨8,.data⟩ (by simp) rfl _ _ rfl rfl,hd ⟨10,.data⟩ (by simp) rfl _ _ rfl rfl,hd ⟨13,.data⟩ (by simp) rfl _ _ rfl rfl,trivial⟩ (Calm.sliceStr (l:=64*m) (h:=64*(m+1)) (by kernel_rfl) rfl ⟨_,_,rfl,Int.natCast_nonneg _,Int.ofNat_le.2 hm4,rfl⟩ ⟨_,_,rfl,Int.natCast_nonneg _,Int.ofNat_le.2 (Nat.mul_le_mul_left 64 (Nat.le_succ m)),rfl⟩) ⟨rfl,keep_two hI (by decide) (by decide),trivial⟩
   ·obtain rfl:=two_none hI hi (hw 16 (by kernel_rfl))
    refine yield_store (v:=.string (ex.2.extract (64*m) (64*(m+1)))) (by kernel_rfl) rfl rfl bs (hT 6 (by kernel_rfl)) (hd ⟨14,.data⟩ (by simp) rfl _ _ rfl rfl) ⟨rfl,?_,trivial⟩
    show _=two _ _ _ _ _ (Reg.upd st 15 15) (Reg.upd st 15 16)
    rw [Reg.upd_same,Reg.upd_other _ (by decide),show st 16=false from hw 16 (by kernel_rfl)];rfl
   ·have e15:st 15=true:=hs ⟨15,.chain⟩ (by simp) rfl
    have e16:st 16=false:=hi
    have hw1:w1=W.drew.setCell ⟨w.heap.size+1+1,0,none⟩ (.string (ex.2.extract (64*m) (64*(m+1)))):=by have h:w1=two _ _ _ _ _ (st 15) (st 16):=hI;rw [h,e15,e16];rfl
    subst hw1
    refine yield_store (v:=.int .i64 0) (by kernel_rfl) rfl rfl (be.other (W:=W.drew) (by omega) _) (hT 7 (by kernel_rfl)) rfl ⟨rfl,?_,trivial⟩
    show _=two _ _ _ _ _ (Reg.upd st 16 15) (Reg.upd st 16 16)
    rw [Reg.upd_same,Reg.upd_other _ (by decide),e15];rfl
  case stop =>
   rintro D c pre W hD ⟨n,hn,rfl⟩ ⟨⟨rfl,pre',y,e1,e2,e3,e4,e5⟩,hB⟩ hK
   have c6:=e4.cell
   have c7:=e5.cell
   have hsome:lastW d.waits s k=some y:=by
    unfold lastW
    obtain ⟨r,hr⟩ : ∃ r,upto (backF d.waits) d.waits.length=upto (backF d.waits) n ++ r:=by
     refine ⟨((List.range d.waits.length).drop n).map (backF d.waits),?_⟩
     unfold upto
     rw [← List.map_append]
     congr 1
     rw [show List.range n=(List.range d.waits.length).take n from by rw [List.take_range];congr 1;omega,List.take_append_drop]
    rw [hr,e1,List.append_assoc,List.find?_append,List.find?_eq_none.2 (fun z hz=>by rw [e2 z hz];simp)]
    simp [e3]
   rw [hsome] at hrv
   obtain ⟨rfl,rfl⟩ : y.2.2.2=rv1∧(0:Int)=rv2:=by simpa using hrv
   gi_wp2
   refine ⟨by simp,.inl ⟨_,_,rfl,run_takeDeferred hK,?_⟩⟩
   have h6:=cell_kept c6 (grownBy_putObj' _ D (.deferred none)) (fun r e=>by cases e;exact ⟨_,hK,rfl⟩)
   have h7:=cell_kept c7 (grownBy_putObj' _ D (.deferred none)) (fun r e=>by cases e;exact ⟨_,hK,rfl⟩)
   refine ⟨.tuple #[.string y.2.2.2,.int .i64 0],?_,rfl,hB.trans (belowK_b (w:=w) (Nat.le_refl _) W D _ _ (by omega) hK rfl rfl)⟩
   simp [results,Tryz.f60,go_sem,h6,h7]
 ·rw [if_pos q] at hrv
  obtain ⟨rfl,rfl⟩ : ByteArray.empty=rv1∧er=rv2:=by simpa using hrv
  gi_wp2_with (refine ⟨trivial,?_⟩;gi_at_call 109;refine (callsIn_wide.2 (hpl _ (hB4 _ _ _ _ _ _ _ _))).mono ?_;rintro e w2 ⟨rfl,hb2⟩;obtain ⟨b4,b5,b6,b7,hB2,hs2⟩:=boxes4 hb2;have c6:=b6.cell;have f6:=b6.frozen;have c7:=b7.cell;have f7:=b7.frozen)
  have c6':=((b6.set (.string ⟨#[]⟩)).other (B':=w.heap.size+1+1+1) (by omega) (.int .i64 er)).cell
  have c7':=((b7.other (B':=w.heap.size+1+1) (by omega) (.string ⟨#[]⟩)).set (.int .i64 er)).cell
  refine ⟨.tuple #[.string ⟨#[]⟩,.int .i64 er],?_,rfl,(hB2.setCell (p:=⟨w.heap.size+1+1,0,none⟩) (by simp;omega) _).setCell (p:=⟨w.heap.size+1+1+1,0,none⟩) (by simp;omega) _⟩
  simp [results,Tryz.f60,go_sem,c6',c7']
end Go.Proofs.YtceikpipmcadmaaGreatDoor
namespace Go.Proofs.YtceikpipmcadmaaGreatDoor
open Go.RowKit
open Mv Disk
set_option maxRecDepth 4000
theorem Mv.Sl.at_roM {α : Type} {n : Nat} {f : α → List Value} {M : Mem} {v : Value} {l : List α} (h : Sl n f M v l) {w : World} (hv : View M w) : Sl n f (roM w) v l := by
 obtain ⟨a,cap,rfl,h1,h2,h3⟩:=h
 exact ⟨a,cap,rfl,h1,h2,h3.imp id fun ⟨b,off,e,hk⟩=>⟨b,off,e,fun j hj=>roM_knows (hk j hj w hv)⟩⟩
theorem waits_of {M : Mem} {v : Value} {l : List Wr} (h : Sl 3 wrF M v l) {w : World} (hv : View M w) : Waits w.heap.size w v l := by
 obtain ⟨a,cap,rfl,h1,h2,h3⟩:=h
 refine ⟨a,cap,rfl,h3.elim .inl fun ⟨b,off,e,hk⟩=>?_⟩
 cases hl:l with
 | nil=>exact .inl rfl
 | cons x r =>
  right
  subst hl
  refine ⟨b,off,e,?_,fun j hj q v hq=>?_⟩
  ·have h0:=hk 0 (by simp) w hv 0 _ rfl
   rcases Nat.lt_or_ge b w.heap.size with q | q
   ·exact q
   ·simp [World.cell?,Addr.add,Array.getElem?_eq_none q] at h0
  ·have h0:=hk j hj w hv q v hq
   have e:(⟨b,off+j*3,none⟩ : Addr).add q=⟨b,off+j*3+q,none⟩:=by unfold Addr.add;cases q <;> simp
   rw [e] at h0;exact h0
theorem dev_Read (p : Nat) (d : D) (s : ByteArray) (k : Int) (M : Mem) (h : RdV M p d) (hR : Right d) :
  ACall Tryz.prog 60 #[.pointer (some ⟨p,0,none⟩),.string s,.int .i64 k] M fun r S'=>r = .tuple #[.string (readD d s k).1,.int .i64 (readD d s k).2]∧S'=M:=by
 obtain ⟨qe,de,qw,dw,hp,hE,hW⟩:=h
 intro w hv
 have hk:RdK (roM w) p d qe de (.slice qw d.waits.length dw):=⟨roM_knows fun j v hj=>by
  refine hv.rd ?_
  have e:(⟨p,0,none⟩ : Addr).add j=⟨p,j,none⟩:=by unfold Addr.add;cases j <;> simp
  rw [e];unfold Mem.rd;rw [hp];exact hj,hE.at_roM hv⟩
 exact (readW p d s k w qe de _ hk hR (hv.lt hp) (waits_of hW hv) hR.wl).mono fun _ _ ⟨he,hb⟩=>⟨_,_,he,⟨rfl,rfl⟩,Step.below hv hb⟩
noncomputable def readO (d : D) (s : ByteArray) (k : Int) : ByteArray × Int := if (openD d).2 ≠ 0 then (ByteArray.empty, (openD d).2) else readD d s k
end Go.Proofs.YtceikpipmcadmaaGreatDoor
namespace Go.Proofs.YtceikpipmcadmaaGreatDoor
open Go.RowKit
open Mv Disk
set_option maxRecDepth 4000
/-- Why there is no such sector. -/
noncomputable def placeO (d : D) (s : ByteArray) (k : Int) : Int := if (openD d).2 ≠ 0 then (openD d).2 else (placeD d s k).2
end Go.Proofs.YtceikpipmcadmaaGreatDoor
namespace Go.Proofs.YtceikpipmcadmaaGreatDoor
open Go.RowKit
open Mv Disk
set_option maxRecDepth 4000
theorem readO_see (d : D) (s : ByteArray) (k : Int) : readO d s k = if placeO d s k ≠ 0 then (ByteArray.empty, placeO d s k) else (seen d s k, 0) := by
 unfold readO placeO
 by_cases q:(openD d).2=0
 ·have h1 : ¬ ((openD d).2≠0):=by simpa using q
  simp only [if_neg h1];exact readD_see d s k
 ·rw [if_pos q,if_pos q,if_pos q]
end Go.Proofs.YtceikpipmcadmaaGreatDoor
namespace Go.Proofs.YtceikpipmcadmaaGreatDoor
open Go.RowKit
open Mv Disk
set_option maxRecDepth 4000
def nA : ByteArray := ⟨#[97]⟩
def nB : ByteArray := ⟨#[98]⟩
def nC : ByteArray := ⟨#[99]⟩
def oneS : ByteArray := bs (List.replicate 63 0) ++ ⟨#[49]⟩
def twoS : ByteArray := bs (List.replicate 63 0) ++ ⟨#[50]⟩
theorem one_size : oneS.size = 64 := by unfold oneS; rw [ByteArray.size_append, size_bs, List.length_replicate]; rfl
theorem two_size : twoS.size = 64 := by unfold twoS; rw [ByteArray.size_append, size_bs, List.length_replicate]; rfl
def L0 : D := ⟨4, [], [], -1, false⟩
/-- One extent of two sectors. -/
def L1 (s x : ByteArray) (w : List Wr) : D := ⟨4, [(s, x)], w, -1, false⟩
theorem right_L0 : Right L0 := ⟨by decide, by decide, by decide, by decide, ⟨fun x h => (by cases h), List.Pairwise.nil, by decide⟩, fun w h => (by cases h)⟩
theorem sec2 {s x : ByteArray} (hx : x.size = 128) : sec (s, x) = 2 := by unfold sec; simp only; rw [hx]
theorem right_L1 {s x : ByteArray} {w : List Wr} (hs : nm s) (hx : x.size = 128) (hw : ∀ y ∈ w, y.1 = s ∧ 0 ≤ y.2.1 ∧ y.2.1 < 2 ∧ y.2.2.size = 64) (hl : w.length ≤ 16384) : Right (L1 s x w) := by
 refine ⟨by show (0:Int)≤4;decide,by show (4:Int)≤16384;decide,hl,by show (-1:Int) ≤ -1;decide,⟨fun y hy=>?_,List.pairwise_singleton _ _,?_⟩,fun y hy=>?_⟩
 ·obtain rfl:y=(s,x):=by unfold L1 at hy;simpa using hy
  exact ⟨hs,by simp only;omega,by simp only;omega⟩
 ·show ((used [(s,x)] : Nat):Int)≤4
  simp only [used,sec2 hx];omega
 ·obtain ⟨h1,h2,h3,h4⟩:=hw y hy
  exact ⟨(s,x),by unfold L1;simp,h1.symm,h2,by rw [sec2 hx];exact h3,h4⟩
theorem open_ok {d : D} (h : Right d) (hd : d.down = false) : openD d = (d, 0) := by
 rcases openD_or d with ⟨ho,hR⟩ | ⟨ho,hR,hdn⟩ | ⟨ho,hR,hdn⟩
 ·exact absurd h hR
 ·rw [hd] at hdn;cases hdn
 ·exact ho
theorem opened_ok {d : D} (h : Right d) (hd : d.down = false) (f : D × Int) : opened d f = f := by unfold opened; rw [open_ok h hd, if_pos rfl]
theorem pos_one (s x : ByteArray) : pos [(s, x)] s = 0 := pos_no (lt_irrefl _)
theorem has_one (s x : ByteArray) : has [(s, x)] s = true := by simp [has]
theorem exOf_one (s x : ByteArray) : exOf [(s, x)] s = (s, x) := by unfold exOf; rw [pos_one]; rfl
theorem place_one {s x : ByteArray} {w : List Wr} (hx : x.size = 128) {k : Int} (h0 : 0 ≤ k) (h1 : k < 2) : placeD (L1 s x w) s k = (0, 0) := by
 unfold placeD L1
 simp only [has_one,exOf_one,sec2 hx,pos_one,if_true]
 rw [if_neg (by omega)]
theorem nmA : nm nA := ⟨by decide, by decide⟩
theorem zeros2 : (zeros 2).size = 128 := zeros_size 2
theorem l1 : opened L0 (newD L0 nA 2) = (L1 nA (zeros 2) [], 0) := by
 rw [opened_ok right_L0 rfl]
 unfold newD
 rw [if_neg (by rintro (h | h);exact h nmA;omega),if_neg (by simp [L0,has]),if_neg (by simp [L0,used])]
 rfl
def W1 : List Wr := [(nA, 0, oneS)]
def W2 : List Wr := [(nA, 0, oneS), (nA, 1, twoS)]
theorem right_1 (x : ByteArray) (hx : x.size = 128) : Right (L1 nA x []) := right_L1 nmA hx (fun y h => by cases h) (by decide)
theorem w2_ok : ∀ y ∈ W2, y.1 = nA ∧ 0 ≤ y.2.1 ∧ y.2.1 < 2 ∧ y.2.2.size = 64 := fun y h => by
 unfold W2 at h
 simp only [List.mem_cons,List.not_mem_nil,or_false] at h
 rcases h with rfl | rfl
 ·exact ⟨rfl,by decide,by decide,one_size⟩
 ·exact ⟨rfl,by decide,by decide,two_size⟩
theorem right_W2 : Right (L1 nA (zeros 2) W2) := right_L1 nmA zeros2 w2_ok (by decide)
theorem write_one {s x : ByteArray} {w : List Wr} (hx : x.size = 128) {k : Int} (h0 : 0 ≤ k) (h1 : k < 2) {y : ByteArray} (hy : y.size = 64) (hw : w.length < 16384) : writeD (L1 s x w) s k y = (L1 s x (w ++ [(s, k, y)]), 0) := by
 unfold writeD
 rw [place_one hx h0 h1,if_neg (by simp),if_neg (by omega),if_neg (by unfold L1;simp only;omega)]
 unfold fuseD addW L1
 rw [if_neg (by show ¬ (-1:Int)=0;decide),if_neg (by show ¬ (0:Int) < -1;decide)]
theorem l2 : opened (L1 nA (zeros 2) []) (writeD (L1 nA (zeros 2) []) nA 0 oneS) = (L1 nA (zeros 2) W1, 0) := by
 rw [opened_ok (right_1 _ zeros2) rfl,write_one zeros2 (by decide) (by decide) one_size (by decide)];rfl
theorem read_one {x : ByteArray} {w : List Wr} (hR : Right (L1 nA x w)) (hx : x.size = 128) {k : Int} (h0 : 0 ≤ k) (h1 : k < 2) : readO (L1 nA x w) nA k = (seeW allK w nA k (x.extract (64 * k.toNat) (64 * k.toNat + 64)) w.length, 0) := by
 rw [readO_see]
 have:placeO (L1 nA x w) nA k=0:=by unfold placeO;rw [open_ok hR rfl,if_neg (by simp),place_one hx h0 h1]
 rw [this,if_neg (by simp)]
 unfold seen L1
 simp only [exOf_one]
theorem l4 : readO (L1 nA (zeros 2) W2) nA 0 = (oneS, 0) := by
 rw [read_one right_W2 zeros2 (by decide) (by decide)]
 simp [W2,seeW,allK]
def x4 : ByteArray := (doneX (keepK [false, true]) W2 (nA, zeros 2)).2
theorem l5 : crashD (L1 nA (zeros 2) W2) [false, true] = (L1 nA x4 [], 0) := by
 unfold crashD
 rw [chkD_yes right_W2,if_pos rfl];rfl
/-- Bounds of what comes in, of a disk that is right. -/
theorem dz_right {d : D} (h : Right d) (hf : d.fuse ≤ 9223372036854775807) : Dz d := by
 have hl:=right_len h
 refine ⟨by have:=h.s0;omega,by have:=h.s1;omega,by have:=h.fu;omega,hf,by omega,by have:=h.wl;omega,fun x hx=>?_,fun w hw=>?_⟩
 ·have h1:=right_sec h hx
  have h2:=(h.ex.ok x hx).1.2
  omega
 ·obtain ⟨x,hx,e,h0,h1,h2⟩:=h.wr w hw
  have h3:=right_sec h hx
  have h4:=(h.ex.ok x hx).1.2
  rw [e] at h4
  omega
end Go.Proofs.YtceikpipmcadmaaGreatDoor
namespace Go.Proofs.YtceikpipmcadmaaGreatDoor
open Go.RowKit
open Mv Disk
theorem used_map {f : Ext → Ext} {l : List Ext} (hf : ∀ x ∈ l, sec (f x) = sec x) : used (l.map f) = used l := by
 induction l with
 | nil=>rfl
 | cons x l ih=>simp only [List.map_cons,used];rw [hf x (by simp),ih (fun y hy=>hf y (by simp [hy]))]
theorem done_size {d : D} (hR : Right d) (kp : Nat → Bool) {x : Ext} (hx : x ∈ d.ext) : (doneX kp d.waits x).2.size = x.2.size := acc_size (kp := kp) (right_fit hR hx) d.waits.length (Nat.le_refl _)
theorem right_settle {d : D} (hR : Right d) (kp : Nat → Bool) : Right (settleD d kp) := by
 refine ⟨hR.s0,hR.s1,by unfold settleD;simp,hR.fu,⟨fun x hx=>?_,asc_map (f:=doneX kp d.waits) (fun _=>rfl) hR.ex.asc,?_⟩,fun w hw=>by unfold settleD at hw;cases hw⟩
 ·obtain ⟨y,hy,rfl⟩:=List.mem_map.1 hx
  have h:=hR.ex.ok y hy
  exact ⟨h.1,by rw [done_size hR kp hy];exact h.2.1,by rw [done_size hR kp hy];exact h.2.2⟩
 ·show ((used (d.ext.map (doneX kp d.waits)):Nat):Int)≤d.size
  rw [used_map (fun x hx=>by unfold sec;rw [done_size hR kp hx])]
  exact hR.ex.us
theorem right_fuse {d : D} (hR : Right d) {f : Int} (hf : -1 ≤ f) (b : Bool) : Right { d with fuse := f, down := b } := ⟨hR.s0, hR.s1, hR.wl, hf, hR.ex, hR.wr⟩
theorem right_add {d : D} {s data : ByteArray} {k : Int} (hR : Right d) (hp : (placeD d s k).2 = 0) (hs : data.size = 64) (hl : d.waits.length < 16384) : Right (addW d (s, k, data)) := by
 obtain ⟨hh,h0,h1⟩:=place0 hp
 obtain ⟨hm,hn⟩:=exOf_has hR.ex.asc hh
 refine ⟨hR.s0,hR.s1,by rw [add_len];omega,hR.fu,hR.ex,fun w hw=>?_⟩
 unfold addW at hw
 rcases List.mem_append.1 hw with h | h
 ·exact hR.wr w h
 ·obtain rfl:w=(s,k,data):=by simpa using h
  exact ⟨_,hm,hn,h0,h1,hs⟩
/-- A write that has no error. -/
theorem write_ok {d : D} {s data : ByteArray} {k : Int} (hf1 : d.fuse ≤ 9223372036854775807) (h : (opened d (writeD d s k data)).2 = 0) :
  Right d∧d.down=false∧(placeD d s k).2=0∧data.size=64∧d.waits.length<16384 ∧ ∃ f:Int,-1≤f∧f≤9223372036854775807∧opened d (writeD d s k data)=({ addW d (s,k,data) with fuse:=f },0):=by
 unfold opened at h ⊢
 rcases openD_or d with ⟨ho,hR⟩ | ⟨ho,hR,hdn⟩ | ⟨ho,hR,hdn⟩ <;> rw [ho] at h ⊢
 ·simp at h
 ·simp at h
 ·rw [if_pos rfl] at h ⊢
  unfold writeD at h ⊢
  by_cases q0:(placeD d s k).2≠0
  ·rw [if_pos q0] at h;exact absurd h q0
  ·rw [if_neg q0] at h ⊢
   by_cases q1:data.size≠64
   ·rw [if_pos q1] at h;simp at h
   ·rw [if_neg q1] at h ⊢
    by_cases q2:d.waits.length=16384
    ·rw [if_pos q2] at h;simp at h
    ·rw [if_neg q2] at h ⊢
     have hwl:=hR.wl
     have hfu:=hR.fu
     refine ⟨hR,hdn,by simpa using q0,by simpa using q1,by omega,?_⟩
     unfold fuseD at h ⊢
     by_cases q3:(addW d (s,k,data)).fuse=0
     ·rw [if_pos q3] at h;simp at h
     ·rw [if_neg q3] at h ⊢
      by_cases q4:0<(addW d (s,k,data)).fuse
      ·rw [if_pos q4];exact ⟨_,by have:0<d.fuse:=q4;show -1≤d.fuse-1;omega,by show d.fuse-1≤_;omega,rfl⟩
      ·rw [if_neg q4];exact ⟨d.fuse,hfu,hf1,rfl⟩
theorem place_settle {d : D} (hR : Right d) (kp : Nat → Bool) (s : ByteArray) (k : Int) : (placeD (settleD d kp) s k).2 = (placeD d s k).2 := by
 unfold placeD
 have e1:(settleD d kp).ext=d.ext.map (doneX kp d.waits):=rfl
 rw [e1,has_map (f:=doneX kp d.waits) (fun _=>rfl)]
 by_cases q:has d.ext s=true
 ·rw [if_pos q,if_pos q,exOf_map (f:=doneX kp d.waits) (fun _=>rfl) hR.ex.asc q]
  have hs:sec (doneX kp d.waits (exOf d.ext s))=sec (exOf d.ext s):=by unfold sec;rw [done_size hR kp (exOf_has hR.ex.asc q).1]
  rw [hs]
  split <;> rfl
 ·rw [if_neg q,if_neg q]
/-- What a disk that may be asked answers. -/
theorem read_ok {d : D} (hR : Right d) (hd : d.down = false) (s : ByteArray) (k : Int) : readO d s k = if (placeD d s k).2 ≠ 0 then (ByteArray.empty, (placeD d s k).2) else (seen d s k, 0) := by
 rw [readO_see]
 have e:placeO d s k=(placeD d s k).2:=by unfold placeO;rw [open_ok hR hd,if_neg (by simp)]
 rw [e]
theorem mem_ins {l : List Ext} {i : Nat} {x y : Ext} : y ∈ insAt l i x ↔ y = x ∨ y ∈ l := by
 unfold insAt
 rw [List.mem_append,List.mem_cons]
 constructor
 ·rintro (h | h | h)
  ·exact .inr (List.mem_of_mem_take h)
  ·exact .inl h
  ·exact .inr (List.mem_of_mem_drop h)
 ·rintro (h | h)
  ·exact .inr (.inl h)
  ·rw [← List.take_append_drop i l] at h
   rcases List.mem_append.1 h with h | h
   ·exact .inl h
   ·exact .inr (.inr h)
theorem used_ins (l : List Ext) (i : Nat) (x : Ext) : used (insAt l i x) = used l + sec x := by
 unfold insAt
 rw [used_append,used]
 have:used l=used (l.take i)+used (l.drop i):=by rw [← used_append,List.take_append_drop]
 omega
theorem asc_ins {l : List Ext} {s data : ByteArray} (ha : Asc l) (hn : has l s = false) : Asc (insAt l (pos l s) (s, data)) := by
 unfold Asc insAt
 rw [List.pairwise_append]
 have hlt:∀ a ∈ l.take (pos l s),lt a.1 s=true:=fun a h=>by
  obtain ⟨i,hi,rfl⟩:=List.getElem_of_mem h
  rw [List.getElem_take]
  simp only [List.length_take] at hi
  exact pos_lt (by omega) (by omega)
 have hgt:∀ b ∈ l.drop (pos l s),lt s b.1=true:=fun b h=>by
  obtain ⟨i,hi,rfl⟩:=List.getElem_of_mem h
  simp only [List.length_drop] at hi
  rw [List.getElem_drop]
  have h0:=pos_at (l:=l) (s:=s) (by omega)
  have h1:lt l[pos l s+i].1 s=false:=by
   rcases Nat.eq_zero_or_pos i with rfl | hp
   ·exact h0
   ·cases h2:lt l[pos l s+i].1 s with
    | false=>rfl
    | true=>have:=lt_trans (asc_get ha (i:=pos l s) (j:=pos l s+i) (by omega) (by omega)) h2;rw [h0] at this;cases this
  exact lt_tri (has_no.1 hn _ (List.getElem_mem _)) h1
 refine ⟨List.Pairwise.sublist (List.take_sublist _ _) ha,List.pairwise_cons.2 ⟨fun b h=>hgt b h,List.Pairwise.sublist (List.drop_sublist _ _) ha⟩,fun a h b h'=>?_⟩
 rcases List.mem_cons.1 h' with rfl | h'
 ·exact hlt a h
 ·exact lt_trans (hlt a h) (hgt b h')
theorem eright_ins {l : List Ext} {s data : ByteArray} {size : Int} (h : ERight l size) (hn : has l s = false) (hs : nm s) (h0 : data.size ≠ 0) (h1 : data.size % 64 = 0) {size' : Int} (hu : (used l : Int) + sec (s, data) ≤ size') : ERight (insAt l (pos l s) (s, data)) size' :=
 ⟨fun x hx=>by rcases mem_ins.1 hx with rfl | hx;exact ⟨hs,h0,h1⟩;exact h.ok x hx,asc_ins h.asc hn,by rw [used_ins];omega⟩
theorem drop_ins {l : List Ext} {s data : ByteArray} (ha : Asc l) (hn : has l s = false) : dropE (insAt l (pos l s) (s, data)) s = l := by
 unfold insAt
 have:∀ (a b:List Ext),dropE (a ++ b) s=dropE a s ++ dropE b s:=fun a b=>List.filter_append ..
 rw [this,dropE_cons_eq rfl,← this,List.take_append_drop,dropE_none hn]
/-- A disk that is made one more extent of. -/
theorem new_law {d : D} {s : ByteArray} {n : Int} (hR : Right d) (hdn : d.down = false) : ((newD d s n).2 ≠ 0 → (newD d s n).1 = d) ∧ ((newD d s n).2 = 0 → Right (newD d s n).1 ∧ (newD d s n).1.down = false ∧ (newD d s n).1.fuse = d.fuse ∧ (roomD (newD d s n).1) = (d.size - used d.ext - n, 0) ∧ opened (newD d s n).1 (freesD (newD d s n).1 (newD d s n).1 [s]) = (d, 0)) := by
 unfold newD
 by_cases q1 : ¬ nm s∨n<1
 ·rw [if_pos q1];exact ⟨fun _=>rfl,fun h=>by simp at h⟩
 ·rw [if_neg q1]
  have hs:nm s:=by
   by_cases h:nm s
   ·exact h
   ·exact absurd (.inl h) q1
  have hn1:1≤n:=by omega
  by_cases q2:has d.ext s=true
  ·rw [if_pos q2];exact ⟨fun _=>rfl,fun h=>by simp at h⟩
  ·rw [if_neg q2]
   by_cases q3:d.size-used d.ext<n
   ·rw [if_pos q3];exact ⟨fun _=>rfl,fun h=>by simp at h⟩
   ·rw [if_neg q3]
    refine ⟨fun h=>absurd rfl h,fun _=>?_⟩
    have hnn:has d.ext s=false:=by simpa using q2
    obtain ⟨m,rfl⟩ : ∃ m:Nat,n=m:=⟨n.toNat,by omega⟩
    simp only [Int.toNat_natCast]
    have hz:=zeros_size m
    have hsec:sec (s,zeros m)=m:=by unfold sec;simp only;rw [hz];omega
    have hRn:Right { d with ext:=insAt d.ext (pos d.ext s) (s,zeros m) }:=⟨hR.s0,hR.s1,hR.wl,hR.fu,eright_ins (size':=d.size) hR.ex hnn hs (by rw [hz];omega) (by rw [hz];omega) (by rw [hsec];omega),fun w hw=>by
     obtain ⟨x,hx,h⟩:=hR.wr w hw
     exact ⟨x,mem_ins.2 (.inr hx),h⟩⟩
    refine ⟨hRn,hdn,by trivial,?_,?_⟩
    ·unfold roomD
     rw [open_ok hRn hdn,if_neg (by simp)]
     simp only [used_ins,hsec]
     refine Prod.ext ?_ rfl
     show d.size-((used d.ext+m:Nat):Int)=d.size-(used d.ext:Int)-(m:Int)
     omega
    ·have hh:has (insAt d.ext (pos d.ext s) (s,zeros m)) s=true:=has_iff.2 ⟨(s,zeros m),mem_ins.2 (.inl rfl),rfl⟩
     rw [opened_ok hRn hdn,frees_cons,if_pos hh,free_less hRn hh]
     unfold lessD
     simp only [drop_ins hR.ex.asc hnn,filt_wait hR hnn]
     rfl
/-! ### Moved -/
end Go.Proofs.YtceikpipmcadmaaGreatDoor
namespace Go.Proofs.YtceikpipmcadmaaGreatDoor
namespace Crc

/-- A 32-bit word as the number that a slot holds. -/
def un (b : BitVec 32) : Int := (b.toNat : Int)
def v32 (x : Int) : BitVec 32 := BitVec.ofInt 32 x
theorem un_nonneg (b : BitVec 32) : 0 ≤ un b := Int.natCast_nonneg _
theorem un_le (b : BitVec 32) : un b ≤ 4294967295 := by have := b.isLt; unfold un; omega
theorem v32_un (b : BitVec 32) : v32 (un b) = b := by simp [v32, un]
theorem un_v32 {x : Int} (h0 : 0 ≤ x) (h1 : x ≤ 4294967295) : un (v32 x) = x := by
 obtain ⟨n,rfl⟩:=Int.eq_ofNat_of_zero_le h0
 simp only [v32,un,BitVec.ofInt_natCast,BitVec.toNat_ofNat];omega
theorem un_inj {a b : BitVec 32} (h : un a = un b) : a = b := by
 rw [← v32_un a,← v32_un b,h]
theorem bits_xor (x y : Int) : bits .xor .u32 x y = un (v32 x ^^^ v32 y) := by
 show IntKind.u32.wrap ((v32 x ^^^ v32 y).toNat:Int)=un (v32 x ^^^ v32 y)
 generalize v32 x ^^^ v32 y=b
 have:=b.isLt
 rw [IntKind.wrap_u32];unfold un;omega
theorem bits_and (x y : Int) : bits .and .u32 x y = un (v32 x &&& v32 y) := by
 show IntKind.u32.wrap ((v32 x &&& v32 y).toNat:Int)=un (v32 x &&& v32 y)
 generalize v32 x &&& v32 y=b
 have:=b.isLt
 rw [IntKind.wrap_u32];unfold un;omega
theorem bits_or (x y : Int) : bits .or .u32 x y = un (v32 x ||| v32 y) := by
 show IntKind.u32.wrap ((v32 x ||| v32 y).toNat:Int)=un (v32 x ||| v32 y)
 generalize v32 x ||| v32 y=b
 have:=b.isLt
 rw [IntKind.wrap_u32];unfold un;omega
theorem un_half (a : BitVec 32) : un a / (2 : Int) = un (a >>> 1) := by
 simp only [un,BitVec.toNat_ushiftRight,Nat.shiftRight_eq_div_pow];omega
theorem un_256 (a : BitVec 32) : un a / (256 : Int) = un (a >>> 8) := by
 simp only [un,BitVec.toNat_ushiftRight,Nat.shiftRight_eq_div_pow];omega
theorem v32_mod (x : Int) : v32 (x % 4294967296) = v32 x := by
 apply BitVec.eq_of_toInt_eq
 simp only [v32,BitVec.toInt_ofInt]
 rw [show ((4294967296:Int))=((2 ^ 32:Nat):Int) from by decide]
 exact Int.emod_bmod _ _
theorem un_mod2 (a : BitVec 32) : un a % (2 : Int) = if a.getLsbD 0 then 1 else 0 := by
 simp only [un,BitVec.getLsbD,Nat.testBit_zero]
 split <;> rename_i h <;> simp at h <;> omega
theorem v32_neg (x : Int) : v32 (-x) = - v32 x := by simp [v32, BitVec.ofInt_neg]
theorem un_compl (a : BitVec 32) : 4294967295 - un a = un (~~~a) := by
 have:=a.isLt
 simp only [un,BitVec.toNat_not];omega

/-! ### One bit, n bits -/
def poly : BitVec 32 := 0xedb88320#32
def T (r : BitVec 32) : BitVec 32 := (r >>> 1) ^^^ (if r.getLsbD 0 then poly else 0#32)
def Tn : Nat → BitVec 32 → BitVec 32
  | 0, r => r
  | n + 1, r => T (Tn n r)

theorem T_xor (a b : BitVec 32) : T (a ^^^ b) = T a ^^^ T b := by
 unfold T
 rw [BitVec.ushiftRight_xor_distrib,BitVec.getLsbD_xor]
 have e:poly ^^^ poly=0#32:=by decide
 cases a.getLsbD 0 <;> cases b.getLsbD 0 <;> simp
 ·ac_rfl
 ·ac_rfl
 ·rw [show a >>> 1 ^^^ poly ^^^ (b >>> 1 ^^^ poly)=a >>> 1 ^^^ b >>> 1 ^^^ (poly ^^^ poly) from by ac_rfl,e,BitVec.xor_zero]
theorem Tn_xor (n : Nat) (a b : BitVec 32) : Tn n (a ^^^ b) = Tn n a ^^^ Tn n b := by
 induction n with
 | zero=>rfl
 | succ n ih=>simp only [Tn,ih,T_xor]
theorem T_inj0 {c : BitVec 32} (h : T c = 0#32) : c = 0#32 := by
 unfold T at h
 have h31:(T c).getLsbD 31=false:=by unfold T;rw [h];rfl
 unfold T at h31
 rw [BitVec.getLsbD_xor,BitVec.getLsbD_ushiftRight] at h31
 have e:c.getLsbD (1+31)=false:=BitVec.getLsbD_of_ge _ _ (by decide)
 rw [e] at h31
 by_cases hb:c.getLsbD 0=true
 ·rw [if_pos hb] at h31
  exact absurd h31 (by decide)
 ·have hb':c.getLsbD 0=false:=by simpa using hb
  rw [hb'] at h
  simp at h
  apply BitVec.eq_of_getLsbD_eq
  intro i hi
  cases i with
  | zero=>rw [hb'];rfl
  | succ i =>
   have:=congrArg (fun x=>BitVec.getLsbD x i) h
   simp only [BitVec.getLsbD_ushiftRight] at this
   rw [Nat.add_comm] at this
   rw [this];simp
theorem Tn_inj0 (n : Nat) {c : BitVec 32} (h : Tn n c = 0#32) : c = 0#32 := by
 induction n with
 | zero=>exact h
 | succ n ih=>exact ih (T_inj0 h)
theorem Tn_inj (n : Nat) {a b : BitVec 32} (h : Tn n a = Tn n b) : a = b := by
 have:Tn n (a ^^^ b)=0#32:=by rw [Tn_xor,h,BitVec.xor_self]
 have:=Tn_inj0 n this
 exact BitVec.xor_eq_zero_iff.1 this
/-- Where the low bits are 0 nothing is added. -/
theorem Tn_low (n : Nat) (a : BitVec 32) (h : ∀ i, i < n → a.getLsbD i = false) : Tn n a = a >>> n := by
 induction n with
 | zero=>simp [Tn]
 | succ n ih =>
  rw [Tn,ih (fun i hi=>h i (by omega))]
  unfold T
  rw [BitVec.getLsbD_ushiftRight,h (n+0) (by omega)]
  simp only [Bool.false_eq_true,if_false,BitVec.xor_zero]
  rw [← BitVec.shiftRight_add]

/-! ### A byte -/
def b32 (b : UInt8) : BitVec 32 := BitVec.ofNat 32 b.toNat
theorem un_b32 (b : UInt8) : un (b32 b) = (b.toNat : Int) := by
 have:=b.toNat_lt
 simp only [un,b32,BitVec.toNat_ofNat];omega
theorem v32_byte (b : UInt8) : v32 (b.toNat : Int) = b32 b := by simp [v32, b32]
theorem b32_xor (a b : UInt8) : b32 (a ^^^ b) = b32 a ^^^ b32 b := by
 apply BitVec.eq_of_toNat_eq
 have h:=(a ^^^ b).toNat_lt
 have ha:=a.toNat_lt;have hb:=b.toNat_lt
 rw [UInt8.toNat_xor] at h
 simp only [b32,BitVec.toNat_ofNat,BitVec.toNat_xor,UInt8.toNat_xor]
 rw [Nat.mod_eq_of_lt (by omega),Nat.mod_eq_of_lt (by omega),Nat.mod_eq_of_lt (by omega)]
theorem b32_high (b : UInt8) (i : Nat) (hi : 8 ≤ i) : (b32 b).getLsbD i = false := by
 have:=b.toNat_lt
 simp only [b32,BitVec.getLsbD_ofNat]
 rw [Nat.testBit_lt_two_pow (Nat.lt_of_lt_of_le this (Nat.pow_le_pow_right (by decide) hi))]
 simp
theorem b32_shr8 (b : UInt8) : b32 b >>> 8 = 0#32 := by
 apply BitVec.eq_of_getLsbD_eq
 intro i _
 rw [BitVec.getLsbD_ushiftRight,b32_high b _ (by omega)];simp
theorem b32_inj {a b : UInt8} (h : b32 a = b32 b) : a = b := by
 have:=congrArg un h
 rw [un_b32,un_b32] at this
 exact UInt8.toNat_inj.1 (by omega)

def feed (r : BitVec 32) (b : UInt8) : BitVec 32 := Tn 8 (r ^^^ b32 b)
/-- The program's way: the low byte through the steps, the rest moved. -/
theorem feed_eq (r : BitVec 32) (b : UInt8) : (r >>> 8) ^^^ Tn 8 ((r ^^^ b32 b) &&& 255#32) = feed r b := by
 have hs:r ^^^ b32 b=((r ^^^ b32 b) &&& 255#32) ^^^ ((r ^^^ b32 b) &&& ~~~255#32):=by
  apply BitVec.eq_of_getLsbD_eq
  intro i hi
  simp only [BitVec.getLsbD_xor,BitVec.getLsbD_and,BitVec.getLsbD_not,hi,decide_true,Bool.true_and]
  cases (r.getLsbD i ^^ (b32 b).getLsbD i) <;> cases (255#32).getLsbD i <;> rfl
 unfold feed
 conv=>rhs;rw [hs,Tn_xor]
 rw [Tn_low 8 ((r ^^^ b32 b) &&& ~~~255#32)]
 ·have:((r ^^^ b32 b) &&& ~~~255#32) >>> 8=r >>> 8:=by
   apply BitVec.eq_of_getLsbD_eq
   intro i hi
   simp only [BitVec.getLsbD_ushiftRight,BitVec.getLsbD_and,BitVec.getLsbD_xor,BitVec.getLsbD_not,b32_high b (8+i) (by omega)]
   by_cases h:8+i<32
   ·have e:(255#32).getLsbD (8+i)=false:=by
     rw [BitVec.getLsbD_ofNat,show (255:Nat)=2 ^ 8-1 from rfl,Nat.testBit_two_pow_sub_one];simp
    rw [e];simp [h]
   ·have:r.getLsbD (8+i)=false:=BitVec.getLsbD_of_ge _ _ (by omega)
    simp [this]
  rw [this,BitVec.xor_comm]
 ·intro i hi
  simp only [BitVec.getLsbD_and,BitVec.getLsbD_not]
  have e:(255#32).getLsbD i=true:=by
   rw [BitVec.getLsbD_ofNat,show (255:Nat)=2 ^ 8-1 from rfl,Nat.testBit_two_pow_sub_one];simp;omega
  simp [e]
/-- The document's way: bit by bit, the byte's bits on the side. -/
def refBit (r : BitVec 32) (b : UInt8) (k : Nat) : BitVec 32 := Tn k (r ^^^ b32 b) ^^^ (b32 b >>> k)
theorem refBit_zero (r : BitVec 32) (b : UInt8) : refBit r b 0 = r := by simp [refBit, Tn, BitVec.xor_assoc]
theorem refBit_eight (r : BitVec 32) (b : UInt8) : refBit r b 8 = feed r b := by simp [refBit, feed, b32_shr8]
theorem refBit_succ (r : BitVec 32) (b : UInt8) (k : Nat) :
  (refBit r b k >>> 1) ^^^ (if (refBit r b k ^^^ (b32 b >>> k)).getLsbD 0 then poly else 0#32)=refBit r b (k+1):=by
 have e:refBit r b k ^^^ (b32 b >>> k)=Tn k (r ^^^ b32 b):=by simp [refBit,BitVec.xor_assoc]
 rw [e]
 unfold refBit
 rw [BitVec.ushiftRight_xor_distrib,Tn,T,BitVec.shiftRight_add]
 ac_rfl
theorem feed_xor (r d : BitVec 32) (b e : UInt8) : feed (r ^^^ d) (b ^^^ e) = feed r b ^^^ feed d e := by
 unfold feed
 rw [b32_xor,← Tn_xor]
 congr 1
 ac_rfl
theorem feed_inj {r q : BitVec 32} {b : UInt8} (h : feed r b = feed q b) : r = q := by
 have:=Tn_inj 8 h
 have e:=congrArg (· ^^^ b32 b) this
 simpa [BitVec.xor_assoc] using e

/-! ### A text -/
def feeds (r : BitVec 32) (l : List UInt8) : BitVec 32 := l.foldl feed r
def more (sum : BitVec 32) (l : List UInt8) : BitVec 32 := ~~~ (feeds (~~~ sum) l)
def sums (l : List (List UInt8)) : BitVec 32 := l.foldl more 0#32
theorem feeds_append (r : BitVec 32) (a b : List UInt8) : feeds r (a ++ b) = feeds (feeds r a) b := List.foldl_append ..
theorem feeds_snoc (r : BitVec 32) (a : List UInt8) (b : UInt8) : feeds r (a ++ [b]) = feed (feeds r a) b := by rw [feeds_append]; rfl
theorem feeds_cons (r : BitVec 32) (a : UInt8) (b : List UInt8) : feeds r (a :: b) = feeds (feed r a) b := rfl
theorem feeds_inj {r q : BitVec 32} (l : List UInt8) (h : feeds r l = feeds q l) : r = q := by
 induction l generalizing r q with
 | nil=>exact h
 | cons b l ih=>exact feed_inj (ih h)
theorem sums_snoc (l : List (List UInt8)) (x : List UInt8) : sums (l ++ [x]) = more (sums l) x := by simp [sums]
/-! ### A sum's bytes -/
def rev (x : BitVec 32) : BitVec 32 :=
  let y := ((x >>> 8) &&& 0xff00ff#32) ||| ((x &&& 0xff00ff#32) <<< 8)
  (y >>> 16) ||| (y <<< 16)
theorem un_shl (a : BitVec 32) (k : Nat) : un a * 2 ^ k % (4294967296 : Int) = un (a <<< k) := by
 simp only [un,BitVec.toNat_shiftLeft,Nat.shiftLeft_eq]
 rw [Int.natCast_emod,Int.natCast_mul]
 simp
theorem un_shr (a : BitVec 32) (k : Nat) : un a / 2 ^ k = un (a >>> k) := by
 simp only [un,BitVec.toNat_ushiftRight,Nat.shiftRight_eq_div_pow]
 simp
theorem un_low (a : BitVec 32) : un a % (256 : Int) = ((a.setWidth 8).toNat : Int) := by
 simp only [un,BitVec.toNat_setWidth];omega
theorem rev0 (x : BitVec 32) : (rev x >>> 24).setWidth 8 = x.setWidth 8 := by
 apply BitVec.eq_of_getLsbD_eq
 intro i hi
 unfold rev
 match i,hi with
 | 0,_ | 1,_ | 2,_ | 3,_ | 4,_ | 5,_ | 6,_ | 7,_=>simp
theorem rev1 (x : BitVec 32) : (rev x >>> 16).setWidth 8 = (x >>> 8).setWidth 8 := by
 apply BitVec.eq_of_getLsbD_eq
 intro i hi
 unfold rev
 match i,hi with
 | 0,_ | 1,_ | 2,_ | 3,_ | 4,_ | 5,_ | 6,_ | 7,_=>simp
theorem rev2 (x : BitVec 32) : (rev x >>> 8).setWidth 8 = (x >>> 16).setWidth 8 := by
 apply BitVec.eq_of_getLsbD_eq
 intro i hi
 unfold rev
 match i,hi with
 | 0,_ | 1,_ | 2,_ | 3,_ | 4,_ | 5,_ | 6,_ | 7,_=>simp
theorem rev3 (x : BitVec 32) : (rev x).setWidth 8 = (x >>> 24).setWidth 8 := by
 apply BitVec.eq_of_getLsbD_eq
 intro i hi
 unfold rev
 match i,hi with
 | 0,_ | 1,_ | 2,_ | 3,_ | 4,_ | 5,_ | 6,_ | 7,_=>simp
def tailS (b : BitVec 32) : ByteArray := strOfNums [un b % 256, un b / 256 % 256, un b / 65536 % 256, un b / 16777216]
theorem tailS_rev (b : BitVec 32) : strOfNums [un (rev b) / 16777216, un (rev b) / 65536 % 256, un (rev b) / 256 % 256, un (rev b) % 256] = tailS b := by
 have hr:=un_nonneg (rev b);have hb:=un_nonneg b;have hr':=un_le (rev b);have hb':=un_le b
 have e0:=congrArg (fun x:BitVec 8=>(x.toNat:Int)) (rev0 b)
 have e1:=congrArg (fun x:BitVec 8=>(x.toNat:Int)) (rev1 b)
 have e2:=congrArg (fun x:BitVec 8=>(x.toNat:Int)) (rev2 b)
 have e3:=congrArg (fun x:BitVec 8=>(x.toNat:Int)) (rev3 b)
 simp only [← un_low,← un_shr] at e0 e1 e2 e3
 unfold tailS
 congr 1
 simp only [List.cons.injEq,and_true]
 omega
theorem tailS_size (b : BitVec 32) : (tailS b).size = 4 := rfl
theorem tailS_inj {a b : BitVec 32} (h : tailS a = tailS b) : a = b := by
 apply un_inj
 have ha:=un_nonneg a;have hb:=un_nonneg b;have ha':=un_le a;have hb':=un_le b
 have hl:=congrArg (fun x=>(x.data.toList.map fun c=>c.toNat)) h
 simp only [tailS,strOfNums_data,List.map_cons,List.map_nil,List.cons.injEq,UInt8.toNat_ofNat'] at hl
 omega
end Crc
end Go.Proofs.YtceikpipmcadmaaGreatDoor
