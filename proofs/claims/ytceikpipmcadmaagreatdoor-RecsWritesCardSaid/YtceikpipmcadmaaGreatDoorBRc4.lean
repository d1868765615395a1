/-
  Texts that belong together: Disk7, Disk8, Shelf, Disk9, Disk10, Disk11, Disk12, Disk13, Disk14, Disk15, Disk16, Disk17, DiskMath3, Disk18, Disk19, Disk20, DiskR0, DR1, DR2, DR3, DR4, Draw, DR5, DR6, DR9, DR10.
-/
import Derived.Test.YtceikpipmcadmaaGreatDoorBRc3
import Derived.Shelf.Strings.Builder1
import Derived.Shelf.Strings.Repeat
import Derived.Test.YtceikpipmcadmaaGreatDoorProg
set_option linter.unusedVariables false
set_option linter.unusedSimpArgs false
set_option linter.unusedSectionVars false
namespace Go.Proofs.YtceikpipmcadmaaGreatDoor
open Go.RowKit
open Mv Disk
set_option maxRecDepth 4000
theorem spl_mid {A Y X B : List Value} {k : Nat} (hk : A.length = k) (hl : Y.length = X.length) : spl (A ++ (Y ++ B)) k X = A ++ (X ++ B) := by
 subst hk
 unfold spl
 rw [List.take_left,← List.drop_drop,List.drop_left,← hl,List.drop_left,List.append_assoc]
theorem spl_end {A Y X : List Value} {k : Nat} (hk : A.length = k) (hl : Y.length ≤ X.length) : spl (A ++ Y) k X = A ++ X := by
 subst hk
 unfold spl
 rw [List.take_left,List.drop_of_length_le (by rw [List.length_append];omega),List.append_nil]
theorem flat_take {α : Type} {n : Nat} {f : α → List Value} (l : List α) (i : Nat) : l.flatMap f = (l.take i).flatMap f ++ (l.drop i).flatMap f := by
 rw [← List.flatMap_append,List.take_append_drop]
theorem room_cells {A D X : List Value} {i : Nat} (hA : A.length = i * 2) (hX : X.length = 2) (hD : 2 ≤ D.length) : spl (spl (A ++ D) (0 + (i + 1) * 2) D) (0 + i * 2) X = A ++ (X ++ D) := by
 have e:spl (A ++ D) (0+(i+1)*2) D=A ++ (D.take 2 ++ D):=by
  have e1:A ++ D=(A ++ D.take 2) ++ D.drop 2:=by rw [List.append_assoc,List.take_append_drop]
  rw [e1,spl_end (by simp [hA];omega) (by simp),List.append_assoc]
 rw [e]
 exact spl_mid (by omega) (by simp [hX];omega)
theorem grow_cells {A D X zs : List Value} {i : Nat} (hA : A.length = i * 2) (hX : X.length = 2) (hz : zs.length = 2 + D.length) : spl (spl (A ++ zs) (0 + i * 2) X) (0 + (i + 1) * 2) D = A ++ (X ++ D) := by
 have e:spl (A ++ zs) (0+i*2) X=(A ++ X) ++ zs.drop 2:=by
  have e1:A ++ zs=A ++ (zs.take 2 ++ zs.drop 2):=by rw [List.take_append_drop]
  rw [e1,spl_mid (by omega) (by simp [hX];omega),List.append_assoc]
 rw [e,spl_end (by simp [hA,hX];omega) (by simp;omega),List.append_assoc]
def insAt (l : List Ext) (i : Nat) (x : Ext) : List Ext := l.take i ++ x :: l.drop i
theorem ins_flat (l : List Ext) (i : Nat) (x : Ext) : (insAt l i x).flatMap extF = (l.take i).flatMap extF ++ (extF x ++ (l.drop i).flatMap extF) := by
 unfold insAt;rw [List.flatMap_append,List.flatMap_cons]
theorem ins_len {l : List Ext} {i : Nat} (h : i ≤ l.length) (x : Ext) : (insAt l i x).length = l.length + 1 := by
 unfold insAt;simp;omega
set_option maxHeartbeats 2000000 in
theorem ins_ext (B : Mem) (o : Option (Nat × Nat)) (l : List Ext) (i : Nat) (x : Ext) (t : Nat) (ho : OkO B o l.length) (ht : Fresh (outN 2 B o extT (l.flatMap extF)) t) (hi : i ≤ l.length) (hlen : l.length ≤ 16384) :
  ACall Tryz.prog 138 #[outV o l.length,.int .i64 (i:Int),.slice (some ⟨t,0,none⟩) 1 1] ((outN 2 B o extT (l.flatMap extF)).set t ⟨extT,extF x,2⟩) fun r S'=>∃ o',OkO B o' (l.length+1)∧r=outV o' (l.length+1)∧S'=outN 2 B o' extT ((insAt l i x).flatMap extF):=by
 have hfl:=flat_length ext_len l
 have hx1:∀ v ∈ extF x,v.oneCell'=true:=fun v hv=>ext_one [x] v (by simpa using hv)
 have happ:AppN 2 ((outN 2 B o extT (l.flatMap extF)).set t ⟨extT,extF x,2⟩) B o extT (l.flatMap extF):=(appN_self ho hfl).temp ht
 by_cases hil:i=l.length
 ·subst hil
  have he:(insAt l l.length x).flatMap extF=l.flatMap extF ++ extF x:=by rw [ins_flat];simp
  rw [he]
  cases o with
  | none =>
   obtain rfl:l = []:=List.eq_nil_of_length_eq_zero (ho.nil rfl)
   refine ACall.enter (rs:=[.tmp 6]) 95 [(0,.slice none 0 0),(1,.int .i64 0),(2,.slice (some ⟨t,0,none⟩) 1 1)] Tryz.func138 rfl rfl (Nat.le_of_ble_eq_true rfl) rfl ⟨rfl,rfl,rfl,trivial⟩ ?_
   iterate 12 refine s1_ ?_
   refine su_ [(0,_),(1,_),(2,_),(6,_)] ?_
   iterate 7 refine s1_ ?_
   refine su_ [(0,_),(1,_),(2,_),(6,_),(7,_)] ?_
   iterate 7 refine s1_ ?_
   refine su_ [(0,_),(1,_),(2,_),(6,_),(7,_),(16,_)] ?_
   refine cF_ ?_
   iterate 9 refine s1_ ?_
   refine su_ [(0,_),(1,_),(2,_),(6,_),(7,_),(16,_),(8,_)] ?_
   iterate 8 refine s1_ ?_
   refine su_ [(0,_),(1,_),(2,_),(6,_),(7,_),(16,_),(8,_),(22,_)] ?_
   refine cT_ ?_
   iterate 4 refine s1_ ?_
   refine ARun.appendOK (n:=2) (o:=none) (k:=0) (m:=1) (cs:=[]) (lit_lt rfl) ty_sl_22 rfl rfl hfl ho happ rfl (src_own (Mem.own_set_same _ _ _) List.prefix_rfl) rfl hx1 (by omega) (by omega) ?_
   intro o' ho'
   iterate 3 refine s1_ ?_
   refine su_ [(0,_),(1,_),(2,_),(6,_),(7,_),(16,_),(8,_),(22,_)] ?_
   iterate 2 refine s1_ ?_
   refine ⟨_,_,⟨_,_,rfl,rfl,rfl⟩,Mem.Less.refl _,?_⟩
   exact ⟨o',ho',rfl,rfl⟩
  | some q =>
   obtain ⟨b,c⟩:=q
   have hc:=(ho.own b c rfl).2
   refine ACall.enter (rs:=[.tmp 6]) 95 [(0,outV (some (b,c)) l.length),(1,.int .i64 (l.length:Int)),(2,.slice (some ⟨t,0,none⟩) 1 1)] Tryz.func138 rfl rfl (Nat.le_of_ble_eq_true rfl) rfl ⟨rfl,rfl,rfl,trivial⟩ ?_
   iterate 12 refine s1_ ?_
   refine su_ [(0,_),(1,_),(2,_),(6,_)] ?_
   iterate 7 refine s1_ ?_
   refine su_ [(0,_),(1,_),(2,_),(6,_),(7,_)] ?_
   iterate 7 refine s1_ ?_
   refine su_ [(0,_),(1,_),(2,_),(6,_),(7,_),(16,_)] ?_
   refine cF_ ?_
   iterate 9 refine s1_ ?_
   refine su_ [(0,_),(1,_),(2,_),(6,_),(7,_),(16,_),(8,_)] ?_
   iterate 8 refine s1_ ?_
   refine su_ [(0,_),(1,_),(2,_),(6,_),(7,_),(16,_),(8,_),(22,_)] ?_
   refine cT_ ?_
   iterate 4 refine s1_ ?_
   refine ARun.appendOK (n:=2) (o:=some (b,c)) (k:=l.length) (m:=1) (cs:=l.flatMap extF) (lit_lt rfl) ty_sl_22 rfl rfl hfl ho happ rfl (src_own (Mem.own_set_same _ _ _) List.prefix_rfl) rfl hx1 (by omega) (by omega) ?_
   intro o' ho'
   iterate 3 refine s1_ ?_
   refine su_ [(0,_),(1,_),(2,_),(6,_),(7,_),(16,_),(8,_),(22,_)] ?_
   iterate 2 refine s1_ ?_
   refine ⟨_,_,⟨_,_,rfl,rfl,rfl⟩,Mem.Less.refl _,?_⟩
   exact ⟨o',ho',rfl,rfl⟩
 ·obtain ⟨⟨b,c⟩,rfl⟩ : ∃ q,o=some q:=by
   cases o with
   | none=>have:=ho.nil rfl;omega
   | some q=>exact ⟨q,rfl⟩
  have hc:=(ho.own b c rfl).2
  have hfb:=(ho.own b c rfl).1
  obtain ⟨htB,htb⟩:=fresh_set ht
  have hA:=flat_length ext_len (l.take i)
  have hD:=flat_length ext_len (l.drop i)
  rw [List.length_take,Nat.min_eq_left hi] at hA
  rw [List.length_drop] at hD
  have hsplit:=flat_take (n:=2) (f:=extF) l i
  have hsl:(spl (l.flatMap extF) (0+(i+1)*2) ((l.drop i).flatMap extF)).length=l.length*2+2:=by
   unfold spl;simp only [List.length_append,List.length_take,List.length_drop,hfl,hD];omega
  rw [ins_flat]
  dsimp only [outN,outV]
  by_cases hroom:l.length+1≤c
  ·skip
   refine ACall.enter (rs:=[.tmp 6]) 95 [(0,.slice (some ⟨b,0,none⟩) l.length c),(1,.int .i64 (i:Int)),(2,.slice (some ⟨t,0,none⟩) 1 1)] Tryz.func138 rfl rfl (Nat.le_of_ble_eq_true rfl) rfl ⟨rfl,rfl,rfl,trivial⟩ ?_
   iterate 12 refine s1_ ?_
   refine su_ [(0,_),(1,_),(2,_),(6,_)] ?_
   iterate 7 refine s1_ ?_
   refine su_ [(0,_),(1,_),(2,_),(6,_),(7,_)] ?_
   iterate 7 refine s1_ ?_
   refine su_ [(0,_),(1,_),(2,_),(6,_),(7,_),(16,_)] ?_
   refine cF_ ?_
   iterate 9 refine s1_ ?_
   refine su_ [(0,_),(1,_),(2,_),(6,_),(7,_),(16,_),(8,_)] ?_
   iterate 8 refine s1_ ?_
   refine su_ [(0,_),(1,_),(2,_),(6,_),(7,_),(16,_),(8,_),(22,_)] ?_
   refine cF_ ?_
   iterate 9 refine s1_ ?_
   refine rC (Calm.cap Tryz.underlying22 rfl) ?_
   iterate 3 refine s1_ ?_
   refine su_ [(0,_),(1,_),(2,_),(6,_),(7,_),(16,_),(8,_),(22,_),(31,_)] ?_
   refine cF_ ?_
   iterate 8 refine s1_ ?_
   refine rC (Calm.sliceHi (l.length+1) Tryz.underlying22 ty_size_81 rfl rfl (by omega) (by omega)) ?_
   iterate 3 refine s1_ ?_
   refine su_ [(0,_),(1,_),(2,_),(6,_),(7,_),(16,_),(8,_),(22,_),(31,_)] ?_
   iterate 8 refine s1_ ?_
   refine rC (Calm.sliceLo (i+1) Tryz.underlying22 ty_size_81 rfl rfl (by omega) (by omega) (by omega)) ?_
   refine ARun.overlapsNo (T:=22) (tR:=4) (lit_lt rfl) Tryz.func170 rfl rfl rfl rfl Tryz.underlying22 ty_size_81 rfl (Mem.own_set_same _ _ _) (Nat.ne_of_beq_eq_false rfl) (show 0<2 from by decide) own_ (by simp only [hfl];omega) htb ?_
   iterate 3 refine s1_ ?_
   refine su_ [(0,_),(1,_),(2,_),(6,_),(7,_),(16,_),(8,_),(22,_),(31,_),(68,_)] ?_
   refine cT_ ?_
   refine s1_ ?_
   refine AWP.draw [(0,true),(1,true),(2,true),(3,true),(4,true),(5,true),(6,true),(7,true),(8,false)] [8] mixed (by kernel_rfl) ?_
   iterate 4 refine s1_ ?_
   refine dP (hc:=fun _=>Calm.sliceLo (i+1) Tryz.underlying22 ty_size_81 rfl rfl (by omega) (by omega) (by omega)) (h:=?_)
   iterate 2 refine s1_ ?_
   refine dP (hc:=fun _=>Calm.sliceLo (i) Tryz.underlying22 ty_size_81 rfl rfl (by omega) (by omega) (by omega)) (h:=?_)
   refine draw_only rfl ?_
   refine ARun.copyK (n:=2) (q:=l.length-i) (news:=(l.drop i).flatMap extF) (lit_lt rfl) ty_sl_22 rfl own_ (by simp only [hfl];omega) rfl (by omega) (Mem.own_knows (r:=⟨extT,l.flatMap extF,c*2⟩) own_ _ _ (fun j v hj=>by simp only;rw [hsplit,List.getElem?_append_right (by omega),← hj];congr 1;omega)) hD (ext_one _) (.inr (by simp only [hD];omega)) ?_
   refine arun_nil ⟨fun h=>absurd h (by decide),?_⟩
   iterate 2 refine s1_ ?_
   refine su_ [(0,_),(1,_),(2,_),(6,_),(7,_),(16,_),(8,_),(22,_),(31,_),(68,_)] ?_
   iterate 4 refine s1_ ?_
   refine rC (Calm.sliceLo (i) Tryz.underlying22 ty_size_81 rfl rfl (by omega) (by omega) (by omega)) ?_
   refine s1_ ?_
   refine ARun.copyK (n:=2) (q:=1) (news:=extF x) (lit_lt rfl) ty_sl_22 rfl own_ (by simp only [hsl];omega) rfl (by omega) (Mem.own_knows (r:=⟨extT,extF x,2⟩) own_ 0 _ (fun j v hj=>by rw [Nat.zero_add];exact hj)) rfl hx1 (.inr (by simp only [ext_len];omega)) ?_
   iterate 2 refine s1_ ?_
   refine su_ [(0,_),(1,_),(2,_),(6,_),(7,_),(16,_),(8,_),(22,_),(31,_),(68,_)] ?_
   iterate 6 refine s1_ ?_
   refine su_ [(0,_),(1,_),(2,_),(6,_),(7,_),(16,_),(8,_),(22,_),(31,_),(68,_)] ?_
   iterate 2 refine s1_ ?_
   refine ⟨_,B.set b ⟨extT,spl (spl (l.flatMap extF) (0+(i+1)*2) ((l.drop i).flatMap extF)) (0+i*2) (extF x),c*2⟩,⟨_,_,rfl,rfl,rfl⟩,less_,?_⟩
   exact ⟨some (b,c),okO_own hfb hroom,rfl,by rw [hsplit,room_cells hA rfl (by rw [hD];omega)]⟩
  ·skip
   refine ACall.enter (rs:=[.tmp 6]) 95 [(0,.slice (some ⟨b,0,none⟩) l.length c),(1,.int .i64 (i:Int)),(2,.slice (some ⟨t,0,none⟩) 1 1)] Tryz.func138 rfl rfl (Nat.le_of_ble_eq_true rfl) rfl ⟨rfl,rfl,rfl,trivial⟩ ?_
   iterate 12 refine s1_ ?_
   refine su_ [(0,_),(1,_),(2,_),(6,_)] ?_
   iterate 7 refine s1_ ?_
   refine su_ [(0,_),(1,_),(2,_),(6,_),(7,_)] ?_
   iterate 7 refine s1_ ?_
   refine su_ [(0,_),(1,_),(2,_),(6,_),(7,_),(16,_)] ?_
   refine cF_ ?_
   iterate 9 refine s1_ ?_
   refine su_ [(0,_),(1,_),(2,_),(6,_),(7,_),(16,_),(8,_)] ?_
   iterate 8 refine s1_ ?_
   refine su_ [(0,_),(1,_),(2,_),(6,_),(7,_),(16,_),(8,_),(22,_)] ?_
   refine cF_ ?_
   iterate 9 refine s1_ ?_
   refine rC (Calm.cap Tryz.underlying22 rfl) ?_
   iterate 3 refine s1_ ?_
   refine su_ [(0,_),(1,_),(2,_),(6,_),(7,_),(16,_),(8,_),(22,_),(31,_)] ?_
   refine cT_ ?_
   iterate 4 refine s1_ ?_
   refine rC (Calm.sliceHi (i) Tryz.underlying22 ty_size_81 rfl rfl (by omega) (by omega)) ?_
   iterate 5 refine s1_ ?_
   refine ARun.appendMake (k:=i) (m:=l.length+1-i) (xs:=(l.take i).flatMap extF) (c:=c) (lit_lt rfl) ty_sl_22 rfl Tryz.underlying3 rfl hA ((rds_prefix (r:=⟨extT,l.flatMap extF,c*2⟩) own_ (by rw [hsplit];exact List.prefix_append _ _)).knows) (congrArg some (congrArg (Value.int .i64) (by omega))) (by omega) (by omega) (by omega) ?_
   intro b' c' zs hfb' hc' hzs
   obtain ⟨hfb1,htb'⟩:=fresh_set hfb'
   obtain ⟨hfb2,hbb'⟩:=fresh_set hfb1
   have hbb'':=Ne.symm hbb'
   have htb'':=Ne.symm htb'
   have hz1:(((l.take i).flatMap extF) ++ zs).length=l.length*2+2:=by simp only [List.length_append,hA,hzs];omega
   iterate 3 refine s1_ ?_
   refine su_ [(0,_),(1,_),(2,_),(6,_),(7,_),(16,_),(8,_),(22,_),(31,_),(9,_)] ?_
   iterate 4 refine s1_ ?_
   refine rC (Calm.sliceLo (i) Tryz.underlying22 ty_size_81 rfl rfl (by omega) (by omega) (by omega)) ?_
   refine s1_ ?_
   refine ARun.copyK (n:=2) (q:=1) (news:=extF x) (lit_lt rfl) ty_sl_22 rfl (Mem.own_set_same _ _ _) (by simp only [hz1];omega) rfl (by omega) (Mem.own_knows (r:=⟨extT,extF x,2⟩) own_ 0 _ (fun j v hj=>by rw [Nat.zero_add];exact hj)) rfl hx1 (.inl (by simp only [hz1,ext_len];omega)) ?_
   have hz2:(spl ((l.take i).flatMap extF ++ zs) (0+i*2) (extF x)).length=l.length*2+2:=by rw [spl_length _ _ _ (by simp only [hz1,ext_len];omega),hz1]
   iterate 2 refine s1_ ?_
   refine su_ [(0,_),(1,_),(2,_),(6,_),(7,_),(16,_),(8,_),(22,_),(31,_),(9,_)] ?_
   refine s1_ ?_
   refine AWP.draw [(0,true),(1,true),(2,true),(3,true),(4,true),(5,true),(6,true),(7,true),(8,false)] [8] mixed (by kernel_rfl) ?_
   iterate 4 refine s1_ ?_
   refine dP (hc:=fun _=>Calm.sliceLo (i+1) Tryz.underlying22 ty_size_81 rfl rfl (by omega) (by omega) (by omega)) (h:=?_)
   iterate 2 refine s1_ ?_
   refine dP (hc:=fun _=>Calm.sliceLo (i) Tryz.underlying22 ty_size_81 rfl rfl (by omega) (by omega) (by omega)) (h:=?_)
   refine draw_only rfl ?_
   refine ARun.copyK (n:=2) (q:=l.length-i) (news:=(l.drop i).flatMap extF) (lit_lt rfl) ty_sl_22 rfl (Mem.own_set_same _ _ _) (by simp only [hz2];omega) rfl (by omega) (Mem.own_knows (r:=⟨extT,l.flatMap extF,c*2⟩) own_ _ _ (fun j v hj=>by simp only;rw [hsplit,List.getElem?_append_right (by omega),← hj];congr 1;omega)) hD (ext_one _) (.inl (by simp only [hz2,hD];omega)) ?_
   refine arun_nil ⟨fun h=>absurd h (by decide),?_⟩
   iterate 2 refine s1_ ?_
   refine su_ [(0,_),(1,_),(2,_),(6,_),(7,_),(16,_),(8,_),(22,_),(31,_),(9,_)] ?_
   iterate 6 refine s1_ ?_
   refine su_ [(0,_),(1,_),(2,_),(6,_),(7,_),(16,_),(8,_),(22,_),(31,_),(9,_)] ?_
   iterate 2 refine s1_ ?_
   refine ⟨_,B.set b' ⟨extT,spl (spl ((l.take i).flatMap extF ++ zs) (0+i*2) (extF x)) (0+(i+1)*2) ((l.drop i).flatMap extF),c'*2⟩,⟨_,_,rfl,rfl,rfl⟩,less_,?_⟩
   exact ⟨some (b',c'),okO_own hfb2 (by omega),congrArg (fun n=>Value.slice (some ⟨b',0,none⟩) n c') (by omega),by rw [grow_cells hA rfl (by rw [hD,hzs];omega)]⟩
end Go.Proofs.YtceikpipmcadmaaGreatDoor
namespace Go.Proofs.YtceikpipmcadmaaGreatDoor
open Go.RowKit
open Mv Disk
set_option maxRecDepth 4000
theorem outN_set {n : Nat} {S : Mem} {o : Option (Nat × Nat)} {e : TypeId} {cs : List Value} {b : Nat} {r : Blk} (h : ∀ q c, o = some (q, c) → q ≠ b) : outN n (S.set b r) o e cs = (outN n S o e cs).set b r := by
 cases o with
 | none=>rfl
 | some q=>exact Mem.set_comm _ _ _ (Ne.symm (h _ _ rfl))
theorem outN_comm {n m : Nat} {S : Mem} {o o' : Option (Nat × Nat)} {e e' : TypeId} {cs cs' : List Value} (h : ∀ q c q' c', o = some (q, c) → o' = some (q', c') → q ≠ q') : outN n (outN m S o' e' cs') o e cs = outN m (outN n S o e cs) o' e' cs' := by
 cases o with
 | none=>rfl
 | some q =>
  cases o' with
  | none=>rfl
  | some q'=>exact Mem.set_comm _ _ _ (Ne.symm (h _ _ _ _ rfl rfl))
theorem own_outN' {n : Nat} {S : Mem} {o : Option (Nat × Nat)} {e : TypeId} {cs : List Value} {b : Nat} {r : Blk} (hb : S.own b = some r) (h : ∀ q c, o = some (q, c) → q ≠ b) : (outN n S o e cs).own b = some r := by
 cases o with
 | none=>exact hb
 | some q=>exact (Mem.own_set_other _ _ (Ne.symm (h _ _ rfl))).trans hb
theorem fresh_outN_mk {n : Nat} {S : Mem} {o : Option (Nat × Nat)} {e : TypeId} {cs : List Value} {b : Nat} (hb : Fresh S b) (h : ∀ q c, o = some (q, c) → q ≠ b) : Fresh (outN n S o e cs) b := by
 cases o with
 | none=>exact hb
 | some q=>exact fresh_more hb (Ne.symm (h _ _ rfl))
/-- The block of a disk at work. -/
def devB (d : D) (oE oW : Option (Nat × Nat)) : Blk := ⟨102, [.int .i64 d.size, outV oE d.ext.length, outV oW d.waits.length, .int .i64 d.fuse, .bool d.down], 5⟩
theorem devM_eq (S : Mem) (p : Nat) (d : D) (oE oW : Option (Nat × Nat)) : devM S p d oE oW = (outN 3 (outN 2 S oE extT (d.ext.flatMap extF)) oW wrT (d.waits.flatMap wrF)).set p (devB d oE oW) := rfl
/-- What is apart. -/
structure Apart (S : Mem) (p : Nat) (oE oW : Option (Nat × Nat)) : Prop where
  e : ∀ b c, oE = some (b, c) → Fresh S b ∧ b ≠ p
  w : ∀ b c, oW = some (b, c) → Fresh S b ∧ b ≠ p
  ew : ∀ b c b' c', oE = some (b, c) → oW = some (b', c') → b ≠ b'
  p : Fresh S p
structure Fits (d : D) (oE oW : Option (Nat × Nat)) : Prop where
  e0 : oE = none → d.ext.length = 0
  w0 : oW = none → d.waits.length = 0
  e : ∀ b c, oE = some (b, c) → d.ext.length ≤ c
  w : ∀ b c, oW = some (b, c) → d.waits.length ≤ c
theorem OkV.apart {S : Mem} {p : Nat} {d : D} {oE oW : Option (Nat × Nat)} (h : OkV S p d oE oW) : Apart S p oE oW := by
 obtain ⟨h1,h2⟩:=fresh_outN h.fr
 obtain ⟨h3,h4⟩:=fresh_outN h1
 exact ⟨fun b c e=>⟨(h.dk.e.own b c e).1,Ne.symm (h4 b c e)⟩,fun b c e=>⟨(fresh_outN (h.dk.w.own b c e).1).1,Ne.symm (h2 b c e)⟩,fun b c b' c' e e'=>Ne.symm ((fresh_outN (h.dk.w.own b' c' e').1).2 b c e),h3⟩
theorem OkV.fits {S : Mem} {p : Nat} {d : D} {oE oW : Option (Nat × Nat)} (h : OkV S p d oE oW) : Fits d oE oW := ⟨h.dk.e.nil, h.dk.w.nil, fun b c e => (h.dk.e.own b c e).2, fun b c e => (h.dk.w.own b c e).2⟩
theorem okV_mk {S : Mem} {p : Nat} {d : D} {oE oW : Option (Nat × Nat)} (h : Apart S p oE oW) (f : Fits d oE oW) : OkV S p d oE oW :=
 ⟨⟨⟨f.e0,fun b c e=>⟨(h.e b c e).1,f.e b c e⟩⟩,⟨f.w0,fun b c e=>⟨fresh_outN_mk (h.w b c e).1 (fun q c' e'=>h.ew q c' b c e' e),f.w b c e⟩⟩⟩,fresh_outN_mk (fresh_outN_mk h.p (fun q c e=>(h.e q c e).2)) (fun q c e=>(h.w q c e).2)⟩
/-- All but the extents. -/
def baseE (S : Mem) (p : Nat) (d : D) (oW : Option (Nat × Nat)) (r : Blk) : Mem := (outN 3 S oW wrT (d.waits.flatMap wrF)).set p r
theorem devM_E {S : Mem} {p : Nat} {d : D} {oE oW : Option (Nat × Nat)} (h : Apart S p oE oW) (r : Blk) : outN 2 (baseE S p d oW r) oE extT (d.ext.flatMap extF) = (outN 3 (outN 2 S oE extT (d.ext.flatMap extF)) oW wrT (d.waits.flatMap wrF)).set p r := by
 unfold baseE
 rw [outN_set (fun q c e=>(h.e q c e).2),outN_comm (fun q c q' c' e e'=>h.ew q c q' c' e e')]
theorem okO_baseE {S : Mem} {p : Nat} {d : D} {oE oW : Option (Nat × Nat)} (h : Apart S p oE oW) (f : Fits d oE oW) (r : Blk) : OkO (baseE S p d oW r) oE d.ext.length :=
 ⟨f.e0,fun b c e=>⟨fresh_more (fresh_outN_mk (h.e b c e).1 (fun q c' e'=>Ne.symm (h.ew b c q c' e e'))) (h.e b c e).2,f.e b c e⟩⟩
theorem apart_E {S : Mem} {p : Nat} {d : D} {oE oE' oW : Option (Nat × Nat)} {r : Blk} {k : Nat} (h : Apart S p oE oW) (h' : OkO (baseE S p d oW r) oE' k) : Apart S p oE' oW :=
 ⟨fun b c e=>by
  obtain ⟨h1,h2⟩:=fresh_set (h'.own b c e).1
  exact ⟨(fresh_outN h1).1,h2⟩,h.w,fun b c b' c' e e'=>by
  obtain ⟨h1,h2⟩:=fresh_set (h'.own b c e).1
  exact (fresh_outN h1).2 b' c' e',h.p⟩
theorem fits_E {S : Mem} {p : Nat} {d d' : D} {oE oE' oW : Option (Nat × Nat)} {r : Blk} {k : Nat} (f : Fits d oE oW) (h' : OkO (baseE S p d oW r) oE' k) (hk : d'.ext.length = k) (hw : d'.waits = d.waits) : Fits d' oE' oW :=
 ⟨fun e=>by rw [hk];exact h'.nil e,fun e=>by rw [hw];exact f.w0 e,fun b c e=>by rw [hk];exact (h'.own b c e).2,fun b c e=>by rw [hw];exact f.w b c e⟩
/-- The extents have turned: the block is written anew. -/
theorem devM_E' {S : Mem} {p : Nat} {d d' : D} {oE oE' oW : Option (Nat × Nat)} {r : Blk} {k : Nat} (h : Apart S p oE oW) (h' : OkO (baseE S p d oW r) oE' k) (hw : d'.waits = d.waits) : (outN 2 (baseE S p d oW r) oE' extT (d'.ext.flatMap extF)).set p (devB d' oE' oW) = devM S p d' oE' oW := by
 have ha:=apart_E h h'
 rw [devM_eq]
 unfold baseE
 rw [outN_set (fun q c e=>(ha.e q c e).2),Mem.set_set,outN_comm (fun q c q' c' e e'=>ha.ew q c q' c' e e'),hw]
/-- All but what waits. -/
def baseW (S : Mem) (p : Nat) (d : D) (oE : Option (Nat × Nat)) (r : Blk) : Mem := (outN 2 S oE extT (d.ext.flatMap extF)).set p r
theorem devM_W {S : Mem} {p : Nat} {d : D} {oE oW : Option (Nat × Nat)} (h : Apart S p oE oW) (r : Blk) : outN 3 (baseW S p d oE r) oW wrT (d.waits.flatMap wrF) = (outN 3 (outN 2 S oE extT (d.ext.flatMap extF)) oW wrT (d.waits.flatMap wrF)).set p r := by
 unfold baseW
 rw [outN_set (fun q c e=>(h.w q c e).2)]
theorem okO_baseW {S : Mem} {p : Nat} {d : D} {oE oW : Option (Nat × Nat)} (h : Apart S p oE oW) (f : Fits d oE oW) (r : Blk) : OkO (baseW S p d oE r) oW d.waits.length :=
 ⟨f.w0,fun b c e=>⟨fresh_more (fresh_outN_mk (h.w b c e).1 (fun q c' e'=>h.ew q c' b c e' e)) (h.w b c e).2,f.w b c e⟩⟩
theorem apart_W {S : Mem} {p : Nat} {d : D} {oE oW oW' : Option (Nat × Nat)} {r : Blk} {k : Nat} (h : Apart S p oE oW) (h' : OkO (baseW S p d oE r) oW' k) : Apart S p oE oW' :=
 ⟨h.e,fun b c e=>by
  obtain ⟨h1,h2⟩:=fresh_set (h'.own b c e).1
  exact ⟨(fresh_outN h1).1,h2⟩,fun b c b' c' e e'=>by
  obtain ⟨h1,h2⟩:=fresh_set (h'.own b' c' e').1
  exact Ne.symm ((fresh_outN h1).2 b c e),h.p⟩
theorem fits_W {S : Mem} {p : Nat} {d d' : D} {oE oW oW' : Option (Nat × Nat)} {r : Blk} {k : Nat} (f : Fits d oE oW) (h' : OkO (baseW S p d oE r) oW' k) (hk : d'.waits.length = k) (he : d'.ext = d.ext) : Fits d' oE oW' :=
 ⟨fun e=>by rw [he];exact f.e0 e,fun e=>by rw [hk];exact h'.nil e,fun b c e=>by rw [he];exact f.e b c e,fun b c e=>by rw [hk];exact (h'.own b c e).2⟩
theorem devM_W' {S : Mem} {p : Nat} {d d' : D} {oE oW oW' : Option (Nat × Nat)} {r : Blk} {k : Nat} (h : Apart S p oE oW) (h' : OkO (baseW S p d oE r) oW' k) (he : d'.ext = d.ext) : (outN 3 (baseW S p d oE r) oW' wrT (d'.waits.flatMap wrF)).set p (devB d' oE oW') = devM S p d' oE oW' := by
 have ha:=apart_W h h'
 rw [devM_eq]
 unfold baseW
 rw [outN_set (fun q c e=>(ha.w q c e).2),Mem.set_set,he]
theorem outV_cells (o : Option (Nat × Nat)) (n : Nat) : (outV o n).cells = #[outV o n] := by cases o <;> rfl
theorem outV_one (o : Option (Nat × Nat)) (n : Nat) : (outV o n).oneCell' = true := by cases o <;> rfl
end Go.Proofs.YtceikpipmcadmaaGreatDoor
namespace Go.Proofs
open Go.Shelf
def Tryz.lays105_ren : Go.Shelf.Ren := ⟨fun | 105 => 118 | 212 => 151 | 99 => 121 | 165 => 152 | 166 => 40 | 170 => 153 | 169 => 42 | 263 => 173 | 264 => 174 | 206 => 155 | 240 => 88 | 241 => 175 | 276 => 135 | 277 => 182 | n => n, fun | 9 => 9 | 3 => 3 | 4 => 4 | 20 => 20 | 0 => 0 | 46 => 147 | 109 => 186 | 5 => 5 | 72 => 68 | 76 => 73 | 51 => 53 | 146 => 213 | 53 => 27 | 148 => 215 | 70 => 66 | 37 => 61 | 75 => 72 | 127 => 129 | 164 => 161 | 80 => 76 | n => n, fun | n => n⟩
theorem Tryz.lays105 : Go.Proofs.Lays.n105 Tryz.prog Tryz.lays105_ren := {
 mixed:=by kernel_rfl
 f99:=Tryz.func121.trans (congrArg some (by kernel_rfl))
 f105:=Tryz.func118.trans (congrArg some (by kernel_rfl))
 f165:=Tryz.func152.trans (congrArg some (by kernel_rfl))
 f166:=Tryz.func40.trans (congrArg some (by kernel_rfl))
 f169:=Tryz.func42.trans (congrArg some (by kernel_rfl))
 f170:=Tryz.func153.trans (congrArg some (by kernel_rfl))
 f206:=Tryz.func155.trans (congrArg some (by kernel_rfl))
 f212:=Tryz.func151.trans (congrArg some (by kernel_rfl))
 f240:=Tryz.func88.trans (congrArg some (by kernel_rfl))
 f241:=Tryz.func175.trans (congrArg some (by kernel_rfl))
 f263:=Tryz.func173.trans (congrArg some (by kernel_rfl))
 f264:=Tryz.func174.trans (congrArg some (by kernel_rfl))
 f276:=Tryz.func135.trans (congrArg some (by kernel_rfl))
 f277:=Tryz.func182.trans (congrArg some (by kernel_rfl))
 t0:=Tryz.underlying0
 a0:=Tryz.isAgg0
 z0:=Tryz.sizeOf0
 v0:=Tryz.zeroValue0
 t3:=Tryz.underlying3
 a3:=Tryz.isAgg3
 z3:=Tryz.sizeOf3
 v3:=Tryz.zeroValue3
 t4:=Tryz.underlying4
 a4:=Tryz.isAgg4
 z4:=Tryz.sizeOf4
 v4:=Tryz.zeroValue4
 t5:=Tryz.underlying5
 a5:=Tryz.isAgg5
 z5:=Tryz.sizeOf5
 v5:=Tryz.zeroValue5
 t9:=Tryz.underlying9
 a9:=Tryz.isAgg9
 z9:=Tryz.sizeOf9
 v9:=Tryz.zeroValue9
 t20:=Tryz.underlying20
 a20:=Tryz.isAgg20
 z20:=Tryz.sizeOf20
 v20:=Tryz.zeroValue20
 t37:=Tryz.underlying61
 a37:=Tryz.isAgg61
 z37:=Tryz.sizeOf61
 v37:=Tryz.zeroValue61
 t46:=Tryz.underlying147
 a46:=Tryz.isAgg147
 z46:=Tryz.sizeOf147
 v46:=Tryz.zeroValue147
 t51:=Tryz.underlying53
 a51:=Tryz.isAgg53
 z51:=Tryz.sizeOf53
 v51:=Tryz.zeroValue53
 t53:=Tryz.underlying27
 a53:=Tryz.isAgg27
 z53:=Tryz.sizeOf27
 v53:=Tryz.zeroValue27
 t70:=Tryz.underlying66
 a70:=Tryz.isAgg66
 z70:=Tryz.sizeOf66
 v70:=Tryz.zeroValue66
 t72:=Tryz.underlying68
 a72:=Tryz.isAgg68
 z72:=Tryz.sizeOf68
 v72:=Tryz.zeroValue68
 t75:=Tryz.underlying72
 a75:=Tryz.isAgg72
 z75:=Tryz.sizeOf72
 v75:=Tryz.zeroValue72
 t76:=Tryz.underlying73
 a76:=Tryz.isAgg73
 z76:=Tryz.sizeOf73
 v76:=Tryz.zeroValue73
 t109:=Tryz.underlying186
 a109:=Tryz.isAgg186
 z109:=Tryz.sizeOf186
 v109:=Tryz.zeroValue186
 t127:=Tryz.underlying129
 a127:=Tryz.isAgg129
 z127:=Tryz.sizeOf129
 v127:=Tryz.zeroValue129
 t146:=Tryz.underlying213
 a146:=Tryz.isAgg213
 z146:=Tryz.sizeOf213
 v146:=Tryz.zeroValue213
 t148:=Tryz.underlying215
 a148:=Tryz.isAgg215
 z148:=Tryz.sizeOf215
 v148:=Tryz.zeroValue215
 t164:=Tryz.underlying161
 a164:=Tryz.isAgg161
 z164:=Tryz.sizeOf161
 v164:=Tryz.zeroValue161 }
theorem Tryz.Builder_Extra_105 : Builder.Extra Tryz.prog Tryz.lays105_ren := {
 sizeBuilder:=by kernel_rfl
 liesBuilder:=by kernel_rfl
 t5:=Tryz.underlying5
 a5:=Tryz.isAgg5
 z5:=Tryz.sizeOf5
 v5:=Tryz.zeroValue5
 infoByte:=by kernel_rfl
 cellsByte:=by kernel_rfl
 sizeByte:=by kernel_rfl
 neB5:=by decide }
open Go.RowKit Go.Lib in
/-- THE MAIN CASE: at least two copies of a string that is not empty. (LAID: no walk: one application.) -/
theorem Tryz.strings_Repeat_main (s : ByteArray) (c : Nat) (w : World) (hc2 : 2 ≤ c) (hc : c ≤ 9223372036854775807) (hlen : s.size * c ≤ 140737488355328) (h0 : 0 < s.size) :
  Calls Tryz.prog 118 #[.string s,.int .i64 c] w fun e w'=>e = .returned (.string ⟨(Lib.repeatL s.data.toList c).toArray⟩)∧Below w.heap.size w w':=Any.strings_Repeat_main Tryz.lays105 Tryz.Builder_Extra_105 s c w hc2 hc hlen h0
open Go.RowKit Go.Lib in
/-- **strings.Repeat: count ≥ 0, the result within one allocation: count copies of s.** (LAID: no walk: one application.) -/
theorem Tryz.strings_Repeat (s : ByteArray) (c : Nat) (w : World) (hc : c ≤ 9223372036854775807) (hlen : s.size * c ≤ 140737488355328) :
  Calls Tryz.prog 118 #[.string s,.int .i64 c] w fun e w'=>e = .returned (.string ⟨(Lib.repeatL s.data.toList c).toArray⟩)∧Below w.heap.size w w':=Any.strings_Repeat Tryz.lays105 Tryz.Builder_Extra_105 s c w hc hlen
end Go.Proofs
namespace Go.Proofs.YtceikpipmcadmaaGreatDoor
open Go.RowKit
open Mv Disk
set_option maxRecDepth 4000
def zeros (n : Nat) : ByteArray := bs (List.replicate (64 * n) 0)
theorem zeros_size (n : Nat) : (zeros n).size = 64 * n := by unfold zeros; rw [size_bs]; simp
def newD (d : D) (s : ByteArray) (n : Int) : D × Int := if ¬ nm s ∨ n < 1 then (d, 1) else if has d.ext s = true then (d, 4) else if d.size - used d.ext < n then (d, 8) else ({ d with ext := insAt d.ext (pos d.ext s) (s, zeros n.toNat) }, 0)
/-- What a disk at work answers, and becomes. -/
def DevR (S : Mem) (p : Nat) (q : D × Int) (r : Value) (S' : Mem) : Prop := ∃ oE oW, OkV S p q.1 oE oW ∧ r = .int .i64 q.2 ∧ S' = devM S p q.1 oE oW
theorem repeat_zero (c : Nat) : Lib.repeatL [0] c = List.replicate c (0 : UInt8) := by
 induction c with
 | zero=>rfl
 | succ c ih=>rw [List.replicate_succ,← ih];rfl
theorem shelf_Repeat (c : Nat) (S : Mem) (h1 : 2 ≤ c) (h2 : c ≤ 140737488355328) : ACall Tryz.prog 118 #[.string ⟨#[0]⟩, .int .i64 (c : Int)] S fun r S' => r = .string (bs (List.replicate c 0)) ∧ S' = S :=
 ACall.of_calls fun w=>by
  have:=Tryz.strings_Repeat_main ⟨#[0]⟩ c w h1 (by omega) (by show 1*c≤_;omega) (by decide)
  rw [show (⟨#[0]⟩ : ByteArray).data.toList = [0] from rfl,repeat_zero] at this
  exact this
set_option maxHeartbeats 2000000 in
theorem dev_New (p : Nat) (d : D) (s : ByteArray) (n : Int) (S : Mem) (oE oW : Option (Nat × Nat)) (hok : OkV S p d oE oW) (hR : Right d) :
  ACall Tryz.prog 89 #[.pointer (some ⟨p,0,none⟩),.string s,.int .i64 n] (devM S p d oE oW) (DevR S p (newD d s n)):=by
 have hrl:=right_len hR
 have hrd:=hok.rd (Nat.le_trans hrl.1 (by decide)) (Nat.le_trans hR.wl (by decide))
 have hp:(devM S p d oE oW).own p=some (devB d oE oW):=Mem.own_set_same _ _ _
 have hE:Sl 2 extF (devM S p d oE oW) (outV oE d.ext.length) d.ext:=((sl_outN ext_len (e:=extT) hok.dk.e rfl (Nat.le_trans hrl.1 (by decide))).less (outN_over hok.dk.w)).less (Mem.less_set _ _ _ hok.fr.1)
 have hap:=hok.apart
 have hft:=hok.fits
 have hs0:=hR.s0;have hs1:=hR.s1
 have hME:=devM_E hap (devB d oE oW) (d:=d)
 have hoE:=okO_baseE hap hft (devB d oE oW)
 rw [← devM_eq] at hME
 generalize hM:devM S p d oE oW=M at *
 unfold devB at hp
 unfold newD
 by_cases q1:nm s
 ·by_cases q2:n<1
  ·rw [if_pos (.inr q2)]
   refine ACall.enter (rs:=[.tmp 6]) 52 [(0,.pointer (some ⟨p,0,none⟩)),(1,.string s),(2,.int .i64 n)] Tryz.func89 rfl rfl (Nat.le_of_ble_eq_true rfl) rfl ⟨rfl,rfl,rfl,trivial⟩ ?_
   iterate 13 refine s1_ ?_
   refine ca_ rfl (disk_find _ d.ext s _ hE hR.ex.asc (Nat.le_trans hrl.1 (by decide))) ?_
   rintro _ S1 ⟨rfl,h1⟩
   rw [h1];clear h1 S1
   iterate 7 refine s1_ ?_
   refine su_ [(0,_),(1,_),(2,_),(6,_),(7,_),(8,_)] ?_
   iterate 5 refine s1_ ?_
   refine ARun.build1s (lit_lt rfl) ty_sl_149 rfl rfl ?_
   intro b21 f21
   have g21:=f21
   repeat ((with_reducible replace g21:=fresh_set g21);obtain ⟨g21,_⟩:=g21)
   have:=g21.ne hp;have:=g21.ne' hp
   refine ca_ rfl (disk_named _ [s] _ (sl_str1 own_)) ?_
   rintro _ S1 ⟨⟨t,rfl,ht⟩,h1⟩
   rw [h1];clear h1 S1
   obtain rfl:t=true:=ht.2 (one_all.2 q1)
   iterate 8 refine s1_ ?_
   refine su_ [(0,_),(1,_),(2,_),(6,_),(7,_),(8,_),(19,_)] ?_
   refine cT_ ?_
   iterate 8 refine s1_ ?_
   refine ⟨_,M,⟨_,_,rfl,rfl,rfl⟩,less_,?_⟩
   exact ⟨oE,oW,hok,rfl,hM.symm⟩
  ·rw [if_neg (fun h=>h.elim (fun h=>h q1) q2)]
   by_cases q3:has d.ext s=true
   ·rw [if_pos q3]
    refine ACall.enter (rs:=[.tmp 6]) 52 [(0,.pointer (some ⟨p,0,none⟩)),(1,.string s),(2,.int .i64 n)] Tryz.func89 rfl rfl (Nat.le_of_ble_eq_true rfl) rfl ⟨rfl,rfl,rfl,trivial⟩ ?_
    iterate 13 refine s1_ ?_
    refine ca_ rfl (disk_find _ d.ext s _ hE hR.ex.asc (Nat.le_trans hrl.1 (by decide))) ?_
    rintro _ S1 ⟨rfl,h1⟩
    rw [h1,q3];clear h1 S1
    iterate 7 refine s1_ ?_
    refine su_ [(0,_),(1,_),(2,_),(6,_),(7,_),(8,_)] ?_
    iterate 5 refine s1_ ?_
    refine ARun.build1s (lit_lt rfl) ty_sl_149 rfl rfl ?_
    intro b21 f21
    have g21:=f21
    repeat ((with_reducible replace g21:=fresh_set g21);obtain ⟨g21,_⟩:=g21)
    have:=g21.ne hp;have:=g21.ne' hp
    refine ca_ rfl (disk_named _ [s] _ (sl_str1 own_)) ?_
    rintro _ S1 ⟨⟨t,rfl,ht⟩,h1⟩
    rw [h1];clear h1 S1
    obtain rfl:t=true:=ht.2 (one_all.2 q1)
    iterate 8 refine s1_ ?_
    refine su_ [(0,_),(1,_),(2,_),(6,_),(7,_),(8,_),(19,_)] ?_
    refine cF_ ?_
    iterate 6 refine s1_ ?_
    refine su_ [(0,_),(1,_),(2,_),(6,_),(7,_),(8,_),(19,_),(28,_)] ?_
    refine cT_ ?_
    iterate 8 refine s1_ ?_
    refine ⟨_,M,⟨_,_,rfl,rfl,rfl⟩,less_,?_⟩
    exact ⟨oE,oW,hok,rfl,hM.symm⟩
   ·rw [if_neg q3]
    have q3':=Bool.eq_false_iff.2 q3
    by_cases q4:d.size-used d.ext<n
    ·rw [if_pos q4]
     refine ACall.enter (rs:=[.tmp 6]) 52 [(0,.pointer (some ⟨p,0,none⟩)),(1,.string s),(2,.int .i64 n)] Tryz.func89 rfl rfl (Nat.le_of_ble_eq_true rfl) rfl ⟨rfl,rfl,rfl,trivial⟩ ?_
     iterate 13 refine s1_ ?_
     refine ca_ rfl (disk_find _ d.ext s _ hE hR.ex.asc (Nat.le_trans hrl.1 (by decide))) ?_
     rintro _ S1 ⟨rfl,h1⟩
     rw [h1,q3'];clear h1 S1
     iterate 7 refine s1_ ?_
     refine su_ [(0,_),(1,_),(2,_),(6,_),(7,_),(8,_)] ?_
     iterate 5 refine s1_ ?_
     refine ARun.build1s (lit_lt rfl) ty_sl_149 rfl rfl ?_
     intro b21 f21
     have g21:=f21
     repeat ((with_reducible replace g21:=fresh_set g21);obtain ⟨g21,_⟩:=g21)
     have:=g21.ne hp;have:=g21.ne' hp
     refine ca_ rfl (disk_named _ [s] _ (sl_str1 own_)) ?_
     rintro _ S1 ⟨⟨t,rfl,ht⟩,h1⟩
     rw [h1];clear h1 S1
     obtain rfl:t=true:=ht.2 (one_all.2 q1)
     iterate 8 refine s1_ ?_
     refine su_ [(0,_),(1,_),(2,_),(6,_),(7,_),(8,_),(19,_)] ?_
     refine cF_ ?_
     iterate 6 refine s1_ ?_
     refine su_ [(0,_),(1,_),(2,_),(6,_),(7,_),(8,_),(19,_),(28,_)] ?_
     refine cF_ ?_
     iterate 4 refine s1_ ?_
     refine ca_ rfl (dev_Room p d _ (hrd.less less_) hR) ?_
     rintro _ S1 ⟨rfl,h1⟩
     rw [h1];clear h1 S1
     iterate 4 refine s1_ ?_
     refine su_ [(0,_),(1,_),(2,_),(6,_),(7,_),(8,_),(19,_),(28,_),(30,_)] ?_
     refine cT_ ?_
     iterate 8 refine s1_ ?_
     refine ⟨_,M,⟨_,_,rfl,rfl,rfl⟩,less_,?_⟩
     exact ⟨oE,oW,hok,rfl,hM.symm⟩
    ·rw [if_neg q4]
     obtain ⟨m,rfl⟩ : ∃ m:Nat,n=m:=⟨n.toNat,by omega⟩
     rw [Int.toNat_natCast]
     refine ACall.enter (rs:=[.tmp 6]) 52 [(0,.pointer (some ⟨p,0,none⟩)),(1,.string s),(2,.int .i64 (m:Int))] Tryz.func89 rfl rfl (Nat.le_of_ble_eq_true rfl) rfl ⟨rfl,rfl,rfl,trivial⟩ ?_
     iterate 13 refine s1_ ?_
     refine ca_ rfl (disk_find _ d.ext s _ hE hR.ex.asc (Nat.le_trans hrl.1 (by decide))) ?_
     rintro _ S1 ⟨rfl,h1⟩
     rw [h1,q3'];clear h1 S1
     iterate 7 refine s1_ ?_
     refine su_ [(0,_),(1,_),(2,_),(6,_),(7,_),(8,_)] ?_
     iterate 5 refine s1_ ?_
     refine ARun.build1s (lit_lt rfl) ty_sl_149 rfl rfl ?_
     intro b21 f21
     have g21:=f21
     repeat ((with_reducible replace g21:=fresh_set g21);obtain ⟨g21,_⟩:=g21)
     have:=g21.ne hp;have:=g21.ne' hp
     refine ca_ rfl (disk_named _ [s] _ (sl_str1 own_)) ?_
     rintro _ S1 ⟨⟨t,rfl,ht⟩,h1⟩
     rw [h1];clear h1 S1
     obtain rfl:t=true:=ht.2 (one_all.2 q1)
     iterate 8 refine s1_ ?_
     refine su_ [(0,_),(1,_),(2,_),(6,_),(7,_),(8,_),(19,_)] ?_
     refine cF_ ?_
     iterate 6 refine s1_ ?_
     refine su_ [(0,_),(1,_),(2,_),(6,_),(7,_),(8,_),(19,_),(28,_)] ?_
     refine cF_ ?_
     iterate 4 refine s1_ ?_
     refine ca_ rfl (dev_Room p d _ (hrd.less less_) hR) ?_
     rintro _ S1 ⟨rfl,h1⟩
     rw [h1];clear h1 S1
     iterate 4 refine s1_ ?_
     refine su_ [(0,_),(1,_),(2,_),(6,_),(7,_),(8,_),(19,_),(28,_),(30,_)] ?_
     refine cF_ ?_
     refine AWP.less M less_ ?_
     iterate 4 refine s1_ ?_
     refine AWP.draw [(0,true),(1,true),(2,true),(3,true),(4,true),(5,true),(6,true),(7,true),(8,true),(9,true),(10,false),(11,true),(12,false),(13,false),(14,true),(15,true),(16,true),(17,false)] [13,17] mixed (by kernel_rfl) ?_
     iterate 9 refine s1_ ?_
     refine dP (hc:=fun _=>Calm.as (v:=.int .i64 ((m:Int)*64)) (v':=.int .i64 ((64*m:Nat):Int)) (congrArg (Value.int .i64) (by omega)) (Calm.bin rfl rfl (bin_mulW (IntWalk.i64_in _ (by omega))))) (h:=?_)
     refine draw_only rfl ?_
     refine ca_ rfl (shelf_Repeat (64*m) _ (by omega) (by omega)) ?_
     rintro _ S1 ⟨rfl,h1⟩
     rw [h1];clear h1 S1
     refine arun_nil ⟨fun _=>less_,?_⟩
     refine s1_ ?_
     refine draw_only rfl ?_
     refine ARun.build1 (lit_lt rfl) ty_sl_22 rfl (by decide) (by decide) rfl rfl ?_
     intro b47 f47
     have g47:=f47
     repeat ((with_reducible replace g47:=fresh_set g47);obtain ⟨g47,_⟩:=g47)
     have:=g47.ne hp;have:=g47.ne' hp
     have hins:=ins_ext (baseE S p d oW (devB d oE oW)) oE d.ext (pos d.ext s) (s,zeros m) b47 hoE (by rw [hME];exact f47) (pos_le _ _) hrl.1
     rw [hME] at hins
     refine arun_nil ⟨fun _=>less_,?_⟩
     refine draw_only rfl ?_
     refine ca_ rfl (hins) ?_
     rintro _ S1 ⟨o',ho',rfl,h1⟩
     rw [h1];clear h1 S1
     have hap':=apart_E hap ho'
     have hp2:(outN 2 (baseE S p d oW (devB d oE oW)) o' extT ((insAt d.ext (pos d.ext s) (s,zeros m)).flatMap extF)).own p=some (devB d oE oW):=own_outN' (Mem.own_set_same _ _ _) (fun q c e=>(hap'.e q c e).2)
     have hE':=devM_E' (d':={ d with ext:=insAt d.ext (pos d.ext s) (s,zeros m) }) hap ho' rfl
     have hln:=ins_len (pos_le d.ext s) (s,zeros m)
     unfold devB at hp2
     refine arun_nil ⟨fun h=>absurd h (by decide),?_⟩
     iterate 3 refine s1_ ?_
     refine draw_only rfl ?_
     refine ARun.store1 rfl rfl ty_size_22 (outV_cells _ _) hp2 (show 1<5 from by decide) (outV_one _ _) ?_
     try simp only [k_ms,k_sz,k_ss,k_za,Nat.reduceAdd]
     refine arun_nil ⟨fun h=>absurd h (by decide),?_⟩
     iterate 2 refine s1_ ?_
     refine su_ [(0,_),(1,_),(2,_),(6,_),(7,_),(8,_),(19,_),(28,_),(30,_)] ?_
     iterate 6 refine s1_ ?_
     refine ⟨_,devM S p _ o' oW,⟨_,_,rfl,rfl,rfl⟩,(by rw [← hE'];unfold devB;rw [hln];exact Mem.Less.refl _),?_⟩
     exact ⟨o',oW,okV_mk hap' (fits_E hft ho' hln rfl),rfl,rfl⟩
 ·rw [if_pos (.inl q1)]
  refine ACall.enter (rs:=[.tmp 6]) 52 [(0,.pointer (some ⟨p,0,none⟩)),(1,.string s),(2,.int .i64 n)] Tryz.func89 rfl rfl (Nat.le_of_ble_eq_true rfl) rfl ⟨rfl,rfl,rfl,trivial⟩ ?_
  iterate 13 refine s1_ ?_
  refine ca_ rfl (disk_find _ d.ext s _ hE hR.ex.asc (Nat.le_trans hrl.1 (by decide))) ?_
  rintro _ S1 ⟨rfl,h1⟩
  rw [h1];clear h1 S1
  iterate 7 refine s1_ ?_
  refine su_ [(0,_),(1,_),(2,_),(6,_),(7,_),(8,_)] ?_
  iterate 5 refine s1_ ?_
  refine ARun.build1s (lit_lt rfl) ty_sl_149 rfl rfl ?_
  intro b21 f21
  have g21:=f21
  repeat ((with_reducible replace g21:=fresh_set g21);obtain ⟨g21,_⟩:=g21)
  have:=g21.ne hp;have:=g21.ne' hp
  refine ca_ rfl (disk_named _ [s] _ (sl_str1 own_)) ?_
  rintro _ S1 ⟨⟨t,rfl,ht⟩,h1⟩
  rw [h1];clear h1 S1
  obtain rfl:t=false:=Bool.eq_false_iff.2 (fun e=>q1 (one_all.1 (ht.1 e)))
  iterate 8 refine s1_ ?_
  refine su_ [(0,_),(1,_),(2,_),(6,_),(7,_),(8,_),(19,_)] ?_
  refine cT_ ?_
  iterate 8 refine s1_ ?_
  refine ⟨_,M,⟨_,_,rfl,rfl,rfl⟩,less_,?_⟩
  exact ⟨oE,oW,hok,rfl,hM.symm⟩
end Go.Proofs.YtceikpipmcadmaaGreatDoor
namespace Go.Proofs.YtceikpipmcadmaaGreatDoor
open Go.RowKit
open Mv Disk
set_option maxRecDepth 4000
theorem disk_done (p : Nat) (d : D) (e : Int) (S : Mem) (oE oW : Option (Nat × Nat)) (hok : OkV S p d oE oW) (he : d.ext.length ≤ 9223372036854775807) (hw : d.waits.length ≤ 9223372036854775807) :
  ACall Tryz.prog 62 #[.pointer (some ⟨p,0,none⟩),.int .i64 e] (devM S p d oE oW) (DkRes (d,e) S):=by
 have hdk:=hok.dk.dk he hw
 have hl:=hok.dk.less
 have hp:(devM S p d oE oW).own p=some (devB d oE oW):=Mem.own_set_same _ _ _
 have hdl:(dkM S d oE oW).Less (devM S p d oE oW):=Mem.less_set _ _ _ hok.fr.1
 unfold dkV at hdk
 unfold devB at hp
 obtain ⟨qe,de,hqe⟩:=outV_eq hok.dk.e
 obtain ⟨qw,dw,hqw⟩:=outV_eq hok.dk.w
 rw [hqe,hqw] at hp hdk
 generalize devM S p d oE oW=M at *
 refine ACall.enter (rs:=[.cell 4 25,.tmp 5]) 11 [(0,.pointer (some ⟨p,0,none⟩)),(1,.int .i64 e)] Tryz.func62 rfl rfl (Nat.le_of_ble_eq_true rfl) rfl ⟨rfl,rfl,trivial⟩ ?_
 iterate 2 refine s1_ ?_
 refine ARun.alloc (lit_lt rfl) ty_zero_25 ?_
 intro b4 f4
 have g4:=f4
 repeat ((with_reducible replace g4:=fresh_set g4);obtain ⟨g4,_⟩:=g4)
 have:=g4.ne hp;have:=g4.ne' hp
 refine nl_ ?_
 iterate 14 refine s1_ ?_
 refine su_ [(0,_),(1,_),(4,_),(5,_)] ?_
 refine s1_ ?_
 refine ⟨_,dkM S d oE oW,⟨_,_,_,rfl,.inr ⟨ty_agg_25,[_,_,_,_,_],ty_size_25,rds_,rfl⟩,⟨_,_,rfl,rfl,rfl⟩,rfl⟩,hdl.trans less_,?_⟩
 exact ⟨_,rfl,hl,hdk⟩
noncomputable def opened (d : D) (f : D × Int) : D × Int := if (openD d).2 = 0 then f else openD d
theorem newD_lens {d : D} (hR : Right d) (s : ByteArray) (n : Int) : (newD d s n).1.ext.length ≤ 9223372036854775807 ∧ (newD d s n).1.waits.length ≤ 9223372036854775807 := by
 have h1:=(right_len hR).1
 have h2:=hR.wl
 have h3:=ins_len (pos_le d.ext s) (s,zeros n.toNat)
 unfold newD
 repeat' split
 all_goals (constructor <;> simp only <;> omega)
end Go.Proofs.YtceikpipmcadmaaGreatDoor
namespace Go.Proofs.YtceikpipmcadmaaGreatDoor
open Go.RowKit
open Mv Disk
set_option maxRecDepth 4000
theorem drop_get {α : Type} {l : List α} {i : Nat} (h : i < l.length) : l.drop i = l[i] :: l.drop (i + 1) := List.drop_eq_getElem_cons h
section
variable {P : Program} {N : Nat} {E : Env} {S : Mem} {dst : Option Nat} {ty : TypeId} {pos : String} {aft : Array Edge} {gd : Option (Nat × Bool)}
end
end Go.Proofs.YtceikpipmcadmaaGreatDoor
namespace Go.Proofs.YtceikpipmcadmaaGreatDoor
open Go.RowKit
open Mv Disk
set_option maxRecDepth 4000
def isN (s : ByteArray) (w : Wr) : Bool := decide (w.1 = s)
def filt (s : ByteArray) (l : List Wr) : List Wr := l.filter fun w => !isN s w
theorem filt_all {s : ByteArray} {l : List Wr} (h : ∀ w ∈ l, isN s w = false) : filt s l = l := by
 unfold filt;rw [List.filter_eq_self];intro w hw;rw [h w hw];rfl
end Go.Proofs.YtceikpipmcadmaaGreatDoor
namespace Go.Proofs.YtceikpipmcadmaaGreatDoor
open Go.RowKit
open Mv Disk
set_option maxRecDepth 4000
def forgetD (d : D) (s : ByteArray) : D := { d with waits := filt s d.waits }
/-- An extent is no more. -/
def eraseD (d : D) (s : ByteArray) : D := { d with ext := d.ext.eraseIdx (pos d.ext s) }
def freeD (d : D) (s : ByteArray) : D × Int := if has d.ext s = true then (forgetD (eraseD d s) s, 0) else (d, 3)
end Go.Proofs.YtceikpipmcadmaaGreatDoor
namespace Go.Proofs.YtceikpipmcadmaaGreatDoor
open Go.RowKit
open Mv Disk
set_option maxRecDepth 4000
theorem isN_no {s : ByteArray} {w : Wr} : isN s w = false ↔ w.1 ≠ s := by unfold isN; simp
def freesD (d0 : D) : D → List ByteArray → D × Int
  | d, [] => (d, 0)
  | d, s :: l => if (freeD d s).2 = 0 then freesD d0 (freeD d s).1 l else (d0, (freeD d s).2)
theorem right_lens {d : D} (h : Right d) : d.ext.length ≤ 9223372036854775807 ∧ d.waits.length ≤ 9223372036854775807 := ⟨Nat.le_trans (right_len h).1 (by decide), Nat.le_trans h.wl (by decide)⟩
end Go.Proofs.YtceikpipmcadmaaGreatDoor
namespace Go.Proofs.YtceikpipmcadmaaGreatDoor
open Go.RowKit
open Mv Disk
set_option maxRecDepth 4000
def addW (d : D) (w : Wr) : D := { d with waits := d.waits ++ [w] }
def fuseD (d : D) : D × Int := if d.fuse = 0 then ({ d with down := true }, 10) else if 0 < d.fuse then ({ d with fuse := d.fuse - 1 }, 0) else (d, 0)
def writeD (d : D) (s : ByteArray) (i : Int) (data : ByteArray) : D × Int := if (placeD d s i).2 ≠ 0 then (d, (placeD d s i).2) else if data.size ≠ 64 then (d, 2) else if d.waits.length = 16384 then (d, 8) else fuseD (addW d (s, i, data))
theorem add_flat (d : D) (w : Wr) : (addW d w).waits.flatMap wrF = d.waits.flatMap wrF ++ wrF w := by unfold addW; simp
theorem add_len (d : D) (w : Wr) : (addW d w).waits.length = d.waits.length + 1 := by unfold addW; simp
set_option maxHeartbeats 2000000 in
theorem dev_Write (p : Nat) (d : D) (s : ByteArray) (i : Int) (data : ByteArray) (S : Mem) (oE oW : Option (Nat × Nat)) (hok : OkV S p d oE oW) (hR : Right d) (hf1 : d.fuse ≤ 9223372036854775807) :
  ACall Tryz.prog 91 #[.pointer (some ⟨p,0,none⟩),.string s,.int .i64 i,.string data] (devM S p d oE oW) (DevR S p (writeD d s i data)):=by
 have hlens:=right_lens hR
 have hwl:=hR.wl
 have hf0:=hR.fu
 have hpl:=dev_place p d s i _ (hok.rd hlens.1 hlens.2) hR
 have hp:(devM S p d oE oW).own p=some (devB d oE oW):=Mem.own_set_same _ _ _
 have hap:=hok.apart
 have hft:=hok.fits
 have hME:=devM_W hap (devB d oE oW) (d:=d)
 have hoW:=okO_baseW hap hft (devB d oE oW)
 rw [← devM_eq] at hME
 have hfl:=flat_length wr_len d.waits
 have happ:=appN_self (e:=wrT) hoW hfl
 rw [hME] at happ
 have hmeq:=devM_eq S p d oE oW
 have hdc:∀ oW',(devM S p (addW d (s,i,data)) oE oW').own p=some (devB (addW d (s,i,data)) oE oW'):=fun oW'=>Mem.own_set_same _ _ _
 obtain ⟨qw,dw,hqw⟩:=outV_eq hok.dk.w
 generalize hM:devM S p d oE oW=M at *
 unfold devB at hp
 unfold writeD
 by_cases q1:(placeD d s i).2=0
 ·rw [if_neg (fun h=>h q1)]
  rw [q1] at hpl
  by_cases q2:data.size=64
  ·rw [if_neg (fun h=>h q2)]
   by_cases q3:d.waits.length=16384
   ·rw [if_pos q3]
    rw [hqw] at hp
    refine ACall.enter (rs:=[.tmp 8]) 75 [(0,.pointer (some ⟨p,0,none⟩)),(1,.string s),(2,.int .i64 i),(3,.string data)] Tryz.func91 rfl rfl (Nat.le_of_ble_eq_true rfl) rfl ⟨rfl,rfl,rfl,rfl,trivial⟩ ?_
    iterate 11 refine s1_ ?_
    refine ca_ rfl (hpl) ?_
    rintro _ S1 ⟨rfl,h1⟩
    rw [h1];clear h1 S1
    iterate 7 refine s1_ ?_
    refine su_ [(0,_),(1,_),(2,_),(3,_),(8,_),(10,_)] ?_
    iterate 6 refine s1_ ?_
    refine su_ [(0,_),(1,_),(2,_),(3,_),(8,_),(10,_),(19,_)] ?_
    refine cF_ ?_
    iterate 12 refine s1_ ?_
    refine su_ [(0,_),(1,_),(2,_),(3,_),(8,_),(10,_),(19,_),(21,_)] ?_
    refine cF_ ?_
    iterate 12 refine s1_ ?_
    refine su_ [(0,_),(1,_),(2,_),(3,_),(8,_),(10,_),(19,_),(21,_),(25,_)] ?_
    refine cT_ ?_
    iterate 8 refine s1_ ?_
    refine ⟨_,M,⟨_,_,rfl,rfl,rfl⟩,less_,?_⟩
    exact ⟨oE,oW,hok,rfl,hM.symm⟩
   ·rw [if_neg q3]
    refine ACall.enter (rs:=[.tmp 8]) 75 [(0,.pointer (some ⟨p,0,none⟩)),(1,.string s),(2,.int .i64 i),(3,.string data)] Tryz.func91 rfl rfl (Nat.le_of_ble_eq_true rfl) rfl ⟨rfl,rfl,rfl,rfl,trivial⟩ ?_
    iterate 11 refine s1_ ?_
    refine ca_ rfl (hpl) ?_
    rintro _ S1 ⟨rfl,h1⟩
    rw [h1];clear h1 S1
    iterate 7 refine s1_ ?_
    refine su_ [(0,_),(1,_),(2,_),(3,_),(8,_),(10,_)] ?_
    iterate 6 refine s1_ ?_
    refine su_ [(0,_),(1,_),(2,_),(3,_),(8,_),(10,_),(19,_)] ?_
    refine cF_ ?_
    iterate 12 refine s1_ ?_
    refine su_ [(0,_),(1,_),(2,_),(3,_),(8,_),(10,_),(19,_),(21,_)] ?_
    refine cF_ ?_
    iterate 7 refine s1_ ?_
    refine rC ((by rw [hqw];exact Calm.lenSl Tryz.underlying23 rfl)) ?_
    iterate 4 refine s1_ ?_
    refine su_ [(0,_),(1,_),(2,_),(3,_),(8,_),(10,_),(19,_),(21,_),(25,_)] ?_
    refine cF_ ?_
    iterate 15 refine s1_ ?_
    refine ARun.build1 (lit_lt rfl) ty_sl_23 rfl (by decide) (by decide) rfl rfl ?_
    intro b43 f43
    have g43:=f43
    repeat ((with_reducible replace g43:=fresh_set g43);obtain ⟨g43,_⟩:=g43)
    have:=g43.ne hp;have:=g43.ne' hp
    refine ARun.appendOK (n:=3) (o:=oW) (k:=d.waits.length) (m:=1) (cs:=d.waits.flatMap wrF) (lit_lt rfl) ty_sl_23 rfl rfl hfl hoW (happ.temp f43) rfl (src_own (Mem.own_set_same _ _ _) List.prefix_rfl) rfl (fun v hv=>wr_one [(s,i,data)] v (by rw [List.flatMap_cons,List.flatMap_nil,List.append_nil];exact hv)) (by omega) (by omega) ?_
    intro o' ho'
    have hp2:∀ cs,(outN 3 (baseW S p d oE (devB d oE oW)) o' wrT cs).own p=some (devB d oE oW):=fun cs=>own_outN' (Mem.own_set_same _ _ _) (fun q c e=>((apart_W hap ho').w q c e).2)
    have hE':=devM_W' (d':=addW d (s,i,data)) hap ho' rfl
    rw [add_flat] at hE'
    unfold devB at hp2
    iterate 3 refine s1_ ?_
    refine ARun.store1 rfl rfl ty_size_23 (outV_cells _ _) (hp2 _) (show 2<5 from by decide) (outV_one _ _) ?_
    try simp only [k_ms,k_sz,k_ss,k_za,Nat.reduceAdd]
    iterate 2 refine s1_ ?_
    refine su_ [(0,_),(1,_),(2,_),(3,_),(8,_),(10,_),(19,_),(21,_),(25,_)] ?_
    refine AWP.less (devM S p (addW d (s,i,data)) oE o') (by rw [← hE'];unfold devB;rw [add_len];exact Mem.Less.refl _) ?_
    have hp3:=hdc o'
    have hokk:∀ d',d'.waits=(addW d (s,i,data)).waits→d'.ext=d.ext→OkV S p d' oE o':=fun d' e1 e2=>okV_mk (apart_W hap ho') (fits_W hft ho' (by rw [e1,add_len]) e2)
    unfold devB at hp3
    simp only [show (addW d (s,i,data)).size=d.size from rfl,show (addW d (s,i,data)).fuse=d.fuse from rfl,show (addW d (s,i,data)).down=d.down from rfl] at hp3
    have hfu:(addW d (s,i,data)).fuse=d.fuse:=rfl
    generalize hM2:devM S p (addW d (s,i,data)) oE o'=M2 at *
    unfold fuseD
    rw [hfu]
    by_cases q4:d.fuse=0
    ·rw [if_pos q4]
     iterate 13 refine s1_ ?_
     refine su_ [(0,_),(1,_),(2,_),(3,_),(8,_),(10,_),(19,_),(21,_),(25,_),(48,_)] ?_
     refine cT_ ?_
     iterate 6 refine s1_ ?_
     refine ARun.store1 rfl rfl ty_size_4 rfl hp3 (show 4<5 from by decide) rfl ?_
     try simp only [k_ms,k_sz,k_ss,k_za,Nat.reduceAdd]
     iterate 2 refine s1_ ?_
     refine su_ [(0,_),(1,_),(2,_),(3,_),(8,_),(10,_),(19,_),(21,_),(25,_),(48,_)] ?_
     iterate 8 refine s1_ ?_
     refine ⟨_,devM S p { addW d (s,i,data) with down:=true } oE o',⟨_,_,rfl,rfl,rfl⟩,(by rw [← hM2];unfold devM;rw [Mem.set_set];exact Mem.Less.refl _),?_⟩
     exact ⟨oE,o',hokk _ rfl rfl,rfl,rfl⟩
    ·rw [if_neg q4]
     by_cases q5:0<d.fuse
     ·rw [if_pos q5]
      iterate 13 refine s1_ ?_
      refine su_ [(0,_),(1,_),(2,_),(3,_),(8,_),(10,_),(19,_),(21,_),(25,_),(48,_)] ?_
      refine cF_ ?_
      iterate 11 refine s1_ ?_
      refine su_ [(0,_),(1,_),(2,_),(3,_),(8,_),(10,_),(19,_),(21,_),(25,_),(48,_),(59,_)] ?_
      refine cT_ ?_
      iterate 10 refine s1_ ?_
      refine ARun.store1 rfl rfl ty_size_3 rfl hp3 (show 3<5 from by decide) rfl ?_
      try simp only [k_ms,k_sz,k_ss,k_za,Nat.reduceAdd]
      iterate 3 refine s1_ ?_
      refine su_ [(0,_),(1,_),(2,_),(3,_),(8,_),(10,_),(19,_),(21,_),(25,_),(48,_),(59,_)] ?_
      iterate 6 refine s1_ ?_
      refine ⟨_,devM S p { addW d (s,i,data) with fuse:=d.fuse-1 } oE o',⟨_,_,rfl,rfl,rfl⟩,(by rw [← hM2];unfold devM;rw [Mem.set_set];exact Mem.Less.refl _),?_⟩
      exact ⟨oE,o',hokk _ rfl rfl,rfl,rfl⟩
     ·rw [if_neg q5]
      iterate 13 refine s1_ ?_
      refine su_ [(0,_),(1,_),(2,_),(3,_),(8,_),(10,_),(19,_),(21,_),(25,_),(48,_)] ?_
      refine cF_ ?_
      iterate 11 refine s1_ ?_
      refine su_ [(0,_),(1,_),(2,_),(3,_),(8,_),(10,_),(19,_),(21,_),(25,_),(48,_),(59,_)] ?_
      refine cF_ ?_
      iterate 9 refine s1_ ?_
      refine ⟨_,devM S p (addW d (s,i,data)) oE o',⟨_,_,rfl,rfl,rfl⟩,(by rw [← hM2];exact Mem.Less.refl _),?_⟩
      exact ⟨oE,o',hokk _ rfl rfl,rfl,rfl⟩
  ·rw [if_pos q2]
   refine ACall.enter (rs:=[.tmp 8]) 75 [(0,.pointer (some ⟨p,0,none⟩)),(1,.string s),(2,.int .i64 i),(3,.string data)] Tryz.func91 rfl rfl (Nat.le_of_ble_eq_true rfl) rfl ⟨rfl,rfl,rfl,rfl,trivial⟩ ?_
   iterate 11 refine s1_ ?_
   refine ca_ rfl (hpl) ?_
   rintro _ S1 ⟨rfl,h1⟩
   rw [h1];clear h1 S1
   iterate 7 refine s1_ ?_
   refine su_ [(0,_),(1,_),(2,_),(3,_),(8,_),(10,_)] ?_
   iterate 6 refine s1_ ?_
   refine su_ [(0,_),(1,_),(2,_),(3,_),(8,_),(10,_),(19,_)] ?_
   refine cF_ ?_
   iterate 12 refine s1_ ?_
   refine su_ [(0,_),(1,_),(2,_),(3,_),(8,_),(10,_),(19,_),(21,_)] ?_
   refine cT_ ?_
   iterate 8 refine s1_ ?_
   refine ⟨_,M,⟨_,_,rfl,rfl,rfl⟩,less_,?_⟩
   exact ⟨oE,oW,hok,rfl,hM.symm⟩
 ·rw [if_pos q1]
  have hp1:(placeD d s i).2=1∨(placeD d s i).2=3:=by
   unfold placeD at q1 ⊢;repeat' split
   all_goals simp_all
  refine ACall.enter (rs:=[.tmp 8]) 75 [(0,.pointer (some ⟨p,0,none⟩)),(1,.string s),(2,.int .i64 i),(3,.string data)] Tryz.func91 rfl rfl (Nat.le_of_ble_eq_true rfl) rfl ⟨rfl,rfl,rfl,rfl,trivial⟩ ?_
  iterate 11 refine s1_ ?_
  refine ca_ rfl (hpl) ?_
  rintro _ S1 ⟨rfl,h1⟩
  rw [h1];clear h1 S1
  iterate 7 refine s1_ ?_
  refine su_ [(0,_),(1,_),(2,_),(3,_),(8,_),(10,_)] ?_
  iterate 6 refine s1_ ?_
  refine su_ [(0,_),(1,_),(2,_),(3,_),(8,_),(10,_),(19,_)] ?_
  refine cT_ ?_
  iterate 6 refine s1_ ?_
  refine su_ [(0,_),(1,_),(2,_),(3,_),(8,_),(10,_),(19,_)] ?_
  iterate 2 refine s1_ ?_
  refine ⟨_,M,⟨_,_,rfl,rfl,rfl⟩,less_,?_⟩
  exact ⟨oE,oW,hok,rfl,hM.symm⟩
end Go.Proofs.YtceikpipmcadmaaGreatDoor
namespace Go.Proofs.YtceikpipmcadmaaGreatDoor
open Go.RowKit
open Mv Disk
set_option maxRecDepth 4000
theorem flat_set {α : Type} {n : Nat} {f : α → List Value} (hn : ∀ x, (f x).length = n) (l : List α) (k : Nat) (y : α) (h : k < l.length) (q : Nat) (v : Value) (hq : q < n) (he : (f l[k]).set q v = f y) : (l.flatMap f).set (k * n + q) v = (l.set k y).flatMap f := by
 have e1:l=l.take k ++ l[k] :: l.drop (k+1):=by rw [← drop_get h,List.take_append_drop]
 have e2:l.set k y=l.take k ++ y :: l.drop (k+1):=by rw [List.set_eq_take_append_cons_drop,if_pos h]
 rw [e2]
 conv=>lhs;rw [e1]
 rw [List.flatMap_append,List.flatMap_append,List.flatMap_cons,List.flatMap_cons]
 have hl:=flat_length hn (l.take k)
 rw [List.length_take,Nat.min_eq_left (Nat.le_of_lt h)] at hl
 rw [List.set_append_right _ _ (by omega),List.set_append_left _ _ (by rw [hn];omega),show k*n+q-(List.flatMap f (List.take k l)).length=q from by omega,he]
theorem kn_at {S : Mem} {b o : Nat} {cs : List Value} (h : S.Knows ⟨b, o, none⟩ cs) (k : Nat) {v : Value} (hk : cs[k]? = some v) : S.Knows ⟨b, o + k, none⟩ [v] := fun w hv j u hj => by
 cases j with
 | zero =>
  simp only [List.getElem?_cons_zero,Option.some.injEq] at hj
  subst hj
  have:=h w hv k v hk
  rw [addr_add] at this ⊢;exact this
 | succ j=>simp at hj
theorem dev_ownE {S : Mem} {p : Nat} {d : D} {b c : Nat} {oW : Option (Nat × Nat)} (h : OkV S p d (some (b, c)) oW) : (devM S p d (some (b, c)) oW).own b = some ⟨extT, d.ext.flatMap extF, c * 2⟩ := by
 rw [devM_eq,← devM_E h.apart];exact Mem.own_set_same _ _ _
theorem dev_setE {S : Mem} {p : Nat} {d d' : D} {b c : Nat} {oW : Option (Nat × Nat)} (h : OkV S p d (some (b, c)) oW) (hw : d'.waits = d.waits) (hl : d'.ext.length = d.ext.length) (h1 : d'.size = d.size) (h2 : d'.fuse = d.fuse) (h3 : d'.down = d.down) : (devM S p d (some (b, c)) oW).set b ⟨extT, d'.ext.flatMap extF, c * 2⟩ = devM S p d' (some (b, c)) oW ∧ OkV S p d' (some (b, c)) oW := by
 have hf:=h.fits
 have e:devB d (some (b,c)) oW=devB d' (some (b,c)) oW:=by unfold devB;rw [hw,hl,h1,h2,h3]
 refine ⟨?_,okV_mk h.apart ⟨(fun x=>by cases x),fun x=>by rw [hw];exact hf.w0 x,fun b c x=>by rw [hl];exact hf.e b c x,fun b c x=>by rw [hw];exact hf.w b c x⟩⟩
 rw [devM_eq,devM_eq,← devM_E h.apart,← devM_E h.apart,e]
 unfold baseE
 rw [hw]
 exact Mem.set_set _ _ _ _
end Go.Proofs.YtceikpipmcadmaaGreatDoor
namespace Go.Proofs.YtceikpipmcadmaaGreatDoor
open Go.RowKit
open Mv Disk
set_option maxRecDepth 4000
theorem writeD_lens {d : D} (hR : Right d) (s : ByteArray) (i : Int) (data : ByteArray) : (writeD d s i data).1.ext.length ≤ 9223372036854775807 ∧ (writeD d s i data).1.waits.length ≤ 9223372036854775807 := by
 have h:=right_lens hR
 have h2:=hR.wl
 have h3:=add_len d (s,i,data)
 unfold writeD fuseD
 repeat' split
 ·exact h
 ·exact h
 ·exact h
 all_goals exact ⟨h.1,by simp only;omega⟩
end Go.Proofs.YtceikpipmcadmaaGreatDoor
namespace Go.Proofs.YtceikpipmcadmaaGreatDoor
open Go.RowKit
namespace Disk
open Mv
/-- A sector is put into a text. -/
def putS (x : ByteArray) (w : Wr) : ByteArray := bs (x.data.toList.take (64 * w.2.1.toNat) ++ w.2.2.data.toList ++ x.data.toList.drop (64 * w.2.1.toNat + 64))
theorem putS_size {x : ByteArray} {w : Wr} (h1 : 64 * w.2.1.toNat + 64 ≤ x.size) (h2 : w.2.2.size = 64) : (putS x w).size = x.size := by
 unfold putS
 rw [size_bs]
 simp only [List.length_append,List.length_take,List.length_drop,size_data,h2]
 omega
def accW (kp : Nat → Bool) (x : Ext) (l : List Wr) : Nat → Option ByteArray
  | 0 => none
  | n + 1 => match l[n]? with
    | some w => if w.1 = x.1 ∧ kp n = true then some (putS ((accW kp x l n).getD x.2) w) else accW kp x l n
    | none => accW kp x l n
theorem accW_succ (kp : Nat → Bool) (x : Ext) (l : List Wr) (n : Nat) (h : n < l.length) : accW kp x l (n + 1) = if l[n].1 = x.1 ∧ kp n = true then some (putS ((accW kp x l n).getD x.2) l[n]) else accW kp x l n := by
 rw [accW,List.getElem?_eq_getElem h]
/-- All that waits for an extent fits. -/
def Fit (x : Ext) (l : List Wr) : Prop := ∀ w ∈ l, w.1 = x.1 → 0 ≤ w.2.1 ∧ 64 * w.2.1.toNat + 64 ≤ x.2.size ∧ w.2.2.size = 64
theorem acc_size {kp : Nat → Bool} {x : Ext} {l : List Wr} (hf : Fit x l) : ∀ n, n ≤ l.length → ((accW kp x l n).getD x.2).size = x.2.size
 | 0,_=>rfl
 | n+1,h=>by
  have ih:=acc_size (kp:=kp) hf n (by omega)
  rw [accW_succ kp x l n (by omega)]
  split
  ·rename_i hc
   obtain ⟨_,h1,h2⟩:=hf _ (List.getElem_mem (by omega:n<l.length)) hc.1
   simp only [Option.getD_some]
   rw [putS_size (by rw [ih];exact h1) h2];exact ih
  ·exact ih
def doneX (kp : Nat → Bool) (l : List Wr) (x : Ext) : Ext := (x.1, (accW kp x l l.length).getD x.2)
def settleD (d : D) (kp : Nat → Bool) : D := { d with ext := d.ext.map (doneX kp d.waits), waits := [] }
/-- The first i of them done. -/
def mixE (kp : Nat → Bool) (w : List Wr) (l : List Ext) (i : Nat) : List Ext := (l.take i).map (doneX kp w) ++ l.drop i
theorem mixE_len (kp : Nat → Bool) (w : List Wr) (l : List Ext) (i : Nat) : (mixE kp w l i).length = l.length := by unfold mixE; simp; omega
theorem mixE_zero (kp : Nat → Bool) (w : List Wr) (l : List Ext) : mixE kp w l 0 = l := by simp [mixE]
theorem mixE_all (kp : Nat → Bool) (w : List Wr) (l : List Ext) : mixE kp w l l.length = l.map (doneX kp w) := by simp [mixE]
theorem mixE_at (kp : Nat → Bool) (w : List Wr) (l : List Ext) (i : Nat) (h : i < l.length) : mixE kp w l i = (l.take i).map (doneX kp w) ++ l[i] :: l.drop (i + 1) := by unfold mixE; rw [List.drop_eq_getElem_cons h]
theorem mixE_get (kp : Nat → Bool) (w : List Wr) (l : List Ext) (i : Nat) (h : i < l.length) (h' : i < (mixE kp w l i).length) : (mixE kp w l i)[i] = l[i] := by
 simp only [mixE_at kp w l i h]
 rw [List.getElem_append_right (by simp;omega)]
 simp [Nat.min_eq_left (Nat.le_of_lt h)]
theorem mixE_succ (kp : Nat → Bool) (w : List Wr) (l : List Ext) (i : Nat) (h : i < l.length) : mixE kp w l (i + 1) = (mixE kp w l i).set i (doneX kp w l[i]) := by
 rw [mixE_at kp w l i h,List.set_append_right _ _ (by simp;omega)]
 unfold mixE
 rw [take_get h,List.map_append,List.append_assoc,List.length_map,List.length_take,Nat.min_eq_left (Nat.le_of_lt h),Nat.sub_self]
 rfl
theorem right_fit {d : D} (h : Right d) {x : Ext} (hx : x ∈ d.ext) : Fit x d.waits := fun w hw e => by
 obtain ⟨y,hy,e2,h0,h1,h2⟩:=h.wr w hw
 have:y=x:=asc_inj h.ex.asc hy hx (e2.trans e)
 subst this
 have:=(eok_sec (h.ex.ok y hy)).2
 exact ⟨h0,by omega,h2⟩
end Disk
end Go.Proofs.YtceikpipmcadmaaGreatDoor
namespace Go.Proofs.YtceikpipmcadmaaGreatDoor
open Go.RowKit
open Mv Disk
set_option maxRecDepth 4000
section
variable {P : Program} {N : Nat} {ops : Array Oper} {E : Env} {S : Mem} {K : Env → Mem → Prop}
variable {ty : TypeId} {pos : String} {aft : Array Edge} {gd : Option (Nat × Bool)}
/-- copy of a text into bytes of one's own. -/
theorem Mv.ARun.copyStr {os : List Oper} {T T2 e : TypeId} {y : Nat} {z : List Value} {x1 x2 : Operand} {b o k c d : Nat} {r : Blk} {t : ByteArray} (hn : d < N) (hT : slT P T = some (e, 1, y, z))
  (hx:ev E x1=some (.slice (some ⟨b,o,none⟩) k c)) (hb:S.own b=some r) (hy:ev E x2=some (.string t)) (hle:t.size≤k) (ho:o+t.size≤r.cells.length)
  (h:ARun P N ops os K ((d,.int .i64 (t.size:Int)) :: E) (S.set b ⟨r.elem,spl r.cells o (cellsB t.data.toList),r.room⟩)) :
  ARun P N ops (⟨some d,.call ⟨.builtin .copy,#[x1,x2],#[T,T2]⟩,ty,pos,aft,none⟩ :: os) K E S:=fun a w g hv=>by
 rw [if_pos (by simp [Region.wanted])]
 obtain ⟨hu,i,v,e1,e2,e3,e4,e5⟩:=slT_spec hT
 have hex:(execOp a.eval ⟨some d,.call ⟨.builtin .copy,#[x1,x2],#[T,T2]⟩,ty,pos,aft,none⟩).run P w=((Builtin.copy_ #[T,T2] ty #[.slice (some ⟨b,o,none⟩) k c,.string t]).run P w).andThen fun v w'=>.ok (.value v) w':=by
  simp [execOp,resolve,invoke,builtin,g.ev hx,g.ev hy]
 unfold Oper.wp
 rw [hex]
 obtain ⟨cur,fz,k1,k2,k3,k4⟩:=hv.own b r hb
 have hcur:r.cells.length≤cur.size:=by have:=k2.length_le;simpa using this
 have hl:(cellsB t.data.toList).length=t.size:=by rw [cellsB_length,size_data]
 obtain ⟨q1,q2⟩:=store_cells (P:=P) hv hb (vs:=cellsB t.data.toList) (o:=o) (by omega) (.inl (by rw [hl];exact ho)) (fun v hv=>by
  obtain ⟨x,_,rfl⟩:=List.mem_map.1 hv
  rfl)
 have hr:=run_copy_string (P:=P) w T T2 ty e b o k c t hu (fun w=>by simp [Go.sizeOf,typeInfo,e1,e3]) hle
  (fun j hj=>by simp [World.cell?,k1];omega) (fun j hj=>by have:=k4 (o+j) (.inl (by omega));simpa [World.frozen?,k1] using this)
 rw [hr]
 exact ⟨_,_,h,g.put hn _,q2⟩
end
theorem spl_cells {l t : List UInt8} {k : Nat} (h : k + t.length ≤ l.length) : spl (cellsB l) k (cellsB t) = cellsB (l.take k ++ t ++ l.drop (k + t.length)) := by
 unfold spl cellsB
 simp only [List.map_append,List.map_take,List.map_drop,List.length_map]
theorem putS_cells {x : ByteArray} {w : Wr} (h : 64 * w.2.1.toNat + 64 ≤ x.size) (h2 : w.2.2.size = 64) : spl (cellsB x.data.toList) (0 + 64 * w.2.1.toNat * 1) (cellsB w.2.2.data.toList) = cellsB (putS x w).data.toList := by
 rw [show 0+64*w.2.1.toNat*1=64*w.2.1.toNat from by omega,spl_cells (by rw [size_data,size_data,h2];exact h),size_data,h2]
 unfold putS;rfl
end Go.Proofs.YtceikpipmcadmaaGreatDoor
namespace Go.Proofs.YtceikpipmcadmaaGreatDoor
open Go.RowKit
open Mv Disk
set_option maxRecDepth 4000
abbrev u8T : TypeId := 5
/-- What the bytes of an extent are in: none, or a block of one's own. -/
def OkB (M : Mem) (o : Option (Nat × Nat)) (n : Nat) : Prop := ∀ b c, o = some (b, c) → Fresh M b ∧ n ≤ c
set_option maxHeartbeats 8000000 in
theorem dev_settle (p : Nat) (d : D) (S : Mem) (oE oW : Option (Nat × Nat)) (hok : OkV S p d oE oW) (hR : Right d) (f : FuncId) (caps : List Value) (hgo : goFn Tryz.prog f = true) (kp : Nat → Bool)
  (hkeep:∀ (k:Nat) (M:Mem),k<d.waits.length→S.Less M→ACall Tryz.prog f (([] : List Value) ++ [Value.int .i64 (k:Int)] ++ caps).toArray M fun r S'=>r = .bool (kp k)∧S'=M) :
  ACall Tryz.prog 65 #[.pointer (some ⟨p,0,none⟩),.func (.func f) #[] caps.toArray] (devM S p d oE oW) fun r S'=>r = .tuple #[]∧OkV S p (settleD d kp) oE none∧S'=devM S p (settleD d kp) oE none:=by
 have hrl:=right_len hR
 have hlens:=right_lens hR
 have hwl:=hR.wl
 have hp:(devM S p d oE oW).own p=some (devB d oE oW):=Mem.own_set_same _ _ _
 obtain ⟨qe,de,hqe⟩:=outV_eq hok.dk.e
 obtain ⟨qw,dw,hqw⟩:=outV_eq hok.dk.w
 have hp':=hp
 unfold devB at hp'
 refine ACall.enter (rs:=[]) 73 [(0,.pointer (some ⟨p,0,none⟩)),(1,.func (.func f) #[] caps.toArray)] Tryz.func65 rfl rfl (Nat.le_of_ble_eq_true rfl) rfl ⟨rfl,rfl,trivial⟩ ?_
 iterate 8 refine s1_ ?_
 refine rC ((by rw [hqe];exact Calm.lenSl Tryz.underlying22 rfl)) ?_
 iterate 3 refine s1_ ?_
 refine su_ [(0,_),(1,_),(13,_),(14,_),(15,_)] ?_
 refine s1_ ?_
 refine AWP.loop (X:=Nat) (fun x=>[(0,.pointer (some ⟨p,0,none⟩)),(1,.func (.func f) #[] caps.toArray),(13,outV oE d.ext.length),(14,.int .i64 d.ext.length),(15,.int .i64 x)]) (fun x=>devM S p { d with ext:=mixE kp d.waits d.ext x } oE oW) (fun x=>x≤d.ext.length∧OkV S p { d with ext:=mixE kp d.waits d.ext x } oE oW) (fun x=>d.ext.length-x) (0) ⟨rfl,rfl,rfl,rfl,rfl,trivial⟩ (by rw [mixE_zero];exact Mem.Less.refl _) (⟨Nat.zero_le _,by rw [mixE_zero];exact hok⟩) ?_
 rintro i ⟨hi,hoki⟩
 (try dsimp only at *)
 have hml:=mixE_len kp d.waits d.ext i
 have hpi:(devM S p { d with ext:=mixE kp d.waits d.ext i } oE oW).own p=some (devB { d with ext:=mixE kp d.waits d.ext i } oE oW):=Mem.own_set_same _ _ _
 unfold devB at hpi
 simp only at hpi
 iterate 6 refine s1_ ?_
 refine AWP.condB rfl (fun hc=>?_) (fun hc=>?_)
 ·have hc:i<d.ext.length:=by have:=of_decide_eq_true hc;omega
  obtain ⟨⟨b,c⟩,rfl⟩ : ∃ q,oE=some q:=by cases hq:oE with | none=>(have:=hoki.fits.e0 hq;simp only at this;omega) | some q=>exact ⟨q,rfl⟩
  have hbE:=dev_ownE hoki
  have hmg:=mixE_get kp d.waits d.ext i hc (by omega)
  have hmsu:=mixE_succ kp d.waits d.ext i hc
  have hxm:=List.getElem_mem hc
  have hfit:=right_fit hR hxm
  have hsx:=right_sec hR hxm
  have hasz:=fun n h=>acc_size (kp:=kp) hfit n h
  have hSi:=hoki.less
  have hWS:Sl 3 wrF (devM S p { d with ext:=mixE kp d.waits d.ext i } (some (b,c)) oW) (outV oW d.waits.length) d.waits:=(sl_outN wr_len (e:=wrT) hoki.dk.w rfl hlens.2).less (Mem.less_set _ _ _ hoki.fr.1)
  rw [hqw] at hWS
  have hki:(devM S p { d with ext:=mixE kp d.waits d.ext i } (some (b,c)) oW).Knows ⟨b,0+i*2,none⟩ (extF d.ext[i]):=Mem.own_knows hbE _ _ (fun j v hj=>by have:=flat_get ext_len (mixE kp d.waits d.ext i) i (by omega) j v (by rw [hmg];exact hj);rw [← this];congr 1;omega)
  have hdx:doneX kp d.waits d.ext[i]=(d.ext[i].1,(accW kp d.ext[i] d.waits d.waits.length).getD d.ext[i].2):=rfl
  rw [hdx] at hmsu
  have hasu:=accW_succ kp d.ext[i] d.waits
  have hse:=fun y=>dev_setE (d':={ d with ext:=(mixE kp d.waits d.ext i).set i y }) hoki rfl (by simp) rfl rfl rfl
  have hcl:0+i*2+1<((mixE kp d.waits d.ext i).flatMap extF).length:=by rw [flat_length ext_len,hml];omega
  simp only at hbE hse
  generalize hxx:d.ext[i]=x at *
  unfold extF at hki
  generalize hMi:devM S p { d with ext:=mixE kp d.waits d.ext i } (some (b,c)) oW=Mi at *
  iterate 7 refine s1_ ?_
  refine rC (Calm.indexS Tryz.underlying22 ty_size_81 rfl rfl (by omega) (by omega)) ?_
  refine s1_ ?_
  refine ARun.alloc (lit_lt rfl) ty_zero_81 ?_
  intro b5 f5
  have g5:=f5
  repeat ((with_reducible replace g5:=fresh_set g5);obtain ⟨g5,_⟩:=g5)
  refine nl_ ?_
  iterate 4 refine s1_ ?_
  refine su_ [(0,_),(1,_),(13,_),(14,_),(15,_),(16,_),(5,_),(4,_)] ?_
  have hpb5:=f5.ne hpi
  iterate 13 refine s1_ ?_
  refine rC ((by rw [hqw];exact Calm.lenSl Tryz.underlying23 rfl)) ?_
  rw [hqw]
  iterate 3 refine s1_ ?_
  refine su_ [(0,_),(1,_),(13,_),(14,_),(15,_),(16,_),(5,_),(4,_),(6,_),(24,_),(25,_),(26,_)] ?_
  refine s1_ ?_
  refine AWP.loop (X:=Nat × Option (Nat × Nat)) (fun y=>[(0,.pointer (some ⟨p,0,none⟩)),(1,.func (.func f) #[] caps.toArray),(13,outV (some (b,c)) d.ext.length),(14,.int .i64 d.ext.length),(15,.int .i64 i),(4,.int .i64 i),(5,.pointer (some ⟨b5,0,none⟩)),(6,outV y.2 x.2.size),(24,.slice qw d.waits.length dw),(25,.int .i64 d.waits.length),(26,.int .i64 y.1)]) (fun y=>outM (Mi.set b5 ⟨81,[.string x.1,.string x.2],2⟩) y.2 u8T (cellsB ((accW kp x d.waits y.1).getD x.2).data.toList)) (fun y=>y.1≤d.waits.length∧OkB (Mi.set b5 ⟨81,[.string x.1,.string x.2],2⟩) y.2 x.2.size∧(y.2=none ↔ accW kp x d.waits y.1=none)) (fun y=>d.waits.length-y.1) ((0,none)) ⟨rfl,rfl,rfl,rfl,rfl,rfl,rfl,rfl,rfl,rfl,rfl,trivial⟩ (Mem.Less.refl _) (⟨Nat.zero_le _,(fun b c e=>by cases e),by simp [accW]⟩) ?_
  rintro ⟨k,ob⟩ ⟨hk,hob,hoa⟩
  (try dsimp only at *)
  have hsz:=hasz k hk
  iterate 6 refine s1_ ?_
  refine AWP.condB rfl (fun hc2=>?_) (fun hc2=>?_)
  ·have hc2:k<d.waits.length:=by have:=of_decide_eq_true hc2;omega
   obtain ⟨_,_,ew1,ew2,ew3,hW3⟩:=id hWS
   cases ew1
   obtain ⟨bw,ow,rfl,hkkw⟩:=hW3.resolve_left (fun e=>by rw [e] at hc2;simp at hc2)
   have hkw:=hkkw k hc2
   have hsu:=hasu k hc2
   have hfw:=hfit _ (List.getElem_mem hc2)
   generalize hw:d.waits[k]=w at *
   unfold wrF at hkw
   rcases ob with _ | ⟨bd,cd⟩
   ·have hacc:accW kp x d.waits k=none:=hoa.1 rfl
    rw [hacc] at hsu hsz
    simp only [Option.getD_none] at hsu hsz
    have hb5:(Mi.set b5 ⟨81,[.string x.1,.string x.2],2⟩).own b5=some ⟨81,[.string x.1,.string x.2],2⟩:=Mem.own_set_same _ _ _
    simp only [outM,outV]
    have hML:Mi.Less (Mi.set b5 ⟨81,[.string x.1,.string x.2],2⟩):=Mem.less_set _ _ _ f5.1
    have hkw':=hkw.less hML
    iterate 7 refine s1_ ?_
    refine rC (Calm.indexS Tryz.underlying23 ty_size_83 rfl rfl (by omega) (by omega)) ?_
    refine s1_ ?_
    refine ARun.alloc (lit_lt rfl) ty_zero_83 ?_
    intro b8 f8
    have g8:=f8
    repeat ((with_reducible replace g8:=fresh_set g8);obtain ⟨g8,_⟩:=g8)
    refine nl_ ?_
    iterate 4 refine s1_ ?_
    refine su_ [(0,_),(1,_),(13,_),(14,_),(15,_),(4,_),(5,_),(6,_),(24,_),(25,_),(26,_),(27,_),(8,_),(7,_)] ?_
    by_cases hn:w.1=x.1
    ·by_cases hkk:kp k=true
     ·rw [if_pos ⟨hn,hkk⟩] at hsu
      obtain ⟨hw0,hw1,hw2⟩:=hfw hn
      iterate 7 refine s1_ ?_
      refine rC (Calm.bin rfl rfl (bin_bool (bin_str_neq _ _) (bnot_dec_false hn))) ?_
      iterate 3 refine s1_ ?_
      refine rUn 36 ?_
      refine ARun.callV (first:=[]) (cap:=caps) (lit_lt rfl) hgo rfl rfl (hkeep k _ hc2 (hSi.trans (hML.trans less_))) ?_
      rintro _ S1 ⟨rfl,h1⟩
      rw [h1,hkk];clear h1 S1
      iterate 4 refine s1_ ?_
      refine su_ [(0,_),(1,_),(13,_),(14,_),(15,_),(4,_),(5,_),(6,_),(24,_),(25,_),(26,_),(27,_),(8,_),(7,_),(41,_)] ?_
      refine cF_ ?_
      iterate 9 refine s1_ ?_
      refine su_ [(0,_),(1,_),(13,_),(14,_),(15,_),(4,_),(5,_),(6,_),(24,_),(25,_),(26,_),(27,_),(8,_),(7,_),(41,_),(43,_)] ?_
      refine cT_ ?_
      iterate 3 refine s1_ ?_
      refine ARun.toBytes (lit_lt rfl) ty_str_9 ty_bytes_61 rfl ?_
      intro b46 c46 f46 hc46
      have g46:=f46
      repeat ((with_reducible replace g46:=fresh_set g46);obtain ⟨g46,_⟩:=g46)
      iterate 3 refine s1_ ?_
      refine su_ [(0,_),(1,_),(13,_),(14,_),(15,_),(4,_),(5,_),(6,_),(24,_),(25,_),(26,_),(27,_),(8,_),(7,_),(41,_),(43,_)] ?_
      refine AWP.draw [(0,true),(1,true),(2,true),(3,true),(4,true),(5,true),(6,true),(7,false)] [7] mixed (by kernel_rfl) ?_
      iterate 4 refine s1_ ?_
      refine dP (hc:=fun _=>Calm.sliceLo (64*w.2.1.toNat) Tryz.underlying61 ty_size_5 rfl rfl (by omega) (by omega) (by omega)) (h:=?_)
      iterate 2 refine s1_ ?_
      refine draw_only rfl ?_
      refine ARun.copyStr (lit_lt rfl) ty_sl_61 rfl own_ rfl (by omega) (by simp only [cellsB_length,size_data];omega) ?_
      have hpc:=putS_cells (x:=x.2) (w:=w) hw1 hw2
      refine arun_nil ⟨fun h=>absurd h (by decide),?_⟩
      iterate 3 refine s1_ ?_
      refine su_ [(0,_),(1,_),(13,_),(14,_),(15,_),(4,_),(5,_),(6,_),(24,_),(25,_),(26,_),(27,_),(8,_),(7,_),(41,_),(43,_)] ?_
      iterate 5 refine s1_ ?_
      refine ⟨(k+1,some (b46,c46)),?_,?_,?_,?_⟩
      all_goals (try dsimp only)
      ·exact ⟨rfl,rfl,rfl,rfl,rfl,rfl,rfl,rfl,rfl,rfl,some_int (by simp),trivial⟩
      ·simp only [hsu,Option.getD_some,← hpc,outM];exact less_
      ·exact ⟨hc2,fun b' c' e=>by cases e;exact ⟨fresh_more g46 (by assumption),hc46⟩,by simp [hsu]⟩
      ·omega
     ·rw [if_neg (fun h=>hkk h.2)] at hsu
      iterate 7 refine s1_ ?_
      refine rC (Calm.bin rfl rfl (bin_bool (bin_str_neq _ _) (bnot_dec_false hn))) ?_
      iterate 3 refine s1_ ?_
      refine rUn 36 ?_
      refine ARun.callV (first:=[]) (cap:=caps) (lit_lt rfl) hgo rfl rfl (hkeep k _ hc2 (hSi.trans (hML.trans less_))) ?_
      rintro _ S1 ⟨rfl,h1⟩
      rw [h1,Bool.eq_false_iff.2 hkk];clear h1 S1
      iterate 4 refine s1_ ?_
      refine su_ [(0,_),(1,_),(13,_),(14,_),(15,_),(4,_),(5,_),(6,_),(24,_),(25,_),(26,_),(27,_),(8,_),(7,_),(41,_)] ?_
      refine cT_ ?_
      iterate 9 refine s1_ ?_
      refine ⟨(k+1,none),?_,?_,?_,?_⟩
      all_goals (try dsimp only)
      ·exact ⟨rfl,rfl,rfl,rfl,rfl,rfl,rfl,rfl,rfl,rfl,some_int (by simp),trivial⟩
      ·(try simp only [hsu,outM,Option.getD_none,Option.getD_some]);exact less_
      ·exact ⟨hc2,hob,by simp [hsu]⟩
      ·omega
    ·rw [if_neg (fun h=>hn h.1)] at hsu
     iterate 7 refine s1_ ?_
     refine rC (Calm.bin rfl rfl (bin_bool (bin_str_neq _ _) (bnot_dec_true hn))) ?_
     iterate 8 refine s1_ ?_
     refine su_ [(0,_),(1,_),(13,_),(14,_),(15,_),(4,_),(5,_),(6,_),(24,_),(25,_),(26,_),(27,_),(8,_),(7,_),(41,_)] ?_
     refine cT_ ?_
     iterate 9 refine s1_ ?_
     refine ⟨(k+1,none),?_,?_,?_,?_⟩
     all_goals (try dsimp only)
     ·exact ⟨rfl,rfl,rfl,rfl,rfl,rfl,rfl,rfl,rfl,rfl,some_int (by simp),trivial⟩
     ·(try simp only [hsu,outM,Option.getD_none,Option.getD_some]);exact less_
     ·exact ⟨hc2,hob,by simp [hsu]⟩
     ·omega
   ·obtain ⟨hfb,hcb⟩:=hob bd cd rfl
    obtain ⟨hfb1,hbd5⟩:=fresh_set hfb
    have hbd5':=Ne.symm hbd5
    obtain ⟨cur,hacc⟩ : ∃ cur,accW kp x d.waits k=some cur:=by cases h:accW kp x d.waits k with | none=>exact absurd (hoa.2 h) (by simp) | some cur=>exact ⟨cur,rfl⟩
    rw [hacc] at hsu hsz ⊢
    simp only [Option.getD_some] at hsu hsz ⊢
    have hb5:((Mi.set b5 ⟨81,[.string x.1,.string x.2],2⟩).set bd ⟨u8T,cellsB cur.data.toList,cd⟩).own b5=some ⟨81,[.string x.1,.string x.2],2⟩:=(Mem.own_set_other _ _ hbd5').trans (Mem.own_set_same _ _ _)
    simp only [outM,outV]
    have hML:Mi.Less ((Mi.set b5 ⟨81,[.string x.1,.string x.2],2⟩).set bd ⟨u8T,cellsB cur.data.toList,cd⟩):=(Mem.less_set _ _ _ f5.1).trans (Mem.less_set _ _ _ hfb.1)
    have hkw':=hkw.less hML
    iterate 7 refine s1_ ?_
    refine rC (Calm.indexS Tryz.underlying23 ty_size_83 rfl rfl (by omega) (by omega)) ?_
    refine s1_ ?_
    refine ARun.alloc (lit_lt rfl) ty_zero_83 ?_
    intro b8 f8
    have g8:=f8
    repeat ((with_reducible replace g8:=fresh_set g8);obtain ⟨g8,_⟩:=g8)
    refine nl_ ?_
    iterate 4 refine s1_ ?_
    refine su_ [(0,_),(1,_),(13,_),(14,_),(15,_),(4,_),(5,_),(6,_),(24,_),(25,_),(26,_),(27,_),(8,_),(7,_)] ?_
    by_cases hn:w.1=x.1
    ·by_cases hkk:kp k=true
     ·rw [if_pos ⟨hn,hkk⟩] at hsu
      obtain ⟨hw0,hw1,hw2⟩:=hfw hn
      iterate 7 refine s1_ ?_
      refine rC (Calm.bin rfl rfl (bin_bool (bin_str_neq _ _) (bnot_dec_false hn))) ?_
      iterate 3 refine s1_ ?_
      refine rUn 36 ?_
      refine ARun.callV (first:=[]) (cap:=caps) (lit_lt rfl) hgo rfl rfl (hkeep k _ hc2 (hSi.trans (hML.trans less_))) ?_
      rintro _ S1 ⟨rfl,h1⟩
      rw [h1,hkk];clear h1 S1
      iterate 4 refine s1_ ?_
      refine su_ [(0,_),(1,_),(13,_),(14,_),(15,_),(4,_),(5,_),(6,_),(24,_),(25,_),(26,_),(27,_),(8,_),(7,_),(41,_)] ?_
      refine cF_ ?_
      iterate 9 refine s1_ ?_
      refine su_ [(0,_),(1,_),(13,_),(14,_),(15,_),(4,_),(5,_),(6,_),(24,_),(25,_),(26,_),(27,_),(8,_),(7,_),(41,_),(43,_)] ?_
      refine cF_ ?_
      iterate 2 refine s1_ ?_
      refine AWP.draw [(0,true),(1,true),(2,true),(3,true),(4,true),(5,true),(6,true),(7,false)] [7] mixed (by kernel_rfl) ?_
      iterate 4 refine s1_ ?_
      refine dP (hc:=fun _=>Calm.sliceLo (64*w.2.1.toNat) Tryz.underlying61 ty_size_5 rfl rfl (by omega) (by omega) (by omega)) (h:=?_)
      iterate 2 refine s1_ ?_
      refine draw_only rfl ?_
      refine ARun.copyStr (lit_lt rfl) ty_sl_61 rfl own_ rfl (by omega) (by simp only [cellsB_length,size_data];omega) ?_
      have hpc:=putS_cells (x:=cur) (w:=w) (by omega) hw2
      refine arun_nil ⟨fun h=>absurd h (by decide),?_⟩
      iterate 3 refine s1_ ?_
      refine su_ [(0,_),(1,_),(13,_),(14,_),(15,_),(4,_),(5,_),(6,_),(24,_),(25,_),(26,_),(27,_),(8,_),(7,_),(41,_),(43,_)] ?_
      iterate 5 refine s1_ ?_
      refine ⟨(k+1,some (bd,cd)),?_,?_,?_,?_⟩
      all_goals (try dsimp only)
      ·exact ⟨rfl,rfl,rfl,rfl,rfl,rfl,rfl,rfl,rfl,rfl,some_int (by simp),trivial⟩
      ·simp only [hsu,Option.getD_some,← hpc,outM];exact less_
      ·exact ⟨hc2,hob,by simp [hsu]⟩
      ·omega
     ·rw [if_neg (fun h=>hkk h.2)] at hsu
      iterate 7 refine s1_ ?_
      refine rC (Calm.bin rfl rfl (bin_bool (bin_str_neq _ _) (bnot_dec_false hn))) ?_
      iterate 3 refine s1_ ?_
      refine rUn 36 ?_
      refine ARun.callV (first:=[]) (cap:=caps) (lit_lt rfl) hgo rfl rfl (hkeep k _ hc2 (hSi.trans (hML.trans less_))) ?_
      rintro _ S1 ⟨rfl,h1⟩
      rw [h1,Bool.eq_false_iff.2 hkk];clear h1 S1
      iterate 4 refine s1_ ?_
      refine su_ [(0,_),(1,_),(13,_),(14,_),(15,_),(4,_),(5,_),(6,_),(24,_),(25,_),(26,_),(27,_),(8,_),(7,_),(41,_)] ?_
      refine cT_ ?_
      iterate 9 refine s1_ ?_
      refine ⟨(k+1,some (bd,cd)),?_,?_,?_,?_⟩
      all_goals (try dsimp only)
      ·exact ⟨rfl,rfl,rfl,rfl,rfl,rfl,rfl,rfl,rfl,rfl,some_int (by simp),trivial⟩
      ·(try simp only [hsu,outM,Option.getD_none,Option.getD_some]);exact less_
      ·exact ⟨hc2,hob,by simp [hsu]⟩
      ·omega
    ·rw [if_neg (fun h=>hn h.1)] at hsu
     iterate 7 refine s1_ ?_
     refine rC (Calm.bin rfl rfl (bin_bool (bin_str_neq _ _) (bnot_dec_true hn))) ?_
     iterate 8 refine s1_ ?_
     refine su_ [(0,_),(1,_),(13,_),(14,_),(15,_),(4,_),(5,_),(6,_),(24,_),(25,_),(26,_),(27,_),(8,_),(7,_),(41,_)] ?_
     refine cT_ ?_
     iterate 9 refine s1_ ?_
     refine ⟨(k+1,some (bd,cd)),?_,?_,?_,?_⟩
     all_goals (try dsimp only)
     ·exact ⟨rfl,rfl,rfl,rfl,rfl,rfl,rfl,rfl,rfl,rfl,some_int (by simp),trivial⟩
     ·(try simp only [hsu,outM,Option.getD_none,Option.getD_some]);exact less_
     ·exact ⟨hc2,hob,by simp [hsu]⟩
     ·omega
  ·have hc2:k=d.waits.length:=by have:=of_decide_eq_false hc2;omega
   rw [hc2] at hoa hsz ⊢
   rcases ob with _ | ⟨bd,cd⟩
   ·have hacc:accW kp x d.waits d.waits.length=none:=hoa.1 rfl
    rw [hacc,Option.getD_none,show ((x.1,x.2):Ext)=x from rfl,← hmg,List.set_getElem_self] at hmsu
    simp only [outM,outV]
    iterate 11 refine s1_ ?_
    refine su_ [(0,_),(1,_),(13,_),(14,_),(15,_),(4,_),(5,_),(6,_),(24,_),(25,_),(26,_),(27,_),(57,_)] ?_
    refine cF_ ?_
    iterate 8 refine s1_ ?_
    refine ⟨i+1,?_,?_,?_,?_⟩
    all_goals (try dsimp only)
    ·exact ⟨rfl,rfl,rfl,rfl,rfl,trivial⟩
    ·simp only [hmsu,hMi];exact less_
    ·exact ⟨hc,by simp only [hmsu];exact hoki⟩
    ·omega
   ·obtain ⟨hfb,hcb⟩:=hob bd cd rfl
    obtain ⟨hfb1,hbd5⟩:=fresh_set hfb
    have hbd5':=Ne.symm hbd5
    obtain ⟨cur,hacc⟩ : ∃ cur,accW kp x d.waits d.waits.length=some cur:=by cases h:accW kp x d.waits d.waits.length with | none=>exact absurd (hoa.2 h) (by simp) | some cur=>exact ⟨cur,rfl⟩
    rw [hacc] at hmsu hsz ⊢
    simp only [Option.getD_some] at hmsu hsz ⊢
    have n1:=hfb1.ne hpi
    have n2:=hfb1.ne hbE
    have n3:=f5.ne hbE
    have n2':=Ne.symm n2
    have n3':=Ne.symm n3
    have hfs:=flat_set ext_len (mixE kp d.waits d.ext i) i (x.1,cur) (by omega) 1 (.string cur) (by decide) (by rw [hmg];rfl)
    simp only [outM,outV]
    iterate 11 refine s1_ ?_
    refine su_ [(0,_),(1,_),(13,_),(14,_),(15,_),(4,_),(5,_),(6,_),(24,_),(25,_),(26,_),(27,_),(57,_)] ?_
    refine cT_ ?_
    refine AWP.draw [(0,true),(1,true),(2,true),(3,true),(4,true),(5,true),(6,true),(7,true),(8,true),(9,true),(10,false)] [10] mixed (by kernel_rfl) ?_
    iterate 7 refine s1_ ?_
    refine dC (hc:=Calm.toStr ty_bytes_61 ty_str_9 rfl (l:=cur.data.toList) (by rw [size_data];exact hsz) (rds_own (r:=⟨u8T,cellsB cur.data.toList,cd⟩) (b:=bd) own_)) (h:=?_)
    refine dP (hc:=fun _=>Calm.indexS Tryz.underlying22 ty_size_81 rfl rfl (by omega) (by omega)) (h:=?_)
    refine s1_ ?_
    refine draw_only rfl ?_
    refine ARun.store1 rfl rfl ty_size_9 rfl (r:=⟨extT,(mixE kp d.waits d.ext i).flatMap extF,c*2⟩) own_ hcl rfl ?_
    try simp only [k_ms,k_sz,k_ss,k_za,Nat.reduceAdd]
    refine arun_nil ⟨fun h=>absurd h (by decide),?_⟩
    iterate 3 refine s1_ ?_
    refine su_ [(0,_),(1,_),(13,_),(14,_),(15,_),(4,_),(5,_),(6,_),(24,_),(25,_),(26,_),(27,_),(57,_)] ?_
    iterate 5 refine s1_ ?_
    refine ⟨i+1,?_,?_,?_,?_⟩
    all_goals (try dsimp only)
    ·exact ⟨rfl,rfl,rfl,rfl,rfl,trivial⟩
    ·simp only [hmsu];rw [← (hse (x.1,cur)).1,← hfs];exact less_
    ·exact ⟨hc,by simp only [hmsu];exact (hse (x.1,cur)).2⟩
    ·omega
 ·have hc:i=d.ext.length:=by have:=of_decide_eq_false hc;omega
  subst hc
  rw [mixE_all] at hoki hpi
  simp only [mixE_all]
  iterate 10 refine s1_ ?_
  refine ARun.store1 rfl rfl ty_size_23 rfl hpi (show 2<5 from by decide) rfl ?_
  try simp only [k_ms,k_sz,k_ss,k_za,Nat.reduceAdd]
  refine s1_ ?_
  have hfin:(devM S p (settleD d kp) oE none).Less ((devM S p { d with ext:=d.ext.map (doneX kp d.waits) } oE oW).set p ⟨102,[.int .i64 d.size,outV oE (d.ext.map (doneX kp d.waits)).length,.slice none 0 0,.int .i64 d.fuse,.bool d.down],5⟩):=by unfold devM;rw [Mem.set_set];show ((outN 2 S oE extT ((d.ext.map (doneX kp d.waits)).flatMap extF)).set p ⟨102,[.int .i64 d.size,outV oE (d.ext.map (doneX kp d.waits)).length,.slice none 0 0,.int .i64 d.fuse,.bool d.down],5⟩).Less _;exact Less.set (outN_over hoki.dk.w) _ _
  have hap:=hoki.apart
  have hft:=hoki.fits
  refine ⟨_,devM S p (settleD d kp) oE none,rfl,hfin,?_⟩
  exact ⟨rfl,okV_mk ⟨hap.e,(fun b c e=>by cases e),(fun b c b' c' e e'=>by cases e'),hap.p⟩ ⟨hft.e0,fun _=>rfl,hft.e,(fun b c e=>by cases e)⟩,rfl⟩
end Go.Proofs.YtceikpipmcadmaaGreatDoor
namespace Go.Proofs.YtceikpipmcadmaaGreatDoor
open Go.RowKit
open Mv Disk
set_option maxRecDepth 4000
def bools (b : Bool) : List Value := [.bool b]
theorem dev_Sync1 (k : Int) (S : Mem) : ACall Tryz.prog 111 #[.int .i64 k] S fun r S' => r = .bool true ∧ S' = S := by
 refine ACall.enter (rs:=[.tmp 2]) 3 [(0,.int .i64 k)] Tryz.func111 rfl rfl (Nat.le_of_ble_eq_true rfl) rfl ⟨rfl,trivial⟩ ?_
 iterate 5 refine s1_ ?_
 refine su_ [(2,_)] ?_
 iterate 6 refine s1_ ?_
 refine ⟨_,S,⟨_,_,rfl,rfl,rfl⟩,less_,?_⟩
 exact ⟨rfl,rfl⟩
theorem dev_Sync (p : Nat) (d : D) (S : Mem) (oE oW : Option (Nat × Nat)) (hok : OkV S p d oE oW) (hR : Right d) :
  ACall Tryz.prog 61 #[.pointer (some ⟨p,0,none⟩)] (devM S p d oE oW) fun r S'=>∃ oE' oW',OkV S p (settleD d fun _=>true) oE' oW'∧r = .tuple #[]∧S'=devM S p (settleD d fun _=>true) oE' oW':=by
 have h:=dev_settle p d S oE oW hok hR 111 [] go_111 (fun _=>true) (fun k M _ _=>dev_Sync1 k M)
 generalize devM S p d oE oW=M at *
 refine ACall.enter (rs:=[]) 4 [(0,.pointer (some ⟨p,0,none⟩))] Tryz.func61 rfl rfl (Nat.le_of_ble_eq_true rfl) rfl ⟨rfl,trivial⟩ ?_
 iterate 2 refine s1_ ?_
 refine ca_ rfl (h) ?_
 rintro _ S1 ⟨rfl,hok',h1⟩
 rw [h1];clear h1 S1
 refine s1_ ?_
 refine ⟨_,_,rfl,Mem.Less.refl _,?_⟩
 exact ⟨oE,none,hok',rfl,rfl⟩
theorem settle_lens {d : D} (hR : Right d) (kp : Nat → Bool) : (settleD d kp).ext.length ≤ 9223372036854775807 ∧ (settleD d kp).waits.length ≤ 9223372036854775807 := by
 have h:=right_lens hR
 exact ⟨by show (List.map _ _).length≤_;rw [List.length_map];exact h.1,by show (0:Nat)≤_;exact Nat.zero_le _⟩
def syncD (d : D) : D × Int := (settleD d fun _ => true, 0)
set_option maxHeartbeats 1000000 in
theorem disk_Sync (v : Value) (d : D) (S : Mem) (hd : DkR S v d) (hz : Dz d) :
  ACall Tryz.prog 27 #[v] S (DkRes (opened d (syncD d)) S):=by
 have hopen:=disk_Open v d S hd hz
 obtain ⟨pe,ce,pw,cw,rfl,hE,hW⟩:=id hd
 unfold opened
 rcases openD_or d with ⟨ho,hR⟩ | ⟨ho,hR,hdn⟩ | ⟨ho,hR,hdn⟩ <;> rw [ho] at hopen ⊢
 ·rw [if_neg (show ¬ (2:Int)=0 from by decide)]
  refine ACall.enter (rs:=[.cell 2 25,.tmp 3]) 20 [(0,.agg #[.int .i64 d.size,.slice pe d.ext.length ce,.slice pw d.waits.length cw,.int .i64 d.fuse,.bool d.down])] Tryz.func27 rfl rfl (Nat.le_of_ble_eq_true rfl) rfl ⟨rfl,trivial⟩ ?_
  iterate 2 refine s1_ ?_
  refine k_b5 rfl ?_
  intro b1 f1
  have g1:=f1
  repeat ((with_reducible replace g1:=fresh_set g1);obtain ⟨g1,_⟩:=g1)
  refine nl_ ?_
  refine ARun.alloc (lit_lt rfl) ty_zero_25 ?_
  intro b2 f2
  have g2:=f2
  repeat ((with_reducible replace g2:=fresh_set g2);obtain ⟨g2,_⟩:=g2)
  refine nl_ ?_
  iterate 6 refine s1_ ?_
  refine ca_ rfl ((hopen.frame f1).frame f2) ?_
  rintro _ S1 ⟨Sa,⟨M,⟨p,oE,oW,hok,rfl,hM⟩,fa,hSa⟩,fb,h1⟩
  rw [h1,hSa];rw [hSa] at fb;clear h1 S1 hSa Sa
  iterate 7 refine s1_ ?_
  refine su_ [(0,_),(1,_),(2,_),(3,_),(4,_),(5,_)] ?_
  iterate 7 refine s1_ ?_
  refine su_ [(0,_),(1,_),(2,_),(3,_),(4,_),(5,_),(12,_)] ?_
  refine cF_ ?_
  rw [hM] at fa fb ⊢
  iterate 6 refine s1_ ?_
  refine ca_ rfl (((disk_done p D0 2 S oE oW hok (by decide) (by decide)).frame fa).frame fb) ?_
  rintro _ S1 ⟨Sa,⟨M2,⟨v,rfl,hl2,hdk⟩,fc,hSa⟩,fd,h1⟩
  rw [h1,hSa];rw [hSa] at fd;clear h1 S1 hSa Sa
  obtain ⟨qe,de,qw,dw,rfl,_⟩:=id hdk
  obtain ⟨ge,_⟩:=fresh_set fd
  iterate 6 refine s1_ ?_
  refine su_ [(0,_),(1,_),(2,_),(3,_),(4,_),(5,_),(12,_)] ?_
  refine s1_ ?_
  refine ⟨_,M2,⟨_,_,_,rfl,.inr ⟨ty_agg_25,[_,_,_,_,_],ty_size_25,rds_,rfl⟩,⟨_,_,rfl,rfl,rfl⟩,rfl⟩,less_,?_⟩
  exact ⟨_,rfl,hl2,hdk⟩
 ·rw [if_neg (show ¬ (10:Int)=0 from by decide)]
  refine ACall.enter (rs:=[.cell 2 25,.tmp 3]) 20 [(0,.agg #[.int .i64 d.size,.slice pe d.ext.length ce,.slice pw d.waits.length cw,.int .i64 d.fuse,.bool d.down])] Tryz.func27 rfl rfl (Nat.le_of_ble_eq_true rfl) rfl ⟨rfl,trivial⟩ ?_
  iterate 2 refine s1_ ?_
  refine k_b5 rfl ?_
  intro b1 f1
  have g1:=f1
  repeat ((with_reducible replace g1:=fresh_set g1);obtain ⟨g1,_⟩:=g1)
  refine nl_ ?_
  refine ARun.alloc (lit_lt rfl) ty_zero_25 ?_
  intro b2 f2
  have g2:=f2
  repeat ((with_reducible replace g2:=fresh_set g2);obtain ⟨g2,_⟩:=g2)
  refine nl_ ?_
  iterate 6 refine s1_ ?_
  refine ca_ rfl ((hopen.frame f1).frame f2) ?_
  rintro _ S1 ⟨Sa,⟨M,⟨p,oE,oW,hok,rfl,hM⟩,fa,hSa⟩,fb,h1⟩
  rw [h1,hSa];rw [hSa] at fb;clear h1 S1 hSa Sa
  iterate 7 refine s1_ ?_
  refine su_ [(0,_),(1,_),(2,_),(3,_),(4,_),(5,_)] ?_
  iterate 7 refine s1_ ?_
  refine su_ [(0,_),(1,_),(2,_),(3,_),(4,_),(5,_),(12,_)] ?_
  refine cF_ ?_
  rw [hM] at fa fb ⊢
  iterate 6 refine s1_ ?_
  refine ca_ rfl (((disk_done p d 10 S oE oW hok (Nat.le_trans (right_len hR).1 (by decide)) (Nat.le_trans hR.wl (by decide))).frame fa).frame fb) ?_
  rintro _ S1 ⟨Sa,⟨M2,⟨v,rfl,hl2,hdk⟩,fc,hSa⟩,fd,h1⟩
  rw [h1,hSa];rw [hSa] at fd;clear h1 S1 hSa Sa
  obtain ⟨qe,de,qw,dw,rfl,_⟩:=id hdk
  obtain ⟨ge,_⟩:=fresh_set fd
  iterate 6 refine s1_ ?_
  refine su_ [(0,_),(1,_),(2,_),(3,_),(4,_),(5,_),(12,_)] ?_
  refine s1_ ?_
  refine ⟨_,M2,⟨_,_,_,rfl,.inr ⟨ty_agg_25,[_,_,_,_,_],ty_size_25,rds_,rfl⟩,⟨_,_,rfl,rfl,rfl⟩,rfl⟩,less_,?_⟩
  exact ⟨_,rfl,hl2,hdk⟩
 ·rw [if_pos rfl]
  refine ACall.enter (rs:=[.cell 2 25,.tmp 3]) 20 [(0,.agg #[.int .i64 d.size,.slice pe d.ext.length ce,.slice pw d.waits.length cw,.int .i64 d.fuse,.bool d.down])] Tryz.func27 rfl rfl (Nat.le_of_ble_eq_true rfl) rfl ⟨rfl,trivial⟩ ?_
  iterate 2 refine s1_ ?_
  refine k_b5 rfl ?_
  intro b1 f1
  have g1:=f1
  repeat ((with_reducible replace g1:=fresh_set g1);obtain ⟨g1,_⟩:=g1)
  refine nl_ ?_
  refine ARun.alloc (lit_lt rfl) ty_zero_25 ?_
  intro b2 f2
  have g2:=f2
  repeat ((with_reducible replace g2:=fresh_set g2);obtain ⟨g2,_⟩:=g2)
  refine nl_ ?_
  iterate 6 refine s1_ ?_
  refine ca_ rfl ((hopen.frame f1).frame f2) ?_
  rintro _ S1 ⟨Sa,⟨M,⟨p,oE,oW,hok,rfl,hM⟩,fa,hSa⟩,fb,h1⟩
  rw [h1,hSa];rw [hSa] at fb;clear h1 S1 hSa Sa
  iterate 7 refine s1_ ?_
  refine su_ [(0,_),(1,_),(2,_),(3,_),(4,_),(5,_)] ?_
  iterate 7 refine s1_ ?_
  refine su_ [(0,_),(1,_),(2,_),(3,_),(4,_),(5,_),(12,_)] ?_
  refine cT_ ?_
  rw [hM] at fa fb ⊢
  iterate 2 refine s1_ ?_
  refine ca_ rfl (((dev_Sync p d S oE oW hok hR).frame fa).frame fb) ?_
  rintro _ S1 ⟨Sa,⟨M3,⟨oE3,oW3,hok3,rfl,hM3⟩,fa3,hSa⟩,fb3,h1⟩
  rw [h1,hSa];rw [hSa] at fb3;clear h1 S1 hSa Sa;rw [hM3] at fa3 fb3 ⊢
  iterate 2 refine s1_ ?_
  refine su_ [(0,_),(1,_),(2,_),(3,_),(4,_),(5,_),(12,_)] ?_
  iterate 4 refine s1_ ?_
  refine ca_ rfl (((disk_done p _ _ S oE3 oW3 hok3 (settle_lens hR _).1 (settle_lens hR _).2).frame fa3).frame fb3) ?_
  rintro _ S1 ⟨Sa,⟨M2,⟨v,rfl,hl2,hdk⟩,fc,hSa⟩,fd,h1⟩
  rw [h1,hSa];rw [hSa] at fd;clear h1 S1 hSa Sa
  obtain ⟨qe,de,qw,dw,rfl,_⟩:=id hdk
  obtain ⟨ge,_⟩:=fresh_set fd
  iterate 6 refine s1_ ?_
  refine su_ [(0,_),(1,_),(2,_),(3,_),(4,_),(5,_),(12,_)] ?_
  refine s1_ ?_
  refine ⟨_,M2,⟨_,_,_,rfl,.inr ⟨ty_agg_25,[_,_,_,_,_],ty_size_25,rds_,rfl⟩,⟨_,_,rfl,rfl,rfl⟩,rfl⟩,less_,?_⟩
  exact ⟨_,rfl,hl2,hdk⟩
def keepK (l : List Bool) (k : Nat) : Bool := l.getD k false
theorem disk_Crash1 (v : Value) (l : List Bool) (k kb : Nat) (S : Mem) (hl : Sl 1 bools S v l) (hk : S.Knows ⟨kb, 0, none⟩ [v]) (hkl : k ≤ 16384) :
  ACall Tryz.prog 66 #[.int .i64 (k:Int),.pointer (some ⟨kb,0,none⟩)] S fun r S'=>r = .bool (keepK l k)∧S'=S:=by
 obtain ⟨a,cap,rfl,h1,h2,h3⟩:=id hl
 unfold keepK
 by_cases hc:k<l.length
 ·obtain ⟨b,off,rfl,hkk⟩:=h3.resolve_left (fun e=>by subst e;simp at hc)
  have hki:=hkk k hc
  unfold bools at hki
  have e:l.getD k false=l[k]:=by simp [List.getD,List.getElem?_eq_getElem hc]
  rw [e]
  refine ACall.enter (rs:=[.tmp 3]) 14 [(0,.int .i64 (k:Int)),(1,.pointer (some ⟨kb,0,none⟩))] Tryz.func66 rfl rfl (Nat.le_of_ble_eq_true rfl) rfl ⟨rfl,rfl,trivial⟩ ?_
  iterate 20 refine s1_ ?_
  refine su_ [(0,_),(1,_),(3,_)] ?_
  refine s1_ ?_
  refine ⟨_,S,⟨_,_,rfl,rfl,rfl⟩,less_,?_⟩
  exact ⟨rfl,rfl⟩
 ·have e:l.getD k false=false:=by simp [List.getD,List.getElem?_eq_none (Nat.le_of_not_lt hc)]
  rw [e]
  refine ACall.enter (rs:=[.tmp 3]) 14 [(0,.int .i64 (k:Int)),(1,.pointer (some ⟨kb,0,none⟩))] Tryz.func66 rfl rfl (Nat.le_of_ble_eq_true rfl) rfl ⟨rfl,rfl,trivial⟩ ?_
  iterate 20 refine s1_ ?_
  refine su_ [(0,_),(1,_),(3,_)] ?_
  refine s1_ ?_
  refine ⟨_,S,⟨_,_,rfl,rfl,rfl⟩,less_,?_⟩
  exact ⟨rfl,rfl⟩
def upD (d : D) : D := { d with down := false, fuse := -1 }
noncomputable def crashD (d : D) (l : List Bool) : D × Int := if chkD d = 0 then (upD (settleD d (keepK l)), 0) else (D0, 2)
set_option maxHeartbeats 2000000 in
theorem disk_Crash (v vk : Value) (d : D) (l : List Bool) (S : Mem) (hd : DkR S v d) (hz : Dz d) (hl : Sl 1 bools S vk l) :
  ACall Tryz.prog 28 #[v,vk] S (DkRes (crashD d l) S):=by
 have hcheck:=fun M h=>disk_Check v d M h hz
 have hown:=fun M h=>disk_Own v d M h hz.el hz.wl
 obtain ⟨pe,ce,pw,cw,rfl,hE,hW⟩:=id hd
 obtain ⟨pk,ck,rfl,hl1,hl2,hl3⟩:=id hl
 unfold crashD
 rcases chkD_or d with ⟨hk,hR⟩ | ⟨hk,hR⟩
 ·rw [if_pos hk]
  refine ACall.enter (rs:=[.cell 4 25,.tmp 5]) 33 [(0,.agg #[.int .i64 d.size,.slice pe d.ext.length ce,.slice pw d.waits.length cw,.int .i64 d.fuse,.bool d.down]),(1,.slice pk l.length ck)] Tryz.func28 rfl rfl (Nat.le_of_ble_eq_true rfl) rfl ⟨rfl,rfl,trivial⟩ ?_
  iterate 2 refine s1_ ?_
  refine k_b5 rfl ?_
  intro b2 f2
  have g2:=f2
  repeat ((with_reducible replace g2:=fresh_set g2);obtain ⟨g2,_⟩:=g2)
  refine nl_ ?_
  refine ARun.box1 (lit_lt rfl) rfl rfl ?_
  intro b3 f3
  have g3:=f3
  repeat ((with_reducible replace g3:=fresh_set g3);obtain ⟨g3,_⟩:=g3)
  refine nl_ ?_
  refine ARun.alloc (lit_lt rfl) ty_zero_25 ?_
  intro b4 f4
  have g4:=f4
  repeat ((with_reducible replace g4:=fresh_set g4);obtain ⟨g4,_⟩:=g4)
  refine nl_ ?_
  iterate 3 refine s1_ ?_
  obtain ⟨S0,hS0⟩ : ∃ S0,(S.set b2 ⟨25,[.int .i64 d.size,.slice pe d.ext.length ce,.slice pw d.waits.length cw,.int .i64 d.fuse,.bool d.down],5⟩).set b3 ⟨48,[.slice pk l.length ck],1⟩=S0:=⟨_,rfl⟩
  have hSS0:S.Less S0:=by rw [← hS0];exact (Mem.less_set _ _ _ f2.1).trans (Mem.less_set _ _ _ f3.1)
  have kb3:S0.own b3=some ⟨48,[.slice pk l.length ck],1⟩:=by rw [← hS0];exact Mem.own_set_same _ _ _
  have kb2:S0.own b2=some ⟨25,[.int .i64 d.size,.slice pe d.ext.length ce,.slice pw d.waits.length cw,.int .i64 d.fuse,.bool d.down],5⟩:=by rw [← hS0];exact (Mem.own_set_other _ _ (Ne.symm (fresh_set f3).2)).trans (Mem.own_set_same _ _ _)
  rw [hS0] at f4 ⊢
  have hdS:=hd.less hSS0
  have hlS:=hl.less hSS0
  have n2:=f4.ne kb2
  have n3:=f4.ne kb3
  iterate 4 refine s1_ ?_
  refine ca_ rfl (hcheck _ (hdS.less (Mem.less_set _ _ _ f4.1))) ?_
  rintro _ S1 ⟨rfl,h1⟩
  rw [h1,hk];clear h1 S1
  iterate 3 refine s1_ ?_
  refine su_ [(0,_),(1,_),(2,_),(3,_),(4,_),(5,_),(6,_)] ?_
  iterate 6 refine s1_ ?_
  refine su_ [(0,_),(1,_),(2,_),(3,_),(4,_),(5,_),(6,_),(11,_)] ?_
  refine cF_ ?_
  iterate 5 refine s1_ ?_
  refine ca_ rfl ((hown S0 hdS).frame f4) ?_
  rintro _ S1 ⟨M,⟨oE,oW,hok,rfl,hM⟩,f4',h1⟩
  rw [h1];clear h1 S1
  unfold dkV
  obtain ⟨qe,de,hqe⟩:=outV_eq hok.e
  obtain ⟨qw,dw,hqw⟩:=outV_eq hok.w
  rw [hqe,hqw]
  refine s1_ ?_
  refine k_b5 rfl ?_
  intro b17 f17
  have g17:=f17
  repeat ((with_reducible replace g17:=fresh_set g17);obtain ⟨g17,_⟩:=g17)
  refine nl_ ?_
  iterate 3 refine s1_ ?_
  refine su_ [(0,_),(1,_),(2,_),(3,_),(4,_),(5,_),(6,_),(11,_),(7,_)] ?_
  obtain ⟨f17',n17⟩:=fresh_set f17
  have hokV:OkV S0 b17 d oE oW:=⟨hok,by rw [← hM];exact f17'⟩
  have hmm:(M.set b4 ⟨25,[.int .i64 0,.slice none 0 0,.slice none 0 0,.int .i64 0,.bool false],5⟩).set b17 ⟨102,[.int .i64 d.size,.slice qe d.ext.length de,.slice qw d.waits.length dw,.int .i64 d.fuse,.bool d.down],5⟩=(devM S0 b17 d oE oW).set b4 ⟨25,[.int .i64 0,.slice none 0 0,.slice none 0 0,.int .i64 0,.bool false],5⟩:=by rw [Mem.set_comm _ _ _ (Ne.symm n17)];unfold devM;rw [hqe,hqw,← hM]
  rw [hmm]
  have fb4:Fresh (devM S0 b17 d oE oW) b4:=by unfold devM;rw [← hM];exact fresh_more f4' (Ne.symm n17)
  have hset:=dev_settle b17 d S0 oE oW hokV hR 66 [.pointer (some ⟨b3,0,none⟩)] go_66 (keepK l) (fun k M hk hM=>disk_Crash1 _ l k b3 M (hlS.less hM) ((rds_cons (rd_own' (hM.own kb3) rfl) (rds_nil _ _)).knows) (by have:=hR.wl;omega))
  iterate 4 refine s1_ ?_
  refine ca_ rfl (hset.frame fb4) ?_
  rintro _ S1 ⟨M2,⟨rfl,hok2,hM2⟩,fb4',h1⟩
  rw [h1,hM2];rw [hM2] at fb4';clear h1 S1
  have hp6:((devM S0 b17 (settleD d (keepK l)) oE none).set b4 ⟨25,[.int .i64 0,.slice none 0 0,.slice none 0 0,.int .i64 0,.bool false],5⟩).own b17=some ⟨102,[.int .i64 d.size,outV oE (settleD d (keepK l)).ext.length,.slice none 0 0,.int .i64 d.fuse,.bool d.down],5⟩:=(Mem.own_set_other _ _ n17).trans (Mem.own_set_same _ _ _)
  iterate 2 refine s1_ ?_
  refine su_ [(0,_),(1,_),(2,_),(3,_),(4,_),(5,_),(6,_),(11,_),(7,_)] ?_
  iterate 7 refine s1_ ?_
  refine ARun.store1 rfl rfl ty_size_4 rfl hp6 (show 4<5 from by decide) rfl ?_
  try simp only [k_ms,k_sz,k_ss,k_za,Nat.reduceAdd]
  iterate 3 refine s1_ ?_
  refine ARun.store1 rfl rfl ty_size_3 rfl (Mem.own_set_same _ _ _) (show 3<5 from by decide) rfl ?_
  try simp only [k_ms,k_sz,k_ss,k_za,Nat.reduceAdd]
  iterate 2 refine s1_ ?_
  refine su_ [(0,_),(1,_),(2,_),(3,_),(4,_),(5,_),(6,_),(11,_),(7,_)] ?_
  have hok4:OkV S0 b17 (upD (settleD d (keepK l))) oE none:=okV_mk hok2.apart ⟨hok2.fits.e0,fun _=>rfl,hok2.fits.e,(fun b c e=>by cases e)⟩
  refine AWP.less ((devM S0 b17 (upD (settleD d (keepK l))) oE none).set b4 ⟨25,[.int .i64 0,.slice none 0 0,.slice none 0 0,.int .i64 0,.bool false],5⟩) (by unfold devM;rw [Mem.set_comm _ _ _ (Ne.symm n17),Mem.set_set];exact Mem.Less.refl _) ?_
  have fb5:Fresh (devM S0 b17 (upD (settleD d (keepK l))) oE none) b4:=by obtain ⟨q1,q2⟩:=fresh_set fb4';exact fresh_more q1 q2
  iterate 3 refine s1_ ?_
  refine ca_ rfl ((disk_done b17 (upD (settleD d (keepK l))) 0 S0 oE none hok4 (settle_lens hR (keepK l)).1 (settle_lens hR (keepK l)).2).frame fb5) ?_
  rintro _ S1 ⟨M3,⟨v,rfl,hl3',hdk⟩,fc,h1⟩
  rw [h1];clear h1 S1
  obtain ⟨qe2,de2,qw2,dw2,rfl,_⟩:=id hdk
  iterate 6 refine s1_ ?_
  refine su_ [(0,_),(1,_),(2,_),(3,_),(4,_),(5,_),(6,_),(11,_),(7,_)] ?_
  refine s1_ ?_
  refine ⟨_,M3,⟨_,_,_,rfl,.inr ⟨ty_agg_25,[_,_,_,_,_],ty_size_25,rds_,rfl⟩,⟨_,_,rfl,rfl,rfl⟩,rfl⟩,less_,?_⟩
  exact ⟨_,rfl,hSS0.trans hl3',hdk⟩
 ·rw [if_neg (by rw [hk];decide)]
  refine ACall.enter (rs:=[.cell 4 25,.tmp 5]) 33 [(0,.agg #[.int .i64 d.size,.slice pe d.ext.length ce,.slice pw d.waits.length cw,.int .i64 d.fuse,.bool d.down]),(1,.slice pk l.length ck)] Tryz.func28 rfl rfl (Nat.le_of_ble_eq_true rfl) rfl ⟨rfl,rfl,trivial⟩ ?_
  iterate 2 refine s1_ ?_
  refine k_b5 rfl ?_
  intro b2 f2
  have g2:=f2
  repeat ((with_reducible replace g2:=fresh_set g2);obtain ⟨g2,_⟩:=g2)
  refine nl_ ?_
  refine ARun.box1 (lit_lt rfl) rfl rfl ?_
  intro b3 f3
  have g3:=f3
  repeat ((with_reducible replace g3:=fresh_set g3);obtain ⟨g3,_⟩:=g3)
  refine nl_ ?_
  refine ARun.alloc (lit_lt rfl) ty_zero_25 ?_
  intro b4 f4
  have g4:=f4
  repeat ((with_reducible replace g4:=fresh_set g4);obtain ⟨g4,_⟩:=g4)
  refine nl_ ?_
  iterate 7 refine s1_ ?_
  refine ca_ rfl (hcheck _ (hd.less less_)) ?_
  rintro _ S1 ⟨rfl,h1⟩
  rw [h1,hk];clear h1 S1
  iterate 3 refine s1_ ?_
  refine su_ [(0,_),(1,_),(2,_),(3,_),(4,_),(5,_),(6,_)] ?_
  iterate 6 refine s1_ ?_
  refine su_ [(0,_),(1,_),(2,_),(3,_),(4,_),(5,_),(6,_),(11,_)] ?_
  refine cT_ ?_
  iterate 8 refine s1_ ?_
  refine su_ [(0,_),(1,_),(2,_),(3,_),(4,_),(5,_),(6,_),(11,_)] ?_
  iterate 2 refine s1_ ?_
  refine ⟨_,S,⟨_,_,_,rfl,.inr ⟨ty_agg_25,[_,_,_,_,_],ty_size_25,rds_,rfl⟩,⟨_,_,rfl,rfl,rfl⟩,rfl⟩,less_,?_⟩
  exact ⟨_,rfl,Mem.Less.refl _,dkR_zero S⟩
end Go.Proofs.YtceikpipmcadmaaGreatDoor
namespace Go.Proofs.YtceikpipmcadmaaGreatDoor
open Go.RowKit
open Mv Disk
/-- Where an extent is; -1: nowhere. -/
def fnd (l : List Ext) (s : ByteArray) : Int := if has l s = true then (pos l s : Nat) else -1
theorem fnd_at {l : List Ext} {s : ByteArray} (ha : Asc l) {i : Nat} (hi : i < l.length) (e : l[i].1 = s) : fnd l s = i := by
 subst e
 unfold fnd
 rw [if_pos (has_iff.2 ⟨_,List.getElem_mem hi,rfl⟩),pos_mem ha hi]
theorem has_no {l : List Ext} {s : ByteArray} : has l s = false ↔ ∀ x ∈ l, x.1 ≠ s := by
 rw [← Bool.not_eq_true,has_iff]
 exact ⟨fun h x hx e=>h ⟨x,hx,e⟩,fun h ⟨x,hx,e⟩=>h x hx e⟩
theorem fnd_none {l : List Ext} {s : ByteArray} (h : ∀ j (h : j < l.length), l[j].1 ≠ s) : fnd l s = -1 := by
 unfold fnd
 rw [if_neg]
 intro hh
 obtain ⟨x,hx,e⟩:=has_iff.1 hh
 obtain ⟨j,hj,rfl⟩:=List.getElem_of_mem hx
 exact h j hj e
def dropE (l : List Ext) (s : ByteArray) : List Ext := l.filter fun x => decide (x.1 ≠ s)
/-- A disk without an extent. -/
def lessD (d : D) (s : ByteArray) : D := { d with ext := dropE d.ext s, waits := filt s d.waits }
theorem dropE_none {l : List Ext} {s : ByteArray} (h : has l s = false) : dropE l s = l :=
 List.filter_eq_self.2 fun x hx=>by simpa using has_no.1 h x hx
theorem pos_yes {x : Ext} {l : List Ext} {s : ByteArray} (h : lt x.1 s = true) : pos (x :: l) s = pos l s + 1 := by unfold pos; rw [List.takeWhile_cons, h]; rfl
theorem pos_no {x : Ext} {l : List Ext} {s : ByteArray} (h : lt x.1 s = false) : pos (x :: l) s = 0 := by unfold pos; rw [List.takeWhile_cons, h]; rfl
theorem has_cons (x : Ext) (l : List Ext) (s : ByteArray) : has (x :: l) s = (decide (x.1 = s) || has l s) := rfl
theorem dropE_cons_eq {x : Ext} {l : List Ext} {s : ByteArray} (h : x.1 = s) : dropE (x :: l) s = dropE l s := by
 unfold dropE;rw [List.filter_cons,if_neg (by simpa using h)]
theorem dropE_cons_ne {x : Ext} {l : List Ext} {s : ByteArray} (h : x.1 ≠ s) : dropE (x :: l) s = x :: dropE l s := by
 unfold dropE;rw [List.filter_cons,if_pos (by simpa using h)]
theorem asc_behind {x : Ext} {l : List Ext} (ha : Asc (x :: l)) : ∀ y ∈ l, lt x.1 y.1 = true := (List.pairwise_cons.1 ha).1
theorem asc_has_no {x : Ext} {l : List Ext} (ha : Asc (x :: l)) : has l x.1 = false := has_no.2 fun y hy e => by
 have:=asc_behind ha y hy;rw [e,lt_irrefl] at this;cases this
theorem asc_lt_has {x : Ext} {l : List Ext} {s : ByteArray} (ha : Asc (x :: l)) (h : has l s = true) : lt x.1 s = true := by
 obtain ⟨y,hy,rfl⟩:=has_iff.1 h
 exact asc_behind ha y hy
theorem dropE_erase {l : List Ext} {s : ByteArray} (ha : Asc l) (h : has l s = true) : dropE l s = l.eraseIdx (pos l s) := by
 induction l with
 | nil=>cases h
 | cons x l ih =>
  by_cases e:x.1=s
  ·subst e
   rw [pos_no (lt_irrefl _),dropE_cons_eq rfl,dropE_none (asc_has_no ha)];rfl
  ·rw [has_cons,decide_eq_false e,Bool.false_or] at h
   rw [dropE_cons_ne e,pos_yes (asc_lt_has ha h),ih (asc_tail ha) h];rfl
theorem free_less {d : D} {s : ByteArray} (hR : Right d) (h : has d.ext s = true) : forgetD (eraseD d s) s = lessD d s := by
 unfold forgetD eraseD lessD
 rw [dropE_erase hR.ex.asc h]
theorem filt_wait {d : D} {s : ByteArray} (hR : Right d) (h : has d.ext s = false) : filt s d.waits = d.waits := filt_all fun w hw => isN_no.2 fun e => by
 obtain ⟨x,hx,e1,_⟩:=hR.wr w hw
 exact has_no.1 h x hx (e1.trans e)
/-! ### Writes that are done -/
def doneN (kp : Nat → Bool) (l : List Wr) (n : Nat) (x : Ext) : Ext := (x.1, (accW kp x l n).getD x.2)
theorem has_map {f : Ext → Ext} (hf : ∀ x, (f x).1 = x.1) (l : List Ext) (s : ByteArray) : has (l.map f) s = has l s := by
 induction l with
 | nil=>rfl
 | cons x l ih=>rw [List.map_cons,has_cons,has_cons,ih,hf]
theorem asc_map {f : Ext → Ext} (hf : ∀ x, (f x).1 = x.1) {l : List Ext} (h : Asc l) : Asc (l.map f) := by
 unfold Asc at *
 rw [List.pairwise_map]
 exact h.imp fun {a b} q=>by rw [hf,hf];exact q
theorem doneN_zero (kp : Nat → Bool) (w : List Wr) (l : List Ext) : l.map (doneN kp w 0) = l := List.map_id'' (fun x => rfl) l
theorem doneN_skip {kp : Nat → Bool} {w : List Wr} {n : Nat} (hn : n < w.length) (hk : kp n = false) (l : List Ext) : l.map (doneN kp w (n + 1)) = l.map (doneN kp w n) :=
 List.map_congr_left fun x _=>by
  unfold doneN
  rw [accW_succ kp x w n hn,if_neg (by rw [hk];simp)]
theorem doneN_step {kp : Nat → Bool} {w : List Wr} {n : Nat} {l : List Ext} (hn : n < w.length) (hk : kp n = true) (ha : Asc l) (hp : pos l w[n].1 < l.length) (he : l[pos l w[n].1].1 = w[n].1) :
  l.map (doneN kp w (n+1))=(l.map (doneN kp w n)).set (pos l w[n].1) (w[n].1,putS (doneN kp w n l[pos l w[n].1]).2 w[n]):=by
 refine List.ext_getElem (by simp) fun i h1 h2=>?_
 rw [List.length_map] at h1
 rw [List.getElem_map,List.getElem_set]
 by_cases e:pos l w[n].1=i
 ·subst e
  rw [if_pos rfl]
  unfold doneN
  rw [accW_succ kp _ w n hn,if_pos ⟨he.symm,hk⟩,he]
  rfl
 ·rw [if_neg e,List.getElem_map]
  unfold doneN
  rw [accW_succ kp _ w n hn,if_neg]
  rintro ⟨e1,_⟩
  exact e (by rw [e1];exact pos_mem ha h1)
end Go.Proofs.YtceikpipmcadmaaGreatDoor
namespace Go.Proofs.YtceikpipmcadmaaGreatDoor
open Go.RowKit
open Mv Disk
set_option maxRecDepth 4000
theorem rd_Named (s : ByteArray) (S : Mem) : ACall Tryz.prog 133 #[.string s] S fun r S' => r = .bool (decide (nm s)) ∧ S' = S := by
 by_cases h0:s.size=0
 ·have e:s=ByteArray.empty:=(size0 s).2 h0
  refine ACall.enter (rs:=[.tmp 2]) 10 [(0,.string s)] Tryz.func133 rfl rfl (Nat.le_of_ble_eq_true rfl) rfl ⟨rfl,trivial⟩ ?_
  iterate 8 refine s1_ ?_
  refine rC (Calm.bin rfl rfl (bin_bool (bin_str_neq _ _) (bnot_dec_false e))) ?_
  iterate 8 refine s1_ ?_
  refine su_ [(0,_),(2,_)] ?_
  refine s1_ ?_
  refine ⟨_,S,⟨_,_,rfl,rfl,rfl⟩,less_,?_⟩
  exact ⟨congrArg Value.bool (decide_eq_false (fun h=>h.1 h0)).symm,rfl⟩
 ·have e : ¬ s=ByteArray.empty:=fun h=>h0 ((size0 s).1 h)
  refine ACall.enter (rs:=[.tmp 2]) 10 [(0,.string s)] Tryz.func133 rfl rfl (Nat.le_of_ble_eq_true rfl) rfl ⟨rfl,trivial⟩ ?_
  iterate 8 refine s1_ ?_
  refine rC (Calm.bin rfl rfl (bin_bool (bin_str_neq _ _) (bnot_dec_true e))) ?_
  iterate 8 refine s1_ ?_
  refine su_ [(0,_),(2,_)] ?_
  refine s1_ ?_
  refine ⟨_,S,⟨_,_,rfl,rfl,rfl⟩,less_,?_⟩
  exact ⟨congrArg Value.bool (decide_eq_decide.2 (by unfold nm;omega)),rfl⟩
theorem rd_Find (v : Value) (l : List Ext) (s : ByteArray) (S : Mem) (hl : Sl 2 extF S v l) (ha : Asc l) :
  ACall Tryz.prog 103 #[v,.string s] S fun r S'=>r = .int .i64 (fnd l s)∧S'=S:=by
 obtain ⟨a,cap,rfl,h1,h2,h3⟩:=id hl
 refine ACall.enter (rs:=[.tmp 4]) 20 [(0,.slice a l.length cap),(1,.string s)] Tryz.func103 rfl rfl (Nat.le_of_ble_eq_true rfl) rfl ⟨rfl,rfl,trivial⟩ ?_
 iterate 14 refine s1_ ?_
 refine AWP.loop (X:=Nat) (fun x=>[(1,.string s),(7,.slice a l.length cap),(8,.int .i64 l.length),(9,.int .i64 x)]) (fun x=>S) (fun x=>x≤l.length ∧ ∀ j (h:j<l.length),j<x→l[j].1≠s) (fun x=>l.length-x) (0) ⟨rfl,rfl,rfl,rfl,trivial⟩ (Mem.Less.refl _) (⟨Nat.zero_le _,fun j _ h=>absurd h (Nat.not_lt_zero _)⟩) ?_
 rintro i ⟨hi,hall⟩
 (try dsimp only at *)
 iterate 6 refine s1_ ?_
 refine AWP.condB rfl (fun hc=>?_) (fun hc=>?_)
 ·have hc:i<l.length:=by have:=of_decide_eq_true hc;omega
  obtain ⟨b,off,rfl,hk⟩:=h3.resolve_left (fun e=>by subst e;simp at hc)
  have hki:=hk i hc
  unfold extF at hki
  iterate 9 refine s1_ ?_
  refine ARun.alloc (lit_lt rfl) ty_zero_81 ?_
  intro b6 f6
  have g6:=f6
  repeat ((with_reducible replace g6:=fresh_set g6);obtain ⟨g6,_⟩:=g6)
  refine nl_ ?_
  iterate 4 refine s1_ ?_
  refine su_ [(1,_),(7,_),(8,_),(9,_),(10,_),(6,_),(5,_)] ?_
  iterate 8 refine s1_ ?_
  refine su_ [(1,_),(7,_),(8,_),(9,_),(10,_),(6,_),(5,_),(17,_)] ?_
  refine AWP.condB rfl (fun hb=>?_) (fun hb=>?_)
  ·iterate 6 refine s1_ ?_
   refine su_ [(1,_),(7,_),(8,_),(9,_),(10,_),(6,_),(5,_),(17,_),(4,_)] ?_
   iterate 6 refine s1_ ?_
   refine ⟨_,S,⟨_,_,rfl,rfl,rfl⟩,less_,?_⟩
   exact ⟨by rw [fnd_at ha hc (of_decide_eq_true hb)];rfl,rfl⟩
  ·iterate 8 refine s1_ ?_
   refine ⟨i+1,?_,?_,?_,?_⟩
   all_goals (try dsimp only)
   ·exact ⟨rfl,rfl,rfl,rfl,trivial⟩
   ·exact less_
   ·exact ⟨hc,fun j h hj=>by rcases Nat.lt_or_ge j i with h' | h';exact hall j h h';obtain rfl:j=i:=(by omega);exact of_decide_eq_false hb⟩
   ·omega
 ·have hc:i=l.length:=by have:=of_decide_eq_false hc;omega
  iterate 11 refine s1_ ?_
  refine ⟨_,S,⟨_,_,rfl,rfl,rfl⟩,less_,?_⟩
  exact ⟨by rw [fnd_none (fun j h=>hall j h (by omega))];rfl,rfl⟩
theorem rd_used (v : Value) (l : List Ext) (S : Mem) (hl : Sl 2 extF S v l) (hu : used l ≤ 9223372036854775807) (hz : ∀ x ∈ l, x.2.size ≤ 9223372036854775807) :
  ACall Tryz.prog 141 #[v] S fun r S'=>r = .int .i64 (used l:Nat)∧S'=S:=by
 obtain ⟨a,cap,rfl,h1,h2,h3⟩:=id hl
 refine ACall.enter (rs:=[.tmp 2]) 20 [(0,.slice a l.length cap)] Tryz.func141 rfl rfl (Nat.le_of_ble_eq_true rfl) rfl ⟨rfl,trivial⟩ ?_
 iterate 19 refine s1_ ?_
 refine AWP.loop (X:=Nat) (fun x=>[(3,.int .i64 (used (l.take x):Nat)),(6,.slice a l.length cap),(7,.int .i64 l.length),(8,.int .i64 x)]) (fun x=>S) (fun x=>x≤l.length) (fun x=>l.length-x) (0) ⟨some_int (by simp [used]),rfl,rfl,rfl,trivial⟩ (Mem.Less.refl _) (Nat.zero_le _) ?_
 rintro i hi
 (try dsimp only at *)
 iterate 6 refine s1_ ?_
 refine AWP.condB rfl (fun hc=>?_) (fun hc=>?_)
 ·have hc:i<l.length:=by have:=of_decide_eq_true hc;omega
  obtain ⟨b,off,rfl,hk⟩:=h3.resolve_left (fun e=>by subst e;simp at hc)
  have hki:=hk i hc
  have hut:=used_take hc
  have hul:=used_take_le l (i+1)
  have hsx:=hz _ (List.getElem_mem hc)
  generalize l[i]=x at *
  unfold extF at hki
  unfold sec at hut
  iterate 8 refine s1_ ?_
  refine ARun.alloc (lit_lt rfl) ty_zero_81 ?_
  intro b5 f5
  have g5:=f5
  repeat ((with_reducible replace g5:=fresh_set g5);obtain ⟨g5,_⟩:=g5)
  refine nl_ ?_
  iterate 3 refine s1_ ?_
  refine su_ [(3,_),(6,_),(7,_),(8,_),(9,_),(5,_)] ?_
  iterate 11 refine s1_ ?_
  refine su_ [(3,_),(6,_),(7,_),(8,_),(9,_),(5,_)] ?_
  iterate 5 refine s1_ ?_
  refine ⟨i+1,?_,?_,?_,?_⟩
  all_goals (try dsimp only)
  ·exact ⟨some_int (by omega),rfl,rfl,rfl,trivial⟩
  ·exact less_
  ·exact hc
  ·omega
 ·have hc:i=l.length:=by have:=of_decide_eq_false hc;omega
  subst hc
  rw [List.take_length]
  iterate 11 refine s1_ ?_
  refine su_ [(3,_),(6,_),(7,_),(8,_),(9,_),(2,_)] ?_
  refine s1_ ?_
  refine ⟨_,S,⟨_,_,rfl,rfl,rfl⟩,less_,?_⟩
  exact ⟨rfl,rfl⟩
end Go.Proofs.YtceikpipmcadmaaGreatDoor
namespace Go.Proofs.YtceikpipmcadmaaGreatDoor
open Go.RowKit
open Mv Disk
set_option maxRecDepth 4000
theorem copy_ok {S : Mem} {d : D} {oE oW : Option (Nat × Nat)} {b1 b2 : Nat} {B1 B2 B1' B1'' B2' : Blk} (f1 : Fresh S b1) (f2 : Fresh (S.set b1 B1) b2) (hE : OkO ((S.set b1 B1).set b2 B2) oE d.ext.length)
  (hW:OkO ((outN 2 ((S.set b1 B1).set b2 B2) oE extT (d.ext.flatMap extF)).set b1 B1') oW d.waits.length) :
  OkD S d oE oW∧(dkM S d oE oW).Less (((outN 3 ((outN 2 ((S.set b1 B1).set b2 B2) oE extT (d.ext.flatMap extF)).set b1 B1') oW wrT (d.waits.flatMap wrF)).set b1 B1'').set b2 B2'):=by
 obtain ⟨f2',n21⟩:=fresh_set f2
 have hW':=hW.unset
 have s1:S.own b1=none:=f1.1
 have s2:S.own b2=none:=f2'.1
 have nE:∀ q c,oE=some (q,c)→b1≠q∧b2≠q∧Fresh S q:=fun q c e=>by
  obtain ⟨g,hne⟩:=fresh_set (hE.own q c e).1
  obtain ⟨g',hne'⟩:=fresh_set g
  exact ⟨Ne.symm hne',Ne.symm hne,g'⟩
 have nW:∀ q c,oW=some (q,c)→b1≠q∧b2≠q∧Fresh S q ∧ ∀ q' c',oE=some (q',c')→q≠q':=fun q c e=>by
  obtain ⟨g,hne⟩:=fresh_set (hW.own q c e).1
  obtain ⟨g',hne'⟩:=fresh_outN g
  obtain ⟨g2,hne2⟩:=fresh_set g'
  obtain ⟨g3,hne3⟩:=fresh_set g2
  exact ⟨Ne.symm hne,Ne.symm hne2,g3,hne'⟩
 refine ⟨⟨⟨hE.nil,fun q c e=>⟨(nE q c e).2.2,(hE.own q c e).2⟩⟩,⟨hW.nil,fun q c e=>⟨?_,(hW.own q c e).2⟩⟩⟩,?_⟩
 ·obtain ⟨_,_,g,hq⟩:=nW q c e
  cases oE with
  | none=>exact g
  | some z=>exact fresh_more g (hq _ _ rfl)
 ·unfold dkM
  refine ⟨fun k r hk=>?_,by cases oE <;> cases oW <;> rfl⟩
  have hk1:k≠b1:=by
   rintro rfl
   cases oE with
   | none =>
    cases oW with
    | none=>simp only [outN] at hk;rw [s1] at hk;cases hk
    | some z=>simp only [outN] at hk;rw [Mem.own_set_other _ _ (nW _ _ rfl).1,s1] at hk;cases hk
   | some y =>
    cases oW with
    | none=>simp only [outN] at hk;rw [Mem.own_set_other _ _ (nE _ _ rfl).1,s1] at hk;cases hk
    | some z=>simp only [outN] at hk;rw [Mem.own_set_other _ _ (nW _ _ rfl).1,Mem.own_set_other _ _ (nE _ _ rfl).1,s1] at hk;cases hk
  have hk2:k≠b2:=by
   rintro rfl
   cases oE with
   | none =>
    cases oW with
    | none=>simp only [outN] at hk;rw [s2] at hk;cases hk
    | some z=>simp only [outN] at hk;rw [Mem.own_set_other _ _ (nW _ _ rfl).2.1,s2] at hk;cases hk
   | some y =>
    cases oW with
    | none=>simp only [outN] at hk;rw [Mem.own_set_other _ _ (nE _ _ rfl).2.1,s2] at hk;cases hk
    | some z=>simp only [outN] at hk;rw [Mem.own_set_other _ _ (nW _ _ rfl).2.1,Mem.own_set_other _ _ (nE _ _ rfl).2.1,s2] at hk;cases hk
  rw [Mem.own_set_other _ _ hk2,Mem.own_set_other _ _ hk1]
  cases oE with
  | none =>
   cases oW with
   | none =>
    simp only [outN] at hk ⊢
    rw [Mem.own_set_other _ _ hk1,Mem.own_set_other _ _ hk2,Mem.own_set_other _ _ hk1];exact hk
   | some z =>
    simp only [outN] at hk ⊢
    by_cases e:k=z.1
    ·subst e;rw [Mem.own_set_same] at hk ⊢;exact hk
    ·rw [Mem.own_set_other _ _ e] at hk ⊢;rw [Mem.own_set_other _ _ hk1,Mem.own_set_other _ _ hk2,Mem.own_set_other _ _ hk1];exact hk
  | some y =>
   have hset:((((S.set b1 B1).set b2 B2).set y.1 ⟨extT,d.ext.flatMap extF,y.2*2⟩).set b1 B1').own k=(S.set y.1 ⟨extT,d.ext.flatMap extF,y.2*2⟩).own k:=by
    rw [Mem.own_set_other _ _ hk1]
    by_cases e:k=y.1
    ·subst e;rw [Mem.own_set_same,Mem.own_set_same]
    ·rw [Mem.own_set_other _ _ e,Mem.own_set_other _ _ e,Mem.own_set_other _ _ hk2,Mem.own_set_other _ _ hk1]
   cases oW with
   | none=>simp only [outN] at hk ⊢;rw [hset];exact hk
   | some z =>
    simp only [outN] at hk ⊢
    by_cases e:k=z.1
    ·subst e;rw [Mem.own_set_same] at hk ⊢;exact hk
    ·rw [Mem.own_set_other _ _ e] at hk ⊢;rw [hset];exact hk
/-- A disk that is another's copy, its slices its own. -/
def CopyR (d : D) (S : Mem) (r : Value) (S' : Mem) : Prop := ∃ oE oW, OkD S d oE oW ∧ r = dkV d oE oW ∧ S' = dkM S d oE oW
set_option maxHeartbeats 1000000 in
theorem rd_Copy (v : Value) (d : D) (S : Mem) (hd : DkR S v d) (hz1 : d.ext.length ≤ 4398046511104) (hz2 : d.waits.length ≤ 3518437208883) :
  ACall Tryz.prog 10 #[v] S (CopyR d S):=by
 obtain ⟨pe,ce,pw,cw,rfl,hE,hW⟩:=hd
 refine ACall.enter (rs:=[.cell 2 25]) 14 [(0,.agg #[.int .i64 d.size,.slice pe d.ext.length ce,.slice pw d.waits.length cw,.int .i64 d.fuse,.bool d.down])] Tryz.func10 rfl rfl (Nat.le_of_ble_eq_true rfl) rfl ⟨rfl,trivial⟩ ?_
 iterate 2 refine s1_ ?_
 refine k_b5 rfl ?_
 intro b1 f1
 have g1:=f1
 repeat ((with_reducible replace g1:=fresh_set g1);obtain ⟨g1,_⟩:=g1)
 refine nl_ ?_
 refine ARun.alloc (lit_lt rfl) ty_zero_25 ?_
 intro b2 f2
 have g2:=f2
 repeat ((with_reducible replace g2:=fresh_set g2);obtain ⟨g2,_⟩:=g2)
 refine nl_ ?_
 iterate 4 refine s1_ ?_
 refine ARun.build0 (lit_lt rfl) ty_sl_22 ?_
 intro b3 f3
 have g3:=f3
 repeat ((with_reducible replace g3:=fresh_set g3);obtain ⟨g3,_⟩:=g3)
 iterate 2 refine s1_ ?_
 refine ARun.appendOK (n:=2) (o:=some (b3,0)) (k:=0) (m:=d.ext.length) (cs:=[]) (lit_lt rfl) ty_sl_22 rfl rfl rfl (okO_own f3 (Nat.le_refl _)) (appN_self (okO_own f3 (Nat.le_refl 0)) rfl) rfl ((hE.less less_).src ext_len) (flat_length ext_len d.ext) (ext_one d.ext) (by omega) (by omega) ?_
 intro oE hoE
 rw [Nat.zero_add] at hoE ⊢
 have n12:b1≠b2:=Ne.symm (fresh_set f2).2
 obtain ⟨M,hM⟩ : ∃ M,outN 2 ((S.set b1 ⟨25,[.int .i64 d.size,.slice pe d.ext.length ce,.slice pw d.waits.length cw,.int .i64 d.fuse,.bool d.down],5⟩).set b2 ⟨25,[.int .i64 0,.slice none 0 0,.slice none 0 0,.int .i64 0,.bool false],5⟩) oE extT (d.ext.flatMap extF)=M:=⟨_,rfl⟩
 have kM1:M.own b1=some ⟨25,[.int .i64 d.size,.slice pe d.ext.length ce,.slice pw d.waits.length cw,.int .i64 d.fuse,.bool d.down],5⟩:=by rw [← hM];exact (outN_over hoE).1 _ _ ((Mem.own_set_other _ _ n12).trans (Mem.own_set_same _ _ _))
 have kM2:M.own b2=some ⟨25,[.int .i64 0,.slice none 0 0,.slice none 0 0,.int .i64 0,.bool false],5⟩:=by rw [← hM];exact (outN_over hoE).1 _ _ (Mem.own_set_same _ _ _)
 have hSM:S.Less M:=by rw [← hM];exact ((Mem.less_set _ _ _ f1.1).trans (Mem.less_set _ _ _ f2.1)).trans (outN_over hoE)
 obtain ⟨qe,de,hqe⟩:=outV_eq hoE
 rw [List.nil_append,hM,hqe]
 iterate 4 refine s1_ ?_
 refine su_ [(0,_),(1,_),(2,_)] ?_
 have hSM1:∀ r,S.Less (M.set b1 r):=fun r=>less_of (LessB.skip (.inr f1.1) (LessB.of hSM))
 iterate 2 refine s1_ ?_
 refine ARun.build0 (lit_lt rfl) ty_sl_23 ?_
 intro b8 f8
 have g8:=f8
 repeat ((with_reducible replace g8:=fresh_set g8);obtain ⟨g8,_⟩:=g8)
 iterate 2 refine s1_ ?_
 refine ARun.appendOK (n:=3) (o:=some (b8,0)) (k:=0) (m:=d.waits.length) (cs:=[]) (lit_lt rfl) ty_sl_23 rfl rfl rfl (okO_own f8 (Nat.le_refl _)) (appN_self (okO_own f8 (Nat.le_refl 0)) rfl) rfl (((hW.less (hSM1 _)).less less_).src wr_len) (flat_length wr_len d.waits) (wr_one d.waits) (by omega) (by omega) ?_
 intro oW hoW
 rw [Nat.zero_add] at hoW ⊢
 obtain ⟨M2,hM2⟩ : ∃ M2,outN 3 (M.set b1 ⟨25,[.int .i64 d.size,.slice qe d.ext.length de,.slice pw d.waits.length cw,.int .i64 d.fuse,.bool d.down],5⟩) oW wrT (d.waits.flatMap wrF)=M2:=⟨_,rfl⟩
 have k21:M2.own b1=some ⟨25,[.int .i64 d.size,.slice qe d.ext.length de,.slice pw d.waits.length cw,.int .i64 d.fuse,.bool d.down],5⟩:=by rw [← hM2];exact (outN_over hoW).1 _ _ (Mem.own_set_same _ _ _)
 have k22:M2.own b2=some ⟨25,[.int .i64 0,.slice none 0 0,.slice none 0 0,.int .i64 0,.bool false],5⟩:=by rw [← hM2];exact (outN_over hoW).1 _ _ ((Mem.own_set_other _ _ (Ne.symm n12)).trans kM2)
 obtain ⟨qw,dw,hqw⟩:=outV_eq hoW
 rw [List.nil_append,hM2,hqw]
 rw [← hM] at hoW hM2
 have hcopy:=fun B1'' B2'=>copy_ok (B1'':=B1'') (B2':=B2') f1 f2 hoE hoW
 rw [hM2] at hcopy
 iterate 4 refine s1_ ?_
 refine su_ [(0,_),(1,_),(2,_)] ?_
 iterate 6 refine s1_ ?_
 refine su_ [(0,_),(1,_),(2,_)] ?_
 refine s1_ ?_
 refine ⟨_,dkM S d oE oW,⟨_,_,_,rfl,.inr ⟨ty_agg_25,[_,_,_,_,_],ty_size_25,rds_,rfl⟩,rfl,rfl⟩,(hcopy _ _).2,?_⟩
 exact ⟨oE,oW,(hcopy ⟨25,[.int .i64 0,.slice none 0 0,.slice none 0 0,.int .i64 0,.bool false],5⟩ ⟨25,[.int .i64 0,.slice none 0 0,.slice none 0 0,.int .i64 0,.bool false],5⟩).1,by unfold dkV;rw [hqe,hqw];rfl,rfl⟩
end Go.Proofs.YtceikpipmcadmaaGreatDoor
namespace Go.Proofs.YtceikpipmcadmaaGreatDoor
open Go.RowKit
open Mv Disk
set_option maxRecDepth 4000
theorem sl_take {α : Type} {n : Nat} {f : α → List Value} {S : Mem} {a : Option Addr} {cap : Nat} {l : List α} (h : Sl n f S (.slice a l.length cap) l) {k : Nat} (hk : k ≤ l.length) : Sl n f S (.slice a k cap) (l.take k) := by
 obtain ⟨a',cap',e,h1,h2,h3⟩:=h
 cases e
 have hl:(l.take k).length=k:=by simp;omega
 refine ⟨a,cap,by rw [hl],by omega,by omega,?_⟩
 rcases h3 with rfl | ⟨b,off,e,hh⟩
 ·exact .inl (by simp)
 ·exact .inr ⟨b,off,e,fun j hj=>by
   rw [List.getElem_take]
   exact hh j (by omega)⟩
set_option maxHeartbeats 4000000 in
theorem rd_Check (v : Value) (d : D) (S : Mem) (hd : DkR S v d) (hz : Dz d) :
  ACall Tryz.prog 93 #[v] S fun r S'=>r = .int .i64 (chkD d)∧S'=S:=by
 obtain ⟨pe,ce,pw,cw,rfl,hE,hW⟩:=hd
 obtain ⟨size,ext,waits,fuse,down⟩:=d
 have hez:=fun x hx=>(hz.ez x hx).2
 have hs0:=hz.s0;have hs1:=hz.s1;have hf0:=hz.f0;have hf1:=hz.f1
 simp only at hE hW hez hs0 hs1 hf0 hf1 ⊢
 obtain ⟨_,_,ee1,ee2,ee3,hE3⟩:=id hE
 obtain ⟨_,_,ew1,ew2,ew3,hW3⟩:=id hW
 cases ee1;cases ew1
 refine ACall.enter (rs:=[.tmp 2]) 122 [(0,.agg #[.int .i64 size,.slice pe ext.length ce,.slice pw waits.length cw,.int .i64 fuse,.bool down])] Tryz.func93 rfl rfl (Nat.le_of_ble_eq_true rfl) rfl ⟨rfl,trivial⟩ ?_
 iterate 2 refine s1_ ?_
 refine k_b5 rfl ?_
 intro b1 f1
 have g1:=f1
 repeat ((with_reducible replace g1:=fresh_set g1);obtain ⟨g1,_⟩:=g1)
 refine nl_ ?_
 iterate 3 refine s1_ ?_
 refine named (S:=S) (b:=b1) g1.1 ?_
 intro T1 hT1 kb1
 replace hE:=hE.less hT1
 replace hW:=hW.less hT1
 by_cases q1:size<0
 ·iterate 30 refine s1_ ?_
  refine su_ [(0,_),(1,_),(2,_),(32,_)] ?_
  refine cT_ ?_
  iterate 7 refine s1_ ?_
  refine ⟨_,S,⟨_,_,rfl,rfl,rfl⟩,hT1.trans less_,?_⟩
  exact ⟨by rw [chkD_no (fun h=>absurd h.s0 (by simp only;omega))];rfl,rfl⟩
 ·by_cases q2:16384<size
  ·iterate 30 refine s1_ ?_
   refine su_ [(0,_),(1,_),(2,_),(32,_)] ?_
   refine cT_ ?_
   iterate 7 refine s1_ ?_
   refine ⟨_,S,⟨_,_,rfl,rfl,rfl⟩,hT1.trans less_,?_⟩
   exact ⟨by rw [chkD_no (fun h=>absurd h.s1 (by simp only;omega))];rfl,rfl⟩
  ·by_cases q20:16384<ext.length
   ·iterate 30 refine s1_ ?_
    refine su_ [(0,_),(1,_),(2,_),(32,_)] ?_
    refine cT_ ?_
    iterate 7 refine s1_ ?_
    refine ⟨_,S,⟨_,_,rfl,rfl,rfl⟩,hT1.trans less_,?_⟩
    exact ⟨by rw [chkD_no (fun h=>by have h1:=used_ge h.ex.ok;have h2:=h.ex.us;simp only at h1 h2;omega)];rfl,rfl⟩
   ·by_cases q3:16384<waits.length
    ·iterate 30 refine s1_ ?_
     refine su_ [(0,_),(1,_),(2,_),(32,_)] ?_
     refine cT_ ?_
     iterate 7 refine s1_ ?_
     refine ⟨_,S,⟨_,_,rfl,rfl,rfl⟩,hT1.trans less_,?_⟩
     exact ⟨by rw [chkD_no (fun h=>absurd h.wl (by simp only;omega))];rfl,rfl⟩
    ·by_cases q4:fuse < -1
     ·iterate 30 refine s1_ ?_
      refine su_ [(0,_),(1,_),(2,_),(32,_)] ?_
      refine cT_ ?_
      iterate 7 refine s1_ ?_
      refine ⟨_,S,⟨_,_,rfl,rfl,rfl⟩,hT1.trans less_,?_⟩
      exact ⟨by rw [chkD_no (fun h=>absurd h.fu (by simp only;omega))];rfl,rfl⟩
     ·iterate 30 refine s1_ ?_
      refine su_ [(0,_),(1,_),(2,_),(32,_)] ?_
      refine cF_ ?_
      iterate 11 refine s1_ ?_
      refine su_ [(0,_),(1,_),(2,_),(32,_),(34,_),(35,_),(36,_)] ?_
      refine s1_ ?_
      refine AWP.loop (X:=Nat) (fun x=>[(1,.pointer (some ⟨b1,0,none⟩)),(34,.slice pe ext.length ce),(35,.int .i64 ext.length),(36,.int .i64 x)]) (fun x=>T1) (fun x=>x≤ext.length∧Upto ext size x) (fun x=>ext.length-x) (0) ⟨rfl,rfl,rfl,rfl,trivial⟩ (Mem.Less.refl _) (⟨Nat.zero_le _,upto_zero ext (by omega)⟩) ?_
      rintro i ⟨hi,hup⟩
      (try dsimp only at *)
      iterate 6 refine s1_ ?_
      refine AWP.condB rfl (fun hc=>?_) (fun hc=>?_)
      ·have hc:i<ext.length:=by have:=of_decide_eq_true hc;omega
       obtain ⟨b,off,rfl,hk⟩:=hE3.resolve_left (fun e=>by subst e;simp at hc)
       have hki:=(hk i hc).less hT1
       have hzi:=hez _ (List.getElem_mem hc)
       have hus:=hup.us
       have hra:Right ⟨size,ext,waits,fuse,down⟩→eok ext[i]∧lt (lastN ext i) ext[i].1=true∧(used (ext.take i):Int)+sec ext[i]≤size:=fun h=>right_at h.ex hc
       have hut:used (ext.take (i+1))=used (ext.take i)+sec ext[i]:=by rw [take_get hc,used_append];simp [used]
       have hln:=lastN_succ hc
       have hsu:=upto_succ hup hc
       have hslt:=sl_take hE (k:=i+1) hc
       unfold extF at hki
       by_cases q5:nm ext[i].1
       ·rcases Nat.eq_zero_or_pos i with q0 | q0
        ·have q6:lt (lastN ext i) ext[i].1=true:=by subst q0;exact lt_empty q5.1
         by_cases q7:ext[i].2.size=0
         ·iterate 9 refine s1_ ?_
          refine ARun.alloc (lit_lt rfl) ty_zero_81 ?_
          intro b4 f4
          have g4:=f4
          repeat ((with_reducible replace g4:=fresh_set g4);obtain ⟨g4,_⟩:=g4)
          have:=g4.ne kb1;have:=g4.ne' kb1
          refine nl_ ?_
          iterate 4 refine s1_ ?_
          refine su_ [(1,_),(34,_),(35,_),(36,_),(37,_),(4,_),(3,_)] ?_
          iterate 2 refine s1_ ?_
          refine AWP.draw [(0,true),(1,true),(2,false),(3,true),(4,true),(5,true),(6,true),(7,true),(8,true),(9,true),(10,true),(11,true),(12,true),(13,true),(14,true),(15,true),(16,true),(17,true),(18,true),(19,true),(20,true),(21,true),(22,true),(23,true),(24,true),(25,true),(26,true),(27,true),(28,true),(29,true),(30,true),(31,true)] [] mixed (by kernel_rfl) ?_
          iterate 2 refine s1_ ?_
          refine draw_only rfl ?_
          refine ca_ rfl (rd_Named _ _) ?_
          rintro _ S1 ⟨rfl,h1⟩
          rw [h1,decide_eq_true q5];clear h1 S1
          refine arun_nil ⟨fun _=>less_,?_⟩
          iterate 20 refine s1_ ?_
          first|refine k_d ?_|refine dG (hc:=fun _=>Calm.bin rfl rfl (bin_bool (bin_str_eql _ _) (decide_eq_true ((size0 _).2 q7)))) (h:=?_)
          iterate 10 refine s1_ ?_
          refine su_ [(1,_),(34,_),(35,_),(36,_),(37,_),(4,_),(3,_),(72,_)] ?_
          refine cT_ ?_
          iterate 12 refine s1_ ?_
          refine ⟨_,S,⟨_,_,rfl,rfl,rfl⟩,hT1.trans less_,?_⟩
          exact ⟨by rw [chkD_no (fun h=>(hra h).1.2.1 q7)];rfl,rfl⟩
         ·by_cases q8:ext[i].2.size % 64=0
          ·iterate 9 refine s1_ ?_
           refine ARun.alloc (lit_lt rfl) ty_zero_81 ?_
           intro b4 f4
           have g4:=f4
           repeat ((with_reducible replace g4:=fresh_set g4);obtain ⟨g4,_⟩:=g4)
           have:=g4.ne kb1;have:=g4.ne' kb1
           refine nl_ ?_
           iterate 4 refine s1_ ?_
           refine su_ [(1,_),(34,_),(35,_),(36,_),(37,_),(4,_),(3,_)] ?_
           iterate 2 refine s1_ ?_
           refine AWP.draw [(0,true),(1,true),(2,false),(3,true),(4,true),(5,true),(6,true),(7,true),(8,true),(9,true),(10,true),(11,true),(12,true),(13,true),(14,true),(15,true),(16,true),(17,true),(18,true),(19,true),(20,true),(21,true),(22,true),(23,true),(24,true),(25,true),(26,true),(27,true),(28,true),(29,true),(30,true),(31,true)] [] mixed (by kernel_rfl) ?_
           iterate 2 refine s1_ ?_
           refine draw_only rfl ?_
           refine ca_ rfl (rd_Named _ _) ?_
           rintro _ S1 ⟨rfl,h1⟩
           rw [h1,decide_eq_true q5];clear h1 S1
           refine arun_nil ⟨fun _=>less_,?_⟩
           iterate 20 refine s1_ ?_
           first|refine k_d ?_|refine dG (hc:=fun _=>Calm.bin rfl rfl (bin_bool (bin_str_eql _ _) (decide_eq_false (fun e=>q7 ((size0 _).1 e))))) (h:=?_)
           iterate 10 refine s1_ ?_
           refine su_ [(1,_),(34,_),(35,_),(36,_),(37,_),(4,_),(3,_),(72,_)] ?_
           refine cF_ ?_
           have hsx:sec ext[i]≤140737488351232:=by unfold sec;omega
           iterate 3 refine s1_ ?_
           refine AWP.draw [(0,true),(1,true),(2,true),(3,true),(4,true),(6,true),(7,true),(5,false),(8,true)] [] mixed (by kernel_rfl) ?_
           iterate 7 refine s1_ ?_
           refine draw_only rfl ?_
           refine ca_ rfl (rd_used _ (ext.take (i+1)) _ (hslt.less less_) (by omega) (fun x hx=>by have:=hez x (List.mem_of_mem_take hx);omega)) ?_
           rintro _ S1 ⟨rfl,h1⟩
           rw [h1];clear h1 S1
           refine arun_nil ⟨fun _=>less_,?_⟩
           iterate 3 refine s1_ ?_
           refine su_ [(1,_),(34,_),(35,_),(36,_),(37,_),(4,_),(3,_),(72,_),(81,_)] ?_
           refine AWP.condB rfl (fun q9=>?_) (fun q9=>?_)
           ·iterate 11 refine s1_ ?_
            refine ⟨_,S,⟨_,_,rfl,rfl,rfl⟩,hT1.trans less_,?_⟩
            exact ⟨by rw [chkD_no (fun h=>absurd (hra h).2.2 (by have:=of_decide_eq_true q9;omega))];rfl,rfl⟩
           ·have q9:=of_decide_eq_false q9
            iterate 8 refine s1_ ?_
            refine ⟨i+1,?_,?_,?_,?_⟩
            all_goals (try dsimp only)
            ·exact ⟨rfl,rfl,rfl,rfl,trivial⟩
            ·exact less_
            ·exact ⟨hc,hsu ⟨q5,q7,q8⟩ q6 (by omega)⟩
            ·omega
          ·iterate 9 refine s1_ ?_
           refine ARun.alloc (lit_lt rfl) ty_zero_81 ?_
           intro b4 f4
           have g4:=f4
           repeat ((with_reducible replace g4:=fresh_set g4);obtain ⟨g4,_⟩:=g4)
           have:=g4.ne kb1;have:=g4.ne' kb1
           refine nl_ ?_
           iterate 4 refine s1_ ?_
           refine su_ [(1,_),(34,_),(35,_),(36,_),(37,_),(4,_),(3,_)] ?_
           iterate 2 refine s1_ ?_
           refine AWP.draw [(0,true),(1,true),(2,false),(3,true),(4,true),(5,true),(6,true),(7,true),(8,true),(9,true),(10,true),(11,true),(12,true),(13,true),(14,true),(15,true),(16,true),(17,true),(18,true),(19,true),(20,true),(21,true),(22,true),(23,true),(24,true),(25,true),(26,true),(27,true),(28,true),(29,true),(30,true),(31,true)] [] mixed (by kernel_rfl) ?_
           iterate 2 refine s1_ ?_
           refine draw_only rfl ?_
           refine ca_ rfl (rd_Named _ _) ?_
           rintro _ S1 ⟨rfl,h1⟩
           rw [h1,decide_eq_true q5];clear h1 S1
           refine arun_nil ⟨fun _=>less_,?_⟩
           iterate 20 refine s1_ ?_
           first|refine k_d ?_|refine dG (hc:=fun _=>Calm.bin rfl rfl (bin_bool (bin_str_eql _ _) (decide_eq_false (fun e=>q7 ((size0 _).1 e))))) (h:=?_)
           iterate 10 refine s1_ ?_
           refine su_ [(1,_),(34,_),(35,_),(36,_),(37,_),(4,_),(3,_),(72,_)] ?_
           refine cT_ ?_
           iterate 12 refine s1_ ?_
           refine ⟨_,S,⟨_,_,rfl,rfl,rfl⟩,hT1.trans less_,?_⟩
           exact ⟨by rw [chkD_no (fun h=>q8 (hra h).1.2.2)];rfl,rfl⟩
        ·obtain ⟨i',rfl⟩ : ∃ i',i=i'+1:=⟨i-1,by omega⟩
         have hki':=(hk i' (by omega)).less hT1
         unfold extF at hki'
         have hki0:T1.Knows ⟨b,off+i'*2,none⟩ [.string (ext[i']'(by omega)).1]:=kn_at hki' 0 rfl
         have hl':lastN ext (i'+1)=(ext[i']'(by omega)).1:=lastN_succ (by omega)
         by_cases q6:lt (lastN ext (i'+1)) ext[i'+1].1=true
         ·by_cases q7:ext[i'+1].2.size=0
          ·iterate 9 refine s1_ ?_
           refine ARun.alloc (lit_lt rfl) ty_zero_81 ?_
           intro b4 f4
           have g4:=f4
           repeat ((with_reducible replace g4:=fresh_set g4);obtain ⟨g4,_⟩:=g4)
           have:=g4.ne kb1;have:=g4.ne' kb1
           refine nl_ ?_
           iterate 4 refine s1_ ?_
           refine su_ [(1,_),(34,_),(35,_),(36,_),(37,_),(4,_),(3,_)] ?_
           iterate 2 refine s1_ ?_
           refine AWP.draw [(0,true),(1,true),(2,false),(3,true),(4,true),(5,true),(6,true),(7,true),(8,true),(9,true),(10,true),(11,true),(12,true),(13,true),(14,true),(15,true),(16,true),(17,true),(18,true),(19,true),(20,true),(21,true),(22,true),(23,true),(24,true),(25,true),(26,true),(27,true),(28,true),(29,true),(30,true),(31,true)] [] mixed (by kernel_rfl) ?_
           iterate 2 refine s1_ ?_
           refine draw_only rfl ?_
           refine ca_ rfl (rd_Named _ _) ?_
           rintro _ S1 ⟨rfl,h1⟩
           rw [h1,decide_eq_true q5];clear h1 S1
           refine arun_nil ⟨fun _=>less_,?_⟩
           iterate 8 refine s1_ ?_
           first|refine k_d ?_|refine dG (hc:=fun _=>Calm.bin rfl rfl (bin_subW (c:=(i':Int)) (by rw [IntWalk.i64_in _ (by omega)];omega))) (h:=?_)
           iterate 2 refine s1_ ?_
           first|refine k_d ?_|refine dL (hc:=Calm.loadK ty_plain_9 rfl (hki0.less less_)) (h:=?_)
           iterate 2 refine s1_ ?_
           first|refine k_d ?_|refine dG (hc:=fun _=>Calm.bin rfl rfl (bin_bool (bin_str_geq _ _) (by rw [lt_def,← hl',q6];first | done | rfl))) (h:=?_)
           iterate 5 refine s1_ ?_
           first|refine k_d ?_|refine dG (hc:=fun _=>Calm.bin rfl rfl (bin_bool (bin_str_eql _ _) (decide_eq_true ((size0 _).2 q7)))) (h:=?_)
           iterate 10 refine s1_ ?_
           refine su_ [(1,_),(34,_),(35,_),(36,_),(37,_),(4,_),(3,_),(72,_)] ?_
           refine cT_ ?_
           iterate 12 refine s1_ ?_
           refine ⟨_,S,⟨_,_,rfl,rfl,rfl⟩,hT1.trans less_,?_⟩
           exact ⟨by rw [chkD_no (fun h=>(hra h).1.2.1 q7)];rfl,rfl⟩
          ·by_cases q8:ext[i'+1].2.size % 64=0
           ·iterate 9 refine s1_ ?_
            refine ARun.alloc (lit_lt rfl) ty_zero_81 ?_
            intro b4 f4
            have g4:=f4
            repeat ((with_reducible replace g4:=fresh_set g4);obtain ⟨g4,_⟩:=g4)
            have:=g4.ne kb1;have:=g4.ne' kb1
            refine nl_ ?_
            iterate 4 refine s1_ ?_
            refine su_ [(1,_),(34,_),(35,_),(36,_),(37,_),(4,_),(3,_)] ?_
            iterate 2 refine s1_ ?_
            refine AWP.draw [(0,true),(1,true),(2,false),(3,true),(4,true),(5,true),(6,true),(7,true),(8,true),(9,true),(10,true),(11,true),(12,true),(13,true),(14,true),(15,true),(16,true),(17,true),(18,true),(19,true),(20,true),(21,true),(22,true),(23,true),(24,true),(25,true),(26,true),(27,true),(28,true),(29,true),(30,true),(31,true)] [] mixed (by kernel_rfl) ?_
            iterate 2 refine s1_ ?_
            refine draw_only rfl ?_
            refine ca_ rfl (rd_Named _ _) ?_
            rintro _ S1 ⟨rfl,h1⟩
            rw [h1,decide_eq_true q5];clear h1 S1
            refine arun_nil ⟨fun _=>less_,?_⟩
            iterate 8 refine s1_ ?_
            first|refine k_d ?_|refine dG (hc:=fun _=>Calm.bin rfl rfl (bin_subW (c:=(i':Int)) (by rw [IntWalk.i64_in _ (by omega)];omega))) (h:=?_)
            iterate 2 refine s1_ ?_
            first|refine k_d ?_|refine dL (hc:=Calm.loadK ty_plain_9 rfl (hki0.less less_)) (h:=?_)
            iterate 2 refine s1_ ?_
            first|refine k_d ?_|refine dG (hc:=fun _=>Calm.bin rfl rfl (bin_bool (bin_str_geq _ _) (by rw [lt_def,← hl',q6];first | done | rfl))) (h:=?_)
            iterate 5 refine s1_ ?_
            first|refine k_d ?_|refine dG (hc:=fun _=>Calm.bin rfl rfl (bin_bool (bin_str_eql _ _) (decide_eq_false (fun e=>q7 ((size0 _).1 e))))) (h:=?_)
            iterate 10 refine s1_ ?_
            refine su_ [(1,_),(34,_),(35,_),(36,_),(37,_),(4,_),(3,_),(72,_)] ?_
            refine cF_ ?_
            have hsx:sec ext[i'+1]≤140737488351232:=by unfold sec;omega
            iterate 3 refine s1_ ?_
            refine AWP.draw [(0,true),(1,true),(2,true),(3,true),(4,true),(6,true),(7,true),(5,false),(8,true)] [] mixed (by kernel_rfl) ?_
            iterate 7 refine s1_ ?_
            refine draw_only rfl ?_
            refine ca_ rfl (rd_used _ (ext.take (i'+1+1)) _ (hslt.less less_) (by omega) (fun x hx=>by have:=hez x (List.mem_of_mem_take hx);omega)) ?_
            rintro _ S1 ⟨rfl,h1⟩
            rw [h1];clear h1 S1
            refine arun_nil ⟨fun _=>less_,?_⟩
            iterate 3 refine s1_ ?_
            refine su_ [(1,_),(34,_),(35,_),(36,_),(37,_),(4,_),(3,_),(72,_),(81,_)] ?_
            refine AWP.condB rfl (fun q9=>?_) (fun q9=>?_)
            ·iterate 11 refine s1_ ?_
             refine ⟨_,S,⟨_,_,rfl,rfl,rfl⟩,hT1.trans less_,?_⟩
             exact ⟨by rw [chkD_no (fun h=>absurd (hra h).2.2 (by have:=of_decide_eq_true q9;omega))];rfl,rfl⟩
            ·have q9:=of_decide_eq_false q9
             iterate 8 refine s1_ ?_
             refine ⟨i'+1+1,?_,?_,?_,?_⟩
             all_goals (try dsimp only)
             ·exact ⟨rfl,rfl,rfl,rfl,trivial⟩
             ·exact less_
             ·exact ⟨hc,hsu ⟨q5,q7,q8⟩ q6 (by omega)⟩
             ·omega
           ·iterate 9 refine s1_ ?_
            refine ARun.alloc (lit_lt rfl) ty_zero_81 ?_
            intro b4 f4
            have g4:=f4
            repeat ((with_reducible replace g4:=fresh_set g4);obtain ⟨g4,_⟩:=g4)
            have:=g4.ne kb1;have:=g4.ne' kb1
            refine nl_ ?_
            iterate 4 refine s1_ ?_
            refine su_ [(1,_),(34,_),(35,_),(36,_),(37,_),(4,_),(3,_)] ?_
            iterate 2 refine s1_ ?_
            refine AWP.draw [(0,true),(1,true),(2,false),(3,true),(4,true),(5,true),(6,true),(7,true),(8,true),(9,true),(10,true),(11,true),(12,true),(13,true),(14,true),(15,true),(16,true),(17,true),(18,true),(19,true),(20,true),(21,true),(22,true),(23,true),(24,true),(25,true),(26,true),(27,true),(28,true),(29,true),(30,true),(31,true)] [] mixed (by kernel_rfl) ?_
            iterate 2 refine s1_ ?_
            refine draw_only rfl ?_
            refine ca_ rfl (rd_Named _ _) ?_
            rintro _ S1 ⟨rfl,h1⟩
            rw [h1,decide_eq_true q5];clear h1 S1
            refine arun_nil ⟨fun _=>less_,?_⟩
            iterate 8 refine s1_ ?_
            first|refine k_d ?_|refine dG (hc:=fun _=>Calm.bin rfl rfl (bin_subW (c:=(i':Int)) (by rw [IntWalk.i64_in _ (by omega)];omega))) (h:=?_)
            iterate 2 refine s1_ ?_
            first|refine k_d ?_|refine dL (hc:=Calm.loadK ty_plain_9 rfl (hki0.less less_)) (h:=?_)
            iterate 2 refine s1_ ?_
            first|refine k_d ?_|refine dG (hc:=fun _=>Calm.bin rfl rfl (bin_bool (bin_str_geq _ _) (by rw [lt_def,← hl',q6];first | done | rfl))) (h:=?_)
            iterate 5 refine s1_ ?_
            first|refine k_d ?_|refine dG (hc:=fun _=>Calm.bin rfl rfl (bin_bool (bin_str_eql _ _) (decide_eq_false (fun e=>q7 ((size0 _).1 e))))) (h:=?_)
            iterate 10 refine s1_ ?_
            refine su_ [(1,_),(34,_),(35,_),(36,_),(37,_),(4,_),(3,_),(72,_)] ?_
            refine cT_ ?_
            iterate 12 refine s1_ ?_
            refine ⟨_,S,⟨_,_,rfl,rfl,rfl⟩,hT1.trans less_,?_⟩
            exact ⟨by rw [chkD_no (fun h=>q8 (hra h).1.2.2)];rfl,rfl⟩
         ·iterate 9 refine s1_ ?_
          refine ARun.alloc (lit_lt rfl) ty_zero_81 ?_
          intro b4 f4
          have g4:=f4
          repeat ((with_reducible replace g4:=fresh_set g4);obtain ⟨g4,_⟩:=g4)
          have:=g4.ne kb1;have:=g4.ne' kb1
          refine nl_ ?_
          iterate 4 refine s1_ ?_
          refine su_ [(1,_),(34,_),(35,_),(36,_),(37,_),(4,_),(3,_)] ?_
          iterate 2 refine s1_ ?_
          refine AWP.draw [(0,true),(1,true),(2,false),(3,true),(4,true),(5,true),(6,true),(7,true),(8,true),(9,true),(10,true),(11,true),(12,true),(13,true),(14,true),(15,true),(16,true),(17,true),(18,true),(19,true),(20,true),(21,true),(22,true),(23,true),(24,true),(25,true),(26,true),(27,true),(28,true),(29,true),(30,true),(31,true)] [] mixed (by kernel_rfl) ?_
          iterate 2 refine s1_ ?_
          refine draw_only rfl ?_
          refine ca_ rfl (rd_Named _ _) ?_
          rintro _ S1 ⟨rfl,h1⟩
          rw [h1,decide_eq_true q5];clear h1 S1
          refine arun_nil ⟨fun _=>less_,?_⟩
          iterate 8 refine s1_ ?_
          first|refine k_d ?_|refine dG (hc:=fun _=>Calm.bin rfl rfl (bin_subW (c:=(i':Int)) (by rw [IntWalk.i64_in _ (by omega)];omega))) (h:=?_)
          iterate 2 refine s1_ ?_
          first|refine k_d ?_|refine dL (hc:=Calm.loadK ty_plain_9 rfl (hki0.less less_)) (h:=?_)
          iterate 2 refine s1_ ?_
          first|refine k_d ?_|refine dG (hc:=fun _=>Calm.bin rfl rfl (bin_bool (bin_str_geq _ _) (by rw [lt_def,← hl',Bool.eq_false_iff.2 q6];first | done | rfl))) (h:=?_)
          iterate 16 refine s1_ ?_
          refine su_ [(1,_),(34,_),(35,_),(36,_),(37,_),(4,_),(3,_),(72,_)] ?_
          refine cT_ ?_
          iterate 12 refine s1_ ?_
          refine ⟨_,S,⟨_,_,rfl,rfl,rfl⟩,hT1.trans less_,?_⟩
          exact ⟨by rw [chkD_no (fun h=>q6 (hra h).2.1)];rfl,rfl⟩
       ·iterate 9 refine s1_ ?_
        refine ARun.alloc (lit_lt rfl) ty_zero_81 ?_
        intro b4 f4
        have g4:=f4
        repeat ((with_reducible replace g4:=fresh_set g4);obtain ⟨g4,_⟩:=g4)
        have:=g4.ne kb1;have:=g4.ne' kb1
        refine nl_ ?_
        iterate 4 refine s1_ ?_
        refine su_ [(1,_),(34,_),(35,_),(36,_),(37,_),(4,_),(3,_)] ?_
        iterate 2 refine s1_ ?_
        refine AWP.draw [(0,true),(1,true),(2,false),(3,true),(4,true),(5,true),(6,true),(7,true),(8,true),(9,true),(10,true),(11,true),(12,true),(13,true),(14,true),(15,true),(16,true),(17,true),(18,true),(19,true),(20,true),(21,true),(22,true),(23,true),(24,true),(25,true),(26,true),(27,true),(28,true),(29,true),(30,true),(31,true)] [] mixed (by kernel_rfl) ?_
        iterate 2 refine s1_ ?_
        refine draw_only rfl ?_
        refine ca_ rfl (rd_Named _ _) ?_
        rintro _ S1 ⟨rfl,h1⟩
        rw [h1,decide_eq_false q5];clear h1 S1
        refine arun_nil ⟨fun _=>less_,?_⟩
        iterate 31 refine s1_ ?_
        refine su_ [(1,_),(34,_),(35,_),(36,_),(37,_),(4,_),(3,_),(72,_)] ?_
        refine cT_ ?_
        iterate 12 refine s1_ ?_
        refine ⟨_,S,⟨_,_,rfl,rfl,rfl⟩,hT1.trans less_,?_⟩
        exact ⟨by rw [chkD_no (fun h=>q5 (hra h).1.1)];rfl,rfl⟩
      ·have hc:i=ext.length:=by have:=of_decide_eq_false hc;omega
       subst hc
       have q5:=upto_all hup
       have hul:=used_ge q5.ok
       have hus:=q5.us
       iterate 14 refine s1_ ?_
       refine su_ [(1,_),(34,_),(35,_),(36,_),(37,_),(84,_),(85,_),(86,_)] ?_
       refine s1_ ?_
       refine AWP.loop (X:=Nat) (fun x=>[(1,.pointer (some ⟨b1,0,none⟩)),(84,.slice pw waits.length cw),(85,.int .i64 waits.length),(86,.int .i64 x)]) (fun x=>T1) (fun x=>x≤waits.length ∧ ∀ j (h:j<waits.length),j<x→wok ext waits[j]) (fun x=>waits.length-x) (0) ⟨rfl,rfl,rfl,rfl,trivial⟩ (Mem.Less.refl _) (⟨Nat.zero_le _,fun j _ h=>absurd h (Nat.not_lt_zero _)⟩) ?_
       rintro i ⟨hi,hall⟩
       (try dsimp only at *)
       iterate 6 refine s1_ ?_
       refine AWP.condB rfl (fun hc=>?_) (fun hc=>?_)
       ·have hc:i<waits.length:=by have:=of_decide_eq_true hc;omega
        obtain ⟨b,off,rfl,hk⟩:=hW3.resolve_left (fun e=>by subst e;simp at hc)
        have hki:=(hk i hc).less hT1
        have hwz:=hz.wz _ (List.getElem_mem hc)
        have hwn : ¬ wok ext waits[i] → ¬ Right ⟨size,ext,waits,fuse,down⟩:=fun h h'=>h (h'.wr _ (List.getElem_mem hc))
        have hall':wok ext waits[i] → ∀ j (h:j<waits.length),j<i+1→wok ext waits[j]:=fun hw j h hj=>by rcases Nat.lt_or_ge j i with h' | h';exact hall j h h';obtain rfl:j=i:=(by omega);exact hw
        have hhp:=has_pos q5.asc waits[i].1
        have hwh:=wok_has (l:=ext) (w:=waits[i])
        have hwp:=fun (p:Nat) (hp:p<ext.length) (e:ext[p].1=(waits[i]'hc).1)=>wok_pos q5.asc hp e
        generalize waits[i]=w at *
        unfold wrF at hki
        iterate 8 refine s1_ ?_
        refine ARun.alloc (lit_lt rfl) ty_zero_83 ?_
        intro b6 f6
        have g6:=f6
        repeat ((with_reducible replace g6:=fresh_set g6);obtain ⟨g6,_⟩:=g6)
        have:=g6.ne kb1;have:=g6.ne' kb1
        refine nl_ ?_
        iterate 3 refine s1_ ?_
        refine su_ [(1,_),(84,_),(85,_),(86,_),(87,_),(6,_)] ?_
        iterate 6 refine s1_ ?_
        refine ca_ rfl (rd_Find _ ext w.1 _ (hE.less less_) q5.asc) ?_
        rintro _ S1 ⟨rfl,h1⟩
        rw [h1];clear h1 S1
        iterate 3 refine s1_ ?_
        refine su_ [(1,_),(84,_),(85,_),(86,_),(87,_),(6,_),(7,_)] ?_
        by_cases q6:has ext w.1=true
        ·obtain ⟨hp,hpe⟩:=hhp.1 q6
         obtain ⟨be,oe,hpe2,hke⟩:=hE3.resolve_left (fun e=>by subst e;simp at hp)
         subst hpe2
         have hkp:=(hke _ hp).less hT1
         have hsz:=hez _ (List.getElem_mem hp)
         replace hwp:=hwp _ hp hpe
         have hfn:fnd ext w.1=(pos ext w.1:Nat):=by unfold fnd;rw [if_pos q6]
         rw [hfn]
         generalize hpp:pos ext w.1=p at *
         generalize hxx:ext[p]=x at *
         unfold extF at hkp
         have hsx:sec x≤140737488351232:=by unfold sec;omega
         have hsd:sec x=x.2.size / 64:=rfl
         by_cases q7:w.2.1<0
         ·refine s1_ ?_
          refine AWP.draw [(0,true),(1,true),(2,true),(3,true),(4,true),(5,true),(6,true),(7,true),(8,true),(9,true),(10,true),(11,true),(12,true),(13,true),(14,true),(15,true),(16,true),(17,true),(18,true),(19,true),(20,true),(21,true),(22,true),(23,true),(24,true),(25,true)] [] mixed (by kernel_rfl) ?_
          iterate 28 refine s1_ ?_
          refine su_ [(1,_),(84,_),(85,_),(86,_),(87,_),(6,_),(7,_),(120,_)] ?_
          refine cT_ ?_
          iterate 11 refine s1_ ?_
          refine ⟨_,S,⟨_,_,rfl,rfl,rfl⟩,hT1.trans less_,?_⟩
          exact ⟨by rw [chkD_no (hwn (fun h=>absurd (hwp.1 h).1 (by omega)))];rfl,rfl⟩
         ·by_cases q8:(sec x:Int)≤w.2.1
          ·refine s1_ ?_
           refine AWP.draw [(0,true),(1,true),(2,true),(3,true),(4,true),(5,true),(6,true),(7,true),(8,true),(9,true),(10,true),(11,true),(12,true),(13,true),(14,true),(15,true),(16,true),(17,true),(18,true),(19,true),(20,true),(21,true),(22,true),(23,true),(24,true),(25,true)] [] mixed (by kernel_rfl) ?_
           iterate 15 refine s1_ ?_
           first|refine k_d ?_|refine dL (hc:=Calm.loadK ty_plain_9 rfl ((kn_at hkp 1 rfl).less less_)) (h:=?_)
           iterate 12 refine s1_ ?_
           refine su_ [(1,_),(84,_),(85,_),(86,_),(87,_),(6,_),(7,_),(120,_)] ?_
           refine cT_ ?_
           iterate 11 refine s1_ ?_
           refine ⟨_,S,⟨_,_,rfl,rfl,rfl⟩,hT1.trans less_,?_⟩
           exact ⟨by rw [chkD_no (hwn (fun h=>absurd (hwp.1 h).2.1 (by omega)))];rfl,rfl⟩
          ·by_cases q9:w.2.2.size=64
           ·refine s1_ ?_
            refine AWP.draw [(0,true),(1,true),(2,true),(3,true),(4,true),(5,true),(6,true),(7,true),(8,true),(9,true),(10,true),(11,true),(12,true),(13,true),(14,true),(15,true),(16,true),(17,true),(18,true),(19,true),(20,true),(21,true),(22,true),(23,true),(24,true),(25,true)] [] mixed (by kernel_rfl) ?_
            iterate 15 refine s1_ ?_
            first|refine k_d ?_|refine dL (hc:=Calm.loadK ty_plain_9 rfl ((kn_at hkp 1 rfl).less less_)) (h:=?_)
            iterate 12 refine s1_ ?_
            refine su_ [(1,_),(84,_),(85,_),(86,_),(87,_),(6,_),(7,_),(120,_)] ?_
            refine cF_ ?_
            iterate 8 refine s1_ ?_
            refine ⟨i+1,?_,?_,?_,?_⟩
            all_goals (try dsimp only)
            ·exact ⟨rfl,rfl,rfl,rfl,trivial⟩
            ·exact less_
            ·exact ⟨hc,hall' (hwp.2 ⟨by omega,by omega,q9⟩)⟩
            ·omega
           ·refine s1_ ?_
            refine AWP.draw [(0,true),(1,true),(2,true),(3,true),(4,true),(5,true),(6,true),(7,true),(8,true),(9,true),(10,true),(11,true),(12,true),(13,true),(14,true),(15,true),(16,true),(17,true),(18,true),(19,true),(20,true),(21,true),(22,true),(23,true),(24,true),(25,true)] [] mixed (by kernel_rfl) ?_
            iterate 15 refine s1_ ?_
            first|refine k_d ?_|refine dL (hc:=Calm.loadK ty_plain_9 rfl ((kn_at hkp 1 rfl).less less_)) (h:=?_)
            iterate 12 refine s1_ ?_
            refine su_ [(1,_),(84,_),(85,_),(86,_),(87,_),(6,_),(7,_),(120,_)] ?_
            refine cT_ ?_
            iterate 11 refine s1_ ?_
            refine ⟨_,S,⟨_,_,rfl,rfl,rfl⟩,hT1.trans less_,?_⟩
            exact ⟨by rw [chkD_no (hwn (fun h=>q9 (hwp.1 h).2.2))];rfl,rfl⟩
        ·have hfn:fnd ext w.1 = -1:=by unfold fnd;rw [if_neg q6]
         rw [hfn]
         refine s1_ ?_
         refine AWP.draw [(0,true),(1,true),(2,true),(3,true),(4,true),(5,true),(6,true),(7,true),(8,true),(9,true),(10,true),(11,true),(12,true),(13,true),(14,true),(15,true),(16,true),(17,true),(18,true),(19,true),(20,true),(21,true),(22,true),(23,true),(24,true),(25,true)] [] mixed (by kernel_rfl) ?_
         iterate 28 refine s1_ ?_
         refine su_ [(1,_),(84,_),(85,_),(86,_),(87,_),(6,_),(7,_),(120,_)] ?_
         refine cT_ ?_
         iterate 11 refine s1_ ?_
         refine ⟨_,S,⟨_,_,rfl,rfl,rfl⟩,hT1.trans less_,?_⟩
         exact ⟨by rw [chkD_no (hwn (fun h=>q6 (hwh h)))];rfl,rfl⟩
       ·have hc:i=waits.length:=by have:=of_decide_eq_false hc;omega
        iterate 11 refine s1_ ?_
        refine ⟨_,S,⟨_,_,rfl,rfl,rfl⟩,hT1.trans less_,?_⟩
        exact ⟨by rw [chkD_yes ⟨by simp only;omega,by simp only;omega,by simp only;omega,by simp only;omega,q5,fun w hw=>by obtain ⟨j,hj,rfl⟩:=List.getElem_of_mem hw;exact hall j hj (by have h':j<waits.length:=hj;omega)⟩];rfl,rfl⟩
end Go.Proofs.YtceikpipmcadmaaGreatDoor
namespace Go.Proofs.YtceikpipmcadmaaGreatDoor
open Go.RowKit
open Mv Disk
set_option maxRecDepth 4000
/-- A disk is handed back, in memory that has grown. -/
def DkOut (d : D) (S : Mem) (r : Value) (S' : Mem) : Prop := S.Less S' ∧ DkR S' r d
theorem rd_CopyW (v : Value) (d : D) (S : Mem) (hd : DkR S v d) (hz : Dz d) : ACall Tryz.prog 10 #[v] S (DkOut d S) :=
 (rd_Copy v d S hd hz.el hz.wl).mono fun r S' ⟨oE,oW,hok,hr,hS⟩=>by
  subst hr hS
  exact ⟨hok.less,hok.dk (Nat.le_trans hz.el (by decide)) (Nat.le_trans hz.wl (by decide))⟩
theorem rd_power (v : Value) (d : D) (S : Mem) (hd : DkR S v d) (hz : Dz d) :
  ACall Tryz.prog 105 #[v] S fun r S'=>r = .int .i64 (openD d).2∧S'=S:=by
 have hcheck:=fun M h=>rd_Check v d M h hz
 obtain ⟨pe,ce,pw,cw,rfl,hE,hW⟩:=id hd
 unfold openD
 rcases chkD_or d with ⟨hk,hR⟩ | ⟨hk,hR⟩
 ·rw [if_pos hk]
  refine ACall.enter (rs:=[.tmp 2]) 8 [(0,.agg #[.int .i64 d.size,.slice pe d.ext.length ce,.slice pw d.waits.length cw,.int .i64 d.fuse,.bool d.down])] Tryz.func105 rfl rfl (Nat.le_of_ble_eq_true rfl) rfl ⟨rfl,trivial⟩ ?_
  iterate 2 refine s1_ ?_
  refine k_b5 rfl ?_
  intro b1 f1
  have g1:=f1
  repeat ((with_reducible replace g1:=fresh_set g1);obtain ⟨g1,_⟩:=g1)
  refine nl_ ?_
  iterate 7 refine s1_ ?_
  refine ca_ rfl (hcheck _ (hd.less less_)) ?_
  rintro _ S1 ⟨rfl,h1⟩
  rw [h1,hk];clear h1 S1
  iterate 3 refine s1_ ?_
  refine su_ [(0,_),(1,_),(2,_),(5,_)] ?_
  refine cF_ ?_
  iterate 9 refine s1_ ?_
  refine su_ [(0,_),(1,_),(2,_),(5,_),(7,_)] ?_
  refine AWP.condB rfl (fun hb=>?_) (fun hb=>?_)
  ·iterate 7 refine s1_ ?_
   refine ⟨_,S,⟨_,_,rfl,rfl,rfl⟩,less_,?_⟩
   exact ⟨by rw [if_pos hb];rfl,rfl⟩
  ·iterate 8 refine s1_ ?_
   refine ⟨_,S,⟨_,_,rfl,rfl,rfl⟩,less_,?_⟩
   exact ⟨by rw [if_neg (Bool.eq_false_iff.1 hb)];rfl,rfl⟩
 ·rw [if_neg (by rw [hk];decide)]
  refine ACall.enter (rs:=[.tmp 2]) 8 [(0,.agg #[.int .i64 d.size,.slice pe d.ext.length ce,.slice pw d.waits.length cw,.int .i64 d.fuse,.bool d.down])] Tryz.func105 rfl rfl (Nat.le_of_ble_eq_true rfl) rfl ⟨rfl,trivial⟩ ?_
  iterate 2 refine s1_ ?_
  refine k_b5 rfl ?_
  intro b1 f1
  have g1:=f1
  repeat ((with_reducible replace g1:=fresh_set g1);obtain ⟨g1,_⟩:=g1)
  refine nl_ ?_
  iterate 7 refine s1_ ?_
  refine ca_ rfl (hcheck _ (hd.less less_)) ?_
  rintro _ S1 ⟨rfl,h1⟩
  rw [h1,hk];clear h1 S1
  iterate 3 refine s1_ ?_
  refine su_ [(0,_),(1,_),(2,_),(5,_)] ?_
  refine cT_ ?_
  iterate 7 refine s1_ ?_
  refine ⟨_,S,⟨_,_,rfl,rfl,rfl⟩,less_,?_⟩
  exact ⟨rfl,rfl⟩
noncomputable def asD (d : D) (why : Int) : D × Int := if why = 2 ∧ chkD d ≠ 0 then (D0, 2) else (d, why)
theorem asD_ok {d : D} (h : Right d) (why : Int) : asD d why = (d, why) := by unfold asD; rw [if_neg (fun q => q.2 (chkD_yes h))]
theorem asD_no {d : D} (h : ¬ Right d) : asD d 2 = (D0, 2) := by unfold asD; rw [if_pos ⟨rfl, by rw [chkD_no h]; decide⟩]
set_option maxHeartbeats 1000000 in
theorem rd_as (v : Value) (d : D) (why : Int) (S : Mem) (hd : DkR S v d) (hz : Dz d) :
  ACall Tryz.prog 142 #[v,.int .i64 why] S (DkRes (asD d why) S):=by
 have hcheck:=fun M h=>rd_Check v d M h hz
 have hcopy:=rd_CopyW v d S hd hz
 obtain ⟨pe,ce,pw,cw,rfl,hE,hW⟩:=id hd
 unfold asD
 by_cases q:why=2
 ·subst q
  rcases chkD_or d with ⟨hk,hR⟩ | ⟨hk,hR⟩
  ·rw [if_neg (fun q=>q.2 hk)]
   refine ACall.enter (rs:=[.cell 4 25,.tmp 5]) 18 [(0,.agg #[.int .i64 d.size,.slice pe d.ext.length ce,.slice pw d.waits.length cw,.int .i64 d.fuse,.bool d.down]),(1,.int .i64 2)] Tryz.func142 rfl rfl (Nat.le_of_ble_eq_true rfl) rfl ⟨rfl,rfl,trivial⟩ ?_
   iterate 2 refine s1_ ?_
   refine k_b5 rfl ?_
   intro b2 f2
   have g2:=f2
   repeat ((with_reducible replace g2:=fresh_set g2);obtain ⟨g2,_⟩:=g2)
   refine nl_ ?_
   refine ARun.alloc (lit_lt rfl) ty_zero_25 ?_
   intro b4 f4
   have g4:=f4
   repeat ((with_reducible replace g4:=fresh_set g4);obtain ⟨g4,_⟩:=g4)
   refine nl_ ?_
   iterate 10 refine s1_ ?_
   refine ARun.callG 2 true 8 rfl (lit_lt rfl) rfl (lit_lt rfl) go_93 rfl (hcheck _ (hd.less less_)) ?_
   rintro _ S1 ⟨rfl,h1⟩
   rw [h1,hk];clear h1 S1
   iterate 4 refine s1_ ?_
   refine su_ [(0,_),(1,_),(2,_),(4,_),(5,_),(12,_)] ?_
   refine cF_ ?_
   iterate 5 refine s1_ ?_
   refine ca_ rfl ((hcopy.frame f2).frame f4) ?_
   rintro _ S1 ⟨Sa,⟨M,⟨hSM,hdk⟩,fa,hSa⟩,fb,h1⟩
   rw [h1,hSa];rw [hSa] at fb;clear h1 S1 hSa Sa
   obtain ⟨fbm,_⟩:=fresh_set fb
   obtain ⟨qe,de,qw,dw,rfl,_⟩:=id hdk
   iterate 5 refine s1_ ?_
   refine su_ [(0,_),(1,_),(2,_),(4,_),(5,_),(12,_)] ?_
   refine s1_ ?_
   refine ⟨_,M,⟨_,_,_,rfl,.inr ⟨ty_agg_25,[_,_,_,_,_],ty_size_25,rds_,rfl⟩,⟨_,_,rfl,rfl,rfl⟩,rfl⟩,less_,?_⟩
   exact ⟨_,rfl,hSM,hdk⟩
  ·rw [if_pos ⟨rfl,by rw [hk];decide⟩]
   refine ACall.enter (rs:=[.cell 4 25,.tmp 5]) 18 [(0,.agg #[.int .i64 d.size,.slice pe d.ext.length ce,.slice pw d.waits.length cw,.int .i64 d.fuse,.bool d.down]),(1,.int .i64 2)] Tryz.func142 rfl rfl (Nat.le_of_ble_eq_true rfl) rfl ⟨rfl,rfl,trivial⟩ ?_
   iterate 2 refine s1_ ?_
   refine k_b5 rfl ?_
   intro b2 f2
   have g2:=f2
   repeat ((with_reducible replace g2:=fresh_set g2);obtain ⟨g2,_⟩:=g2)
   refine nl_ ?_
   refine ARun.alloc (lit_lt rfl) ty_zero_25 ?_
   intro b4 f4
   have g4:=f4
   repeat ((with_reducible replace g4:=fresh_set g4);obtain ⟨g4,_⟩:=g4)
   refine nl_ ?_
   iterate 10 refine s1_ ?_
   refine ARun.callG 2 true 8 rfl (lit_lt rfl) rfl (lit_lt rfl) go_93 rfl (hcheck _ (hd.less less_)) ?_
   rintro _ S1 ⟨rfl,h1⟩
   rw [h1,hk];clear h1 S1
   iterate 4 refine s1_ ?_
   refine su_ [(0,_),(1,_),(2,_),(4,_),(5,_),(12,_)] ?_
   refine cT_ ?_
   iterate 8 refine s1_ ?_
   refine su_ [(0,_),(1,_),(2,_),(4,_),(5,_),(12,_)] ?_
   iterate 2 refine s1_ ?_
   refine ⟨_,S,⟨_,_,_,rfl,.inr ⟨ty_agg_25,[_,_,_,_,_],ty_size_25,rds_,rfl⟩,⟨_,_,rfl,rfl,rfl⟩,rfl⟩,less_,?_⟩
   exact ⟨_,rfl,Mem.Less.refl _,dkR_zero S⟩
 ·rw [if_neg (fun h=>q h.1)]
  refine ACall.enter (rs:=[.cell 4 25,.tmp 5]) 18 [(0,.agg #[.int .i64 d.size,.slice pe d.ext.length ce,.slice pw d.waits.length cw,.int .i64 d.fuse,.bool d.down]),(1,.int .i64 why)] Tryz.func142 rfl rfl (Nat.le_of_ble_eq_true rfl) rfl ⟨rfl,rfl,trivial⟩ ?_
  iterate 2 refine s1_ ?_
  refine k_b5 rfl ?_
  intro b2 f2
  have g2:=f2
  repeat ((with_reducible replace g2:=fresh_set g2);obtain ⟨g2,_⟩:=g2)
  refine nl_ ?_
  refine ARun.alloc (lit_lt rfl) ty_zero_25 ?_
  intro b4 f4
  have g4:=f4
  repeat ((with_reducible replace g4:=fresh_set g4);obtain ⟨g4,_⟩:=g4)
  refine nl_ ?_
  iterate 15 refine s1_ ?_
  refine su_ [(0,_),(1,_),(2,_),(4,_),(5,_),(12,_)] ?_
  refine cF_ ?_
  iterate 5 refine s1_ ?_
  refine ca_ rfl ((hcopy.frame f2).frame f4) ?_
  rintro _ S1 ⟨Sa,⟨M,⟨hSM,hdk⟩,fa,hSa⟩,fb,h1⟩
  rw [h1,hSa];rw [hSa] at fb;clear h1 S1 hSa Sa
  obtain ⟨fbm,_⟩:=fresh_set fb
  obtain ⟨qe,de,qw,dw,rfl,_⟩:=id hdk
  iterate 5 refine s1_ ?_
  refine su_ [(0,_),(1,_),(2,_),(4,_),(5,_),(12,_)] ?_
  refine s1_ ?_
  refine ⟨_,M,⟨_,_,_,rfl,.inr ⟨ty_agg_25,[_,_,_,_,_],ty_size_25,rds_,rfl⟩,⟨_,_,rfl,rfl,rfl⟩,rfl⟩,less_,?_⟩
  exact ⟨_,rfl,hSM,hdk⟩
theorem rds_ownE {S : Mem} {b : Nat} {r : Blk} {cs : List Value} (h : S.own b = some r) (e : r.cells = cs) : S.rds ⟨b, 0, none⟩ cs := by rw [← e]; exact rds_own h
theorem zero_cells (n : Nat) : madeL [.int .u8 0] ((64 * (n : Int)).toNat * 1) = cellsB (List.replicate (64 * n) 0) := by
 rw [madeL_one,show (64*(n:Int)).toNat*1=64*n from by omega]
 simp [cellsB,nb]
theorem rd_Zeros (n : Nat) (S : Mem) (hn : n ≤ 16384) : ACall Tryz.prog 144 #[.int .i64 (n : Int)] S fun r S' => r = .string (zeros n) ∧ S' = S := by
 refine ACall.enter (rs:=[.tmp 2]) 7 [(0,.int .i64 (n:Int))] Tryz.func144 rfl rfl (Nat.le_of_ble_eq_true rfl) rfl ⟨rfl,trivial⟩ ?_
 iterate 9 refine s1_ ?_
 refine ARun.makeSlice (lit_lt rfl) ty_sl_61 rfl rfl (by omega) (by omega) (by omega) (by omega) ?_
 intro b5 f5
 have g5:=f5
 repeat ((with_reducible replace g5:=fresh_set g5);obtain ⟨g5,_⟩:=g5)
 refine rC (Calm.toStr ty_bytes_61 ty_str_9 rfl (l:=List.replicate (64*n) 0) (by rw [List.length_replicate];omega) (rds_ownE (Mem.own_set_same S b5 _) (zero_cells n))) ?_
 iterate 3 refine s1_ ?_
 refine su_ [(0,_),(2,_)] ?_
 refine s1_ ?_
 refine ⟨_,S,⟨_,_,rfl,rfl,rfl⟩,less_,?_⟩
 exact ⟨rfl,rfl⟩
end Go.Proofs.YtceikpipmcadmaaGreatDoor
namespace Go.Proofs.YtceikpipmcadmaaGreatDoor
open Go.RowKit
namespace Mv
section
variable {P : Program} {N : Nat} {l : List Oper} {W : List Nat} {S0 : Mem} {K : Env → Mem → Prop}
/-- From here on, whatever comes up. -/
def DG (P : Program) (N : Nat) (l : List Oper) (W : List Nat) (S0 : Mem) (K : Env → Mem → Prop) (n : Nat) (listed : Array Bool) (E : Env) (S : Mem) : Prop :=
  ∀ w0 a w, Closed l.toArray listed → Good N E a → View S w → Step S0 w0 S w → wpAnyG P l.toArray (Q0 N K S0 w0) (fun i => W.contains i) (View S0) n listed a w
theorem DG.nil {listed : Array Bool} {E : Env} {S : Mem} (hr : Region.ready .any l.toArray listed = []) (h : K E S) : DG P N l W S0 K 0 listed E S :=
 fun w0 a w _ g hv hs=>⟨hr,E,S,h,g,hs⟩
/-- Each of those that may come up. -/
theorem DG.fork {n : Nat} {listed : Array Bool} {E : Env} {S : Mem} (is : List Nat) (hr : (Region.ready .any l.toArray listed == is) = true) (hne : is ≠ [])
  (h:∀ i ∈ is,∃ o,l[i]?=some o∧AOp P N l.toArray o (fun E' S'=>(W.contains i=false→S0.Less S')∧DG P N l W S0 K n (listed.setIfInBounds i true) E' S') E S):DG P N l W S0 K (n+1) listed E S:=fun w0 a w hcl g hv hs=>by
 have hr:=beq_iff_eq.1 hr
 refine ⟨fun h0=>absurd (hr.symm.trans h0) hne,fun j hj=>?_⟩
 have hj':=hj
 rw [hr] at hj
 obtain ⟨o,ho,hop⟩:=h j hj
 have h1:=hop a w g hv
 unfold wpOp
 have ho':l.toArray[j]?=some o:=by simpa using ho
 simp only [ho']
 have next:∀ a1 w1,Post N (fun E' S'=>(W.contains j=false→S0.Less S')∧DG P N l W S0 K n (listed.setIfInBounds j true) E' S') S w a1 w1→(W.contains j=false→View S0 w→View S0 w1)∧wpAnyG P l.toArray (Q0 N K S0 w0) (fun i=>W.contains i) (View S0) n (listed.setIfInBounds j true) a1 w1:=fun a1 w1 ⟨E1,S1,⟨k1,k2⟩,g1,s1⟩ =>
  ⟨fun hw _=>s1.view.less (k1 hw),k2 w0 a1 w1 (closed_put hcl hj') g1 s1.view (hs.trans s1)⟩
 split
 ·rename_i hw;rw [if_pos hw] at h1
  exact .inl (upon_noQ (Oper.wp_mono next h1))
 ·rename_i hw;rw [if_neg hw] at h1
  exact next _ _ h1
theorem DG.fork1 {n : Nat} {listed : Array Bool} {E : Env} {S : Mem} (i : Nat) (hr : (Region.ready .any l.toArray listed == [i]) = true)
  (h:∃ o,l[i]?=some o∧AOp P N l.toArray o (fun E' S'=>(W.contains i=false→S0.Less S')∧DG P N l W S0 K n (listed.setIfInBounds i true) E' S') E S):DG P N l W S0 K (n+1) listed E S :=
 DG.fork [i] hr (by simp) fun j hj=>by
  have e:j=i:=by simpa using hj
  rw [e];exact h
theorem DG.fork2 {n : Nat} {listed : Array Bool} {E : Env} {S : Mem} (i j : Nat) (hr : (Region.ready .any l.toArray listed == [i, j]) = true)
  (h:∃ o,l[i]?=some o∧AOp P N l.toArray o (fun E' S'=>(W.contains i=false→S0.Less S')∧DG P N l W S0 K n (listed.setIfInBounds i true) E' S') E S)
  (k:∃ o,l[j]?=some o∧AOp P N l.toArray o (fun E' S'=>(W.contains j=false→S0.Less S')∧DG P N l W S0 K n (listed.setIfInBounds j true) E' S') E S):DG P N l W S0 K (n+1) listed E S :=
 DG.fork [i,j] hr (by simp) fun q hq=>by
  rcases List.mem_cons.1 hq with rfl | hq
  ·exact h
  ·obtain rfl:q=j:=by simpa using hq
   exact k
/-- One that only looks is taken first. -/
theorem DG.first {n : Nat} {listed : Array Bool} {E : Env} {S : Mem} (i : Nat) (hsel : Region.noSelect l.toArray = true) (hc1 : mayFirst l W listed i = true)
  (h:∃ o d v,l[i]?=some o∧o.dst=some d∧d<N∧(pureOp o=true∨S0.Less S)∧ACalmG P N l.toArray o E (if pureOp o then noMem else S0) v∧DG P N l W S0 K n (listed.setIfInBounds i true) ((d,v) :: E) S):DG P N l W S0 K (n+1) listed E S:=fun w0 a w hcl g hv hs=>by
 obtain ⟨o,d,v,ho,hd,hn,hless,hcalm,hrest⟩:=h
 simp only [mayFirst,Bool.and_eq_true,Bool.or_eq_true] at hc1
 obtain ⟨⟨hr,hf⟩,hp⟩:=hc1
 have ho':l.toArray[i]?=some o:=by simpa using ho
 have hri:i ∈ Region.ready .any l.toArray listed:=by simpa using hr
 let D:World→Prop:=fun w'=>if pureOp o=true then True else View S0 w'
 have hDw:D w:=by
  simp only [D]
  split
  ·trivial
  ·rename_i hx
   exact hv.less (hless.resolve_left hx)
 have hmem:∀ w',D w'→View (if pureOp o then noMem else S0) w':=fun w' h=>by
  simp only [D] at h
  split
  ·exact view_noMem _
  ·rename_i hx;rw [if_neg hx] at h;exact h
 refine wpAnyG_first (D:=D) (v:=v) ho' (Region.noSelect_spec hsel) (fun c a w h=>h) ?_ n listed a w hcl (Region.free_spec ho' hf) hri ?_ hDw ?_
 ·intro j w1 w2 listed' hcl' hun hj hD1 hpres
  simp only [D] at hD1 ⊢
  split
  ·trivial
  ·rename_i hx
   rw [if_neg hx] at hD1
   refine hpres ?_ hD1
   rcases hp with hp | hp
   ·rw [ho] at hp;exact absurd (by simpa using hp) hx
   ·cases hwc:W.contains j with
    | false=>rfl
    | true =>
     have h1:=List.all_eq_true.1 hp j (by simpa using hwc)
     obtain ⟨hju,oj,hoj,hall⟩:=mem_ready.1 hj
     have h2:=waitsFor_spec h1 listed' hcl' fun o2 ho2 e he hb=>by
      obtain rfl:oj=o2:=Option.some.inj (hoj.symm.trans ho2)
      exact hall e he hb
     rcases Nat.lt_or_ge i listed'.size with hlt | hge
     ·simp [hlt] at hun h2;rw [hun] at h2;cases h2
     ·simp [Array.getElem?_eq_none hge] at h2
 ·by_cases hw:Region.wanted o (yielded l.toArray a.tmps)=true
  ·refine .inl ⟨hw,fun w' hD'=>?_⟩
   rcases hcalm a w' g (hmem w' hD') with h1 | h1
   ·exact h1.2
   ·rw [hw] at h1;cases h1.1
  ·rcases hcalm a w g (hmem w hDw) with h1 | h1
   ·exact absurd h1.1 hw
   ·exact .inr h1
 ·rw [hd]
  exact hrest w0 _ w (closed_put hcl hri) (g.put hn v) hv hs
theorem DG.pure {n : Nat} {listed : Array Bool} {E : Env} {S : Mem} {o : Oper} {d : Nat} {v : Value} (i : Nat) (hsel : Region.noSelect l.toArray = true) (hc1 : mayFirst l W listed i = true) (ho : l[i]? = some o) (hp : pureOp o = true) (hg : o.guard = none) (hd : o.dst = some d) (hn : d < N)
  (hc:∀ S',ACalm P N o E S' v) (h:DG P N l W S0 K n (listed.setIfInBounds i true) ((d,v) :: E) S):DG P N l W S0 K (n+1) listed E S :=
 DG.first i hsel hc1 ⟨o,d,v,ho,hd,hn,.inl hp,fun a w g hv=>.inl ⟨by simp [Region.wanted,hg],hc _ a w g hv⟩,h⟩
theorem DG.look {n : Nat} {listed : Array Bool} {E : Env} {S : Mem} {o : Oper} {d : Nat} {v : Value} (i : Nat) (hsel : Region.noSelect l.toArray = true) (hc1 : mayFirst l W listed i = true) (ho : l[i]? = some o) (hp : pureOp o = false) (hg : o.guard = none) (hd : o.dst = some d) (hn : d < N) (hl : S0.Less S)
  (hc:ACalm P N o E S0 v) (h:DG P N l W S0 K n (listed.setIfInBounds i true) ((d,v) :: E) S):DG P N l W S0 K (n+1) listed E S :=
 DG.first i hsel hc1 ⟨o,d,v,ho,hd,hn,.inr hl,fun a w g hv=>.inl ⟨by simp [Region.wanted,hg],by rw [hp] at hv;exact hc a w g hv⟩,h⟩
theorem DG.only {n : Nat} {listed : Array Bool} {E : Env} {S : Mem} {o : Oper} (i : Nat) (hr : (Region.ready .any l.toArray listed == [i]) = true) (ho : l[i]? = some o)
  (h:ARun P N l.toArray [o] (fun E' S'=>(W.contains i=false→S0.Less S')∧DG P N l W S0 K n (listed.setIfInBounds i true) E' S') E S):DG P N l W S0 K (n+1) listed E S:=DG.fork1 i hr ⟨o,ho,h⟩
theorem DG.two {n : Nat} {listed : Array Bool} {E : Env} {S : Mem} {o o' : Oper} (i j : Nat) (hr : (Region.ready .any l.toArray listed == [i, j]) = true) (ho : l[i]? = some o)
  (h:ARun P N l.toArray [o] (fun E' S'=>(W.contains i=false→S0.Less S')∧DG P N l W S0 K n (listed.setIfInBounds i true) E' S') E S) (ho':l[j]?=some o')
  (h':ARun P N l.toArray [o'] (fun E' S'=>(W.contains j=false→S0.Less S')∧DG P N l W S0 K n (listed.setIfInBounds j true) E' S') E S):DG P N l W S0 K (n+1) listed E S:=DG.fork2 i j hr ⟨o,ho,h⟩ ⟨o',ho',h'⟩
theorem DG.end_ {listed : Array Bool} {E : Env} {S : Mem} (hr : (Region.ready .any l.toArray listed).isEmpty = true) (h : K E S) : DG P N l W S0 K 0 listed E S := DG.nil (by simpa using hr) h
theorem AWP.drawG {id : Nat} {Q : Exit → Env → Mem → Prop} {E : Env} {S : Mem} (W : List Nat) (hm : P.follows .mixedOrders = true)
  (h:DG P N l W S (Q .normal) l.length (Array.replicate l.length false) E S):AWP P N (.region id l.toArray true) Q E S:=fun a w g hv=>by
 refine wp_mono (Q:=Q0 N (Q .normal) S w) ?_ (fun e a' w' x=>by cases e <;> first | exact x | exact x.elim)
 refine wp_region_any hm ?_
 refine wpAny_of_G (W:=fun i=>W.contains i) (C:=View S) _ _ _ _ ?_
 have hst:Step S w S { w with drawn:=w.drawn+1 }:=Step.drawn hv _
 have:=h w a _ (closed_start _ _) g hst.view hst
 simpa using this
end
end Mv
end Go.Proofs.YtceikpipmcadmaaGreatDoor
namespace Go.Proofs.YtceikpipmcadmaaGreatDoor
open Go.RowKit
open Mv Disk
set_option maxRecDepth 4000
section
variable {P : Program} {N : Nat} {E : Env} {S : Mem} {dst : Option Nat} {ty : TypeId} {pos : String} {aft : Array Edge} {gd : Option (Nat × Bool)}
theorem Mv.Calm.sliceG {T e : TypeId} {x : Operand} {lo hi : Option Operand} {a : Option Addr} {len cap n l h : Nat} (hT : P.underlying T = some (.slice e)) (he : sizeT P e = some n) (hx : ev E x = some (.slice a len cap))
  (hh:bnd E hi len cap h) (hl:bnd E lo 0 h l) :
  ACalm P N ⟨dst,.slice T x lo hi none,ty,pos,aft,gd⟩ E S (.slice (if cap=l then a else a.map (·.add (l*n))) (h-l) (cap-l)):=fun c w g hv=>by
 have e1:=run_bounds (P:=P) (isS:=true) g (bnd_none cap cap) (by simp) hh hl w
 simp only [Option.map_none] at e1
 simp only [execOp,g.ev hx,Instr.sliceAt,Sem.run_bind,run_underlying hT w,Instr.slice,e1,Result.andThen_ok,run_sizeT he w,Sem.run_pure,Option.map_none]
end
theorem sl_cut {α : Type} {n : Nat} {f : α → List Value} {S : Mem} {a : Option Addr} {cap : Nat} {l : List α} (hs : Sl n f S (.slice a l.length cap) l) {k h : Nat} (hk : k ≤ h) (hh : h ≤ l.length) :
  Sl n f S (.slice (if cap=k then a else a.map (·.add (k*n))) (h-k) (cap-k)) ((l.take h).drop k):=by
 obtain ⟨a',cap',e,h1,h2,h3⟩:=hs
 cases e
 have hl:((l.take h).drop k).length=h-k:=by simp;omega
 refine ⟨_,_,by rw [hl],by omega,by omega,?_⟩
 by_cases q:h=k
 ·left;exact List.eq_nil_of_length_eq_zero (by omega)
 ·right
  obtain ⟨b,off,e,hk'⟩:=h3.resolve_left (fun e=>by subst e;simp at hh;omega)
  subst e
  rw [if_neg (by omega)]
  refine ⟨b,off+k*n,by simp [addr_add],fun j hj=>?_⟩
  rw [List.getElem_drop,List.getElem_take]
  have:=hk' (k+j) (by omega)
  rwa [Nat.add_mul,← Nat.add_assoc] at this
theorem src_len {M : Mem} {v : Value} {m m' : Nat} {news : List Value} (h : Src M v m news) (e : m = m') : Src M v m' news := e ▸ h
theorem Mem.set_comm' (S : Mem) {b c : Nat} (r r' : Blk) (h : b ≠ c) : (S.set b r).set c r' = (S.set c r').set b r := by
 unfold Mem.set
 congr 1
 funext k
 by_cases e:k=c
 ·subst e;simp [Ne.symm h]
 ·simp [e]
theorem Mv.AppN.lessL {n : Nat} {M S S' : Mem} {o : Option (Nat × Nat)} {e : TypeId} {cs : List Value} (h : AppN n M S o e cs) (hl : S'.Less S) : AppN n M S' o e cs :=
 ⟨fun ho=>⟨(h.nil ho).1,hl.trans (h.nil ho).2⟩,fun b c ho=>⟨(h.own b c ho).1,hl.trans (h.own b c ho).2⟩⟩
theorem outN_lessM {n : Nat} {S S' : Mem} {o : Option (Nat × Nat)} {e : TypeId} {cs : List Value} (h : S.Less S') : (outN n S o e cs).Less (outN n S' o e cs) := by
 cases o with
 | none=>exact h
 | some z=>exact Less.set h _ _
set_option maxHeartbeats 1000000 in
theorem rd_with (v : Value) (l : List Ext) (x : Ext) (S : Mem) (hl : Sl 2 extF S v l) (hz : l.length ≤ 1048576) :
  ACall Tryz.prog 143 #[v,.agg #[.string x.1,.string x.2]] S (OwnR 2 extF extT (insAt l (pos l x.1) x) S):=by
 obtain ⟨a,cap,rfl,hl1,hl2,hl3⟩:=id hl
 refine ACall.enter (rs:=[.tmp 4]) 34 [(0,.slice a l.length cap),(1,.agg #[.string x.1,.string x.2])] Tryz.func143 rfl rfl (Nat.le_of_ble_eq_true rfl) rfl ⟨rfl,rfl,trivial⟩ ?_
 iterate 2 refine s1_ ?_
 refine ARun.boxA (cs:=[_,_]) (lit_lt rfl) rfl ?_
 intro b3 f3
 have g3:=f3
 repeat ((with_reducible replace g3:=fresh_set g3);obtain ⟨g3,_⟩:=g3)
 refine nl_ ?_
 iterate 10 refine s1_ ?_
 refine AWP.loop (X:=Nat) (fun i=>[(0,.slice a l.length cap),(3,.pointer (some ⟨b3,0,none⟩)),(5,.int .i64 i)]) (fun i=>S.set b3 ⟨extT,[.string x.1,.string x.2],2⟩) (fun i=>i≤l.length ∧ ∀ j (h:j<l.length),j<i→lt l[j].1 x.1=true) (fun i=>l.length-i) (0) ⟨rfl,rfl,rfl,trivial⟩ (Mem.Less.refl _) (⟨Nat.zero_le _,fun j _ h=>absurd h (Nat.not_lt_zero _)⟩) ?_
 rintro i ⟨hi,hall⟩
 (try dsimp only at *)
 by_cases hc:i<l.length
 ·obtain ⟨b,off,rfl,hk⟩:=hl3.resolve_left (fun e=>by subst e;simp at hc)
  have hki:=hk i hc
  unfold extF at hki
  have hki0:S.Knows ⟨b,off+i*2,none⟩ [.string l[i].1]:=kn_at hki 0 rfl
  by_cases q:lt l[i].1 x.1=true
  ·iterate 2 refine s1_ ?_
   refine AWP.draw [(0,true),(1,true),(2,true),(3,true),(4,true),(5,true),(6,true),(7,true),(8,true),(9,true),(10,true),(11,true),(12,true),(13,true)] [] mixed (by kernel_rfl) ?_
   iterate 9 refine s1_ ?_
   first|refine k_d ?_|refine dL (hc:=Calm.loadK ty_plain_9 rfl (hki0.less less_)) (h:=?_)
   iterate 2 refine s1_ ?_
   first|refine k_d ?_|refine dG (hc:=fun _=>Calm.bin rfl rfl (bin_bool (bin_str_lss _ _) q)) (h:=?_)
   iterate 3 refine s1_ ?_
   refine su_ [(0,_),(3,_),(5,_),(19,_)] ?_
   refine cT_ ?_
   iterate 10 refine s1_ ?_
   refine ⟨i+1,?_,?_,?_,?_⟩
   all_goals (try dsimp only)
   ·exact ⟨rfl,rfl,rfl,trivial⟩
   ·exact less_
   ·exact ⟨hc,fun j h hj=>by rcases Nat.lt_or_ge j i with h' | h';exact hall j h h';obtain rfl:j=i:=(by omega);exact q⟩
   ·omega
  ·iterate 2 refine s1_ ?_
   refine AWP.draw [(0,true),(1,true),(2,true),(3,true),(4,true),(5,true),(6,true),(7,true),(8,true),(9,true),(10,true),(11,true),(12,true),(13,true)] [] mixed (by kernel_rfl) ?_
   iterate 9 refine s1_ ?_
   first|refine k_d ?_|refine dL (hc:=Calm.loadK ty_plain_9 rfl (hki0.less less_)) (h:=?_)
   iterate 2 refine s1_ ?_
   first|refine k_d ?_|refine dG (hc:=fun _=>Calm.bin rfl rfl (bin_bool (bin_str_lss _ _) (Bool.eq_false_iff.2 q))) (h:=?_)
   iterate 3 refine s1_ ?_
   refine su_ [(0,_),(3,_),(5,_),(19,_)] ?_
   refine cF_ ?_
   have hp:pos l x.1=i:=pos_iff hi hall (fun h=>Bool.eq_false_iff.2 q)
   have hs1:=sl_cut hl (Nat.zero_le i) hi
   have hs2:=sl_cut hl hi (Nat.le_refl _)
   have c1:∀ v ∈ ([.string x.1,.string x.2] : List Value),v.oneCell'=true:=ext_one [x]
   have hSS0:S.Less (S.set b3 ⟨extT,[.string x.1,.string x.2],2⟩):=Mem.less_set _ _ _ f3.1
   have hc0:((l.take i).drop 0).flatMap extF=(l.take i).flatMap extF:=rfl
   have hfl:((l.take i).flatMap extF).length=i*2:=by rw [flat_length ext_len];simp;omega
   have hfl2:((l.take i).flatMap extF ++ [Value.string x.1,.string x.2]).length=(i+1)*2:=by rw [List.length_append,hfl];simp;omega
   have hlen:(insAt l (pos l x.1) x).length=i+1+(l.length-i):=by rw [ins_len (pos_le _ _)];omega
   have hcells:(insAt l (pos l x.1) x).flatMap extF=(l.take i).flatMap extF ++ [.string x.1,.string x.2] ++ ((l.take l.length).drop i).flatMap extF:=by rw [ins_flat,hp,List.take_length,List.append_assoc];rfl
   refine AWP.exit ?_
   repeat refine athen_exit ?_
   refine ain_same ?_
   refine athen_n ?_
   refine AWP.seq ?_
   refine AWP.drawG [7,11] mixed ?_
   refine DG.pure 1 (by kernel_rfl) (by kernel_rfl) rfl rfl rfl rfl (lit_lt rfl) (fun _=>Calm.move rfl) ?_
   refine DG.pure 2 (by kernel_rfl) (by kernel_rfl) rfl rfl rfl rfl (lit_lt rfl) (fun _=>Calm.move rfl) ?_
   refine DG.pure 3 (by kernel_rfl) (by kernel_rfl) rfl rfl rfl rfl (lit_lt rfl) (fun _=>Calm.sliceG (e:=extT) (n:=2) (l:=0) (h:=i) (by kernel_rfl) (by kernel_rfl) rfl ⟨_,_,rfl,Int.natCast_nonneg _,Int.ofNat_le.2 (Nat.le_trans hi hl1),rfl⟩ rfl) ?_
   refine DG.pure 8 (by kernel_rfl) (by kernel_rfl) rfl rfl rfl rfl (lit_lt rfl) (fun _=>Calm.move rfl) ?_
   refine DG.pure 9 (by kernel_rfl) (by kernel_rfl) rfl rfl rfl rfl (lit_lt rfl) (fun _=>Calm.move rfl) ?_
   refine DG.pure 10 (by kernel_rfl) (by kernel_rfl) rfl rfl rfl rfl (lit_lt rfl) (fun _=>Calm.sliceG (e:=extT) (n:=2) (l:=i) (h:=l.length) (by kernel_rfl) (by kernel_rfl) rfl rfl ⟨_,_,rfl,Int.natCast_nonneg _,Int.ofNat_le.2 hi,rfl⟩) ?_
   refine DG.look 5 (by kernel_rfl) (by kernel_rfl) rfl rfl rfl rfl (lit_lt rfl) (Mem.Less.refl _) (Calm.loadA (by kernel_rfl) (cs:=[.string x.1,.string x.2]) (by kernel_rfl) rfl (rds_own (Mem.own_set_same _ _ _))) ?_
   refine DG.two 0 6 (by kernel_rfl) rfl ?_ rfl ?_
   ·refine ARun.build0 (lit_lt rfl) ty_sl_22 ?_
    intro b22 f22
    refine arun_nil ⟨fun _=>Mem.less_set _ _ _ f22.1,?_⟩
    refine DG.two 4 6 (by kernel_rfl) rfl ?_ rfl ?_
    ·skip
     refine ARun.appendOK (n:=2) (o:=some (b22,0)) (k:=0) (m:=i) (cs:=[]) (lit_lt rfl) ty_sl_22 rfl rfl rfl (okO_own f22 (Nat.le_refl _)) (appN_self (S:=(S.set b3 ⟨extT,[.string x.1,.string x.2],2⟩)) (okO_own f22 (Nat.le_refl 0)) rfl) rfl (src_len ((hs1.less (hSS0.trans (Mem.less_set _ _ _ f22.1))).src ext_len) (by simp;omega)) (by rw [flat_length ext_len];simp;omega) (ext_one _) (by omega) (by omega) ?_
     intro o1 ho1
     rw [Nat.zero_add] at ho1 ⊢
     rw [List.nil_append,hc0]
     refine arun_nil ⟨fun _=>outN_over ho1,?_⟩
     refine DG.only 6 (by kernel_rfl) rfl ?_
     refine ARun.build1 (lit_lt rfl) ty_sl_22 rfl (by decide) (by decide) rfl rfl ?_
     intro b28 f28
     refine arun_nil ⟨fun _=>(outN_over ho1).trans (Mem.less_set _ _ _ f28.1),?_⟩
     refine DG.only 7 (by kernel_rfl) rfl ?_
     refine ARun.appendOK (n:=2) (o:=o1) (k:=i) (m:=1) (cs:=(l.take i).flatMap extF) (lit_lt rfl) ty_sl_22 rfl rfl hfl (ho1) ((appN_self ho1 hfl).temp f28) rfl (src_own (Mem.own_set_same _ _ _) List.prefix_rfl) rfl c1 (by omega) (by omega) ?_
     intro o2 ho2
     refine arun_nil ⟨fun h=>absurd h (by decide),?_⟩
     refine DG.only 11 (by kernel_rfl) rfl ?_
     refine ARun.appendOK (n:=2) (o:=o2) (k:=i+1) (m:=l.length-i) (cs:=(l.take i).flatMap extF ++ [.string x.1,.string x.2]) (lit_lt rfl) ty_sl_22 rfl rfl hfl2 ho2 (appN_self ho2 hfl2) rfl (src_len ((hs2.less (hSS0.trans (outN_over ho2))).src ext_len) (by simp)) (by rw [flat_length ext_len];simp) (ext_one _) (by omega) (by omega) ?_
     intro o3 ho3
     refine arun_nil ⟨fun h=>absurd h (by decide),?_⟩
     refine DG.pure 12 (by kernel_rfl) (by kernel_rfl) rfl rfl rfl rfl (lit_lt rfl) (fun _=>Calm.assign rfl) ?_
     refine DG.end_ (by kernel_rfl) ?_
     refine athen_n ?_
     refine AWP.ret ?_
     refine ⟨_,outN 2 S o3 extT ((insAt l (pos l x.1) x).flatMap extF),⟨_,_,rfl,rfl,rfl⟩,?_,?_⟩
     ·rw [hcells];exact outN_lessM hSS0
     ·rw [← hlen] at ho3 ⊢;exact ⟨o3,ho3.unset,rfl,rfl⟩
    ·skip
     refine ARun.build1 (lit_lt rfl) ty_sl_22 rfl (by decide) (by decide) rfl rfl ?_
     intro b28 f28
     refine arun_nil ⟨fun _=>(Mem.less_set _ _ _ f22.1).trans (Mem.less_set _ _ _ f28.1),?_⟩
     obtain ⟨g28,n28⟩:=fresh_set f28
     have g22:Fresh ((S.set b3 ⟨extT,[.string x.1,.string x.2],2⟩).set b28 ⟨extT,[.string x.1,.string x.2],2⟩) b22:=fresh_more f22 (Ne.symm n28)
     refine DG.only 4 (by kernel_rfl) rfl ?_
     rw [Mem.set_comm' _ _ _ (Ne.symm n28)]
     refine ARun.appendOK (n:=2) (o:=some (b22,0)) (k:=0) (m:=i) (cs:=[]) (lit_lt rfl) ty_sl_22 rfl rfl rfl (okO_own g22 (Nat.le_refl _)) (appN_self (S:=((S.set b3 ⟨extT,[.string x.1,.string x.2],2⟩).set b28 ⟨extT,[.string x.1,.string x.2],2⟩)) (okO_own g22 (Nat.le_refl 0)) rfl) rfl (src_len ((hs1.less ((hSS0.trans (Mem.less_set _ _ _ g28.1)).trans (Mem.less_set _ _ _ g22.1))).src ext_len) (by simp;omega)) (by rw [flat_length ext_len];simp;omega) (ext_one _) (by omega) (by omega) ?_
     intro o1 ho1
     rw [Nat.zero_add] at ho1 ⊢
     rw [List.nil_append,hc0]
     refine arun_nil ⟨fun _=>(Mem.less_set _ _ _ g28.1).trans (outN_over ho1),?_⟩
     refine DG.only 7 (by kernel_rfl) rfl ?_
     refine ARun.appendOK (n:=2) (o:=o1) (k:=i) (m:=1) (cs:=(l.take i).flatMap extF) (lit_lt rfl) ty_sl_22 rfl rfl hfl (ho1.unset) ((appN_self ho1 hfl).lessL (Mem.less_set _ _ _ g28.1)) rfl (src_own ((outN_over ho1).1 _ _ (Mem.own_set_same _ _ _)) List.prefix_rfl) rfl c1 (by omega) (by omega) ?_
     intro o2 ho2
     refine arun_nil ⟨fun h=>absurd h (by decide),?_⟩
     refine DG.only 11 (by kernel_rfl) rfl ?_
     refine ARun.appendOK (n:=2) (o:=o2) (k:=i+1) (m:=l.length-i) (cs:=(l.take i).flatMap extF ++ [.string x.1,.string x.2]) (lit_lt rfl) ty_sl_22 rfl rfl hfl2 ho2 (appN_self ho2 hfl2) rfl (src_len ((hs2.less (hSS0.trans (outN_over ho2))).src ext_len) (by simp)) (by rw [flat_length ext_len];simp) (ext_one _) (by omega) (by omega) ?_
     intro o3 ho3
     refine arun_nil ⟨fun h=>absurd h (by decide),?_⟩
     refine DG.pure 12 (by kernel_rfl) (by kernel_rfl) rfl rfl rfl rfl (lit_lt rfl) (fun _=>Calm.assign rfl) ?_
     refine DG.end_ (by kernel_rfl) ?_
     refine athen_n ?_
     refine AWP.ret ?_
     refine ⟨_,outN 2 S o3 extT ((insAt l (pos l x.1) x).flatMap extF),⟨_,_,rfl,rfl,rfl⟩,?_,?_⟩
     ·rw [hcells];exact outN_lessM hSS0
     ·rw [← hlen] at ho3 ⊢;exact ⟨o3,ho3.unset,rfl,rfl⟩
   ·refine ARun.build1 (lit_lt rfl) ty_sl_22 rfl (by decide) (by decide) rfl rfl ?_
    intro b28 f28
    refine arun_nil ⟨fun _=>Mem.less_set _ _ _ f28.1,?_⟩
    refine DG.only 0 (by kernel_rfl) rfl ?_
    refine ARun.build0 (lit_lt rfl) ty_sl_22 ?_
    intro b22 f22
    refine arun_nil ⟨fun _=>(Mem.less_set _ _ _ f28.1).trans (Mem.less_set _ _ _ f22.1),?_⟩
    refine DG.only 4 (by kernel_rfl) rfl ?_
    refine ARun.appendOK (n:=2) (o:=some (b22,0)) (k:=0) (m:=i) (cs:=[]) (lit_lt rfl) ty_sl_22 rfl rfl rfl (okO_own f22 (Nat.le_refl _)) (appN_self (S:=((S.set b3 ⟨extT,[.string x.1,.string x.2],2⟩).set b28 ⟨extT,[.string x.1,.string x.2],2⟩)) (okO_own f22 (Nat.le_refl 0)) rfl) rfl (src_len ((hs1.less ((hSS0.trans (Mem.less_set _ _ _ f28.1)).trans (Mem.less_set _ _ _ f22.1))).src ext_len) (by simp;omega)) (by rw [flat_length ext_len];simp;omega) (ext_one _) (by omega) (by omega) ?_
    intro o1 ho1
    rw [Nat.zero_add] at ho1 ⊢
    rw [List.nil_append,hc0]
    refine arun_nil ⟨fun _=>(Mem.less_set _ _ _ f28.1).trans (outN_over ho1),?_⟩
    refine DG.only 7 (by kernel_rfl) rfl ?_
    refine ARun.appendOK (n:=2) (o:=o1) (k:=i) (m:=1) (cs:=(l.take i).flatMap extF) (lit_lt rfl) ty_sl_22 rfl rfl hfl (ho1.unset) ((appN_self ho1 hfl).lessL (Mem.less_set _ _ _ f28.1)) rfl (src_own ((outN_over ho1).1 _ _ (Mem.own_set_same _ _ _)) List.prefix_rfl) rfl c1 (by omega) (by omega) ?_
    intro o2 ho2
    refine arun_nil ⟨fun h=>absurd h (by decide),?_⟩
    refine DG.only 11 (by kernel_rfl) rfl ?_
    refine ARun.appendOK (n:=2) (o:=o2) (k:=i+1) (m:=l.length-i) (cs:=(l.take i).flatMap extF ++ [.string x.1,.string x.2]) (lit_lt rfl) ty_sl_22 rfl rfl hfl2 ho2 (appN_self ho2 hfl2) rfl (src_len ((hs2.less (hSS0.trans (outN_over ho2))).src ext_len) (by simp)) (by rw [flat_length ext_len];simp) (ext_one _) (by omega) (by omega) ?_
    intro o3 ho3
    refine arun_nil ⟨fun h=>absurd h (by decide),?_⟩
    refine DG.pure 12 (by kernel_rfl) (by kernel_rfl) rfl rfl rfl rfl (lit_lt rfl) (fun _=>Calm.assign rfl) ?_
    refine DG.end_ (by kernel_rfl) ?_
    refine athen_n ?_
    refine AWP.ret ?_
    refine ⟨_,outN 2 S o3 extT ((insAt l (pos l x.1) x).flatMap extF),⟨_,_,rfl,rfl,rfl⟩,?_,?_⟩
    ·rw [hcells];exact outN_lessM hSS0
    ·rw [← hlen] at ho3 ⊢;exact ⟨o3,ho3.unset,rfl,rfl⟩
 ·iterate 2 refine s1_ ?_
  refine AWP.draw [(0,true),(1,true),(2,true),(3,true),(4,true),(5,true),(6,true),(7,true),(8,true),(9,true),(10,true),(11,true),(12,true),(13,true)] [] mixed (by kernel_rfl) ?_
  iterate 16 refine s1_ ?_
  refine su_ [(0,_),(3,_),(5,_),(19,_)] ?_
  refine cF_ ?_
  have hp:pos l x.1=i:=pos_iff hi hall (fun h=>absurd h hc)
  have hs1:=sl_cut hl (Nat.zero_le i) hi
  have hs2:=sl_cut hl hi (Nat.le_refl _)
  have c1:∀ v ∈ ([.string x.1,.string x.2] : List Value),v.oneCell'=true:=ext_one [x]
  have hSS0:S.Less (S.set b3 ⟨extT,[.string x.1,.string x.2],2⟩):=Mem.less_set _ _ _ f3.1
  have hc0:((l.take i).drop 0).flatMap extF=(l.take i).flatMap extF:=rfl
  have hfl:((l.take i).flatMap extF).length=i*2:=by rw [flat_length ext_len];simp;omega
  have hfl2:((l.take i).flatMap extF ++ [Value.string x.1,.string x.2]).length=(i+1)*2:=by rw [List.length_append,hfl];simp;omega
  have hlen:(insAt l (pos l x.1) x).length=i+1+(l.length-i):=by rw [ins_len (pos_le _ _)];omega
  have hcells:(insAt l (pos l x.1) x).flatMap extF=(l.take i).flatMap extF ++ [.string x.1,.string x.2] ++ ((l.take l.length).drop i).flatMap extF:=by rw [ins_flat,hp,List.take_length,List.append_assoc];rfl
  refine AWP.exit ?_
  repeat refine athen_exit ?_
  refine ain_same ?_
  refine athen_n ?_
  refine AWP.seq ?_
  refine AWP.drawG [7,11] mixed ?_
  refine DG.pure 1 (by kernel_rfl) (by kernel_rfl) rfl rfl rfl rfl (lit_lt rfl) (fun _=>Calm.move rfl) ?_
  refine DG.pure 2 (by kernel_rfl) (by kernel_rfl) rfl rfl rfl rfl (lit_lt rfl) (fun _=>Calm.move rfl) ?_
  refine DG.pure 3 (by kernel_rfl) (by kernel_rfl) rfl rfl rfl rfl (lit_lt rfl) (fun _=>Calm.sliceG (e:=extT) (n:=2) (l:=0) (h:=i) (by kernel_rfl) (by kernel_rfl) rfl ⟨_,_,rfl,Int.natCast_nonneg _,Int.ofNat_le.2 (Nat.le_trans hi hl1),rfl⟩ rfl) ?_
  refine DG.pure 8 (by kernel_rfl) (by kernel_rfl) rfl rfl rfl rfl (lit_lt rfl) (fun _=>Calm.move rfl) ?_
  refine DG.pure 9 (by kernel_rfl) (by kernel_rfl) rfl rfl rfl rfl (lit_lt rfl) (fun _=>Calm.move rfl) ?_
  refine DG.pure 10 (by kernel_rfl) (by kernel_rfl) rfl rfl rfl rfl (lit_lt rfl) (fun _=>Calm.sliceG (e:=extT) (n:=2) (l:=i) (h:=l.length) (by kernel_rfl) (by kernel_rfl) rfl rfl ⟨_,_,rfl,Int.natCast_nonneg _,Int.ofNat_le.2 hi,rfl⟩) ?_
  refine DG.look 5 (by kernel_rfl) (by kernel_rfl) rfl rfl rfl rfl (lit_lt rfl) (Mem.Less.refl _) (Calm.loadA (by kernel_rfl) (cs:=[.string x.1,.string x.2]) (by kernel_rfl) rfl (rds_own (Mem.own_set_same _ _ _))) ?_
  refine DG.two 0 6 (by kernel_rfl) rfl ?_ rfl ?_
  ·refine ARun.build0 (lit_lt rfl) ty_sl_22 ?_
   intro b22 f22
   refine arun_nil ⟨fun _=>Mem.less_set _ _ _ f22.1,?_⟩
   refine DG.two 4 6 (by kernel_rfl) rfl ?_ rfl ?_
   ·skip
    refine ARun.appendOK (n:=2) (o:=some (b22,0)) (k:=0) (m:=i) (cs:=[]) (lit_lt rfl) ty_sl_22 rfl rfl rfl (okO_own f22 (Nat.le_refl _)) (appN_self (S:=(S.set b3 ⟨extT,[.string x.1,.string x.2],2⟩)) (okO_own f22 (Nat.le_refl 0)) rfl) rfl (src_len ((hs1.less (hSS0.trans (Mem.less_set _ _ _ f22.1))).src ext_len) (by simp;omega)) (by rw [flat_length ext_len];simp;omega) (ext_one _) (by omega) (by omega) ?_
    intro o1 ho1
    rw [Nat.zero_add] at ho1 ⊢
    rw [List.nil_append,hc0]
    refine arun_nil ⟨fun _=>outN_over ho1,?_⟩
    refine DG.only 6 (by kernel_rfl) rfl ?_
    refine ARun.build1 (lit_lt rfl) ty_sl_22 rfl (by decide) (by decide) rfl rfl ?_
    intro b28 f28
    refine arun_nil ⟨fun _=>(outN_over ho1).trans (Mem.less_set _ _ _ f28.1),?_⟩
    refine DG.only 7 (by kernel_rfl) rfl ?_
    refine ARun.appendOK (n:=2) (o:=o1) (k:=i) (m:=1) (cs:=(l.take i).flatMap extF) (lit_lt rfl) ty_sl_22 rfl rfl hfl (ho1) ((appN_self ho1 hfl).temp f28) rfl (src_own (Mem.own_set_same _ _ _) List.prefix_rfl) rfl c1 (by omega) (by omega) ?_
    intro o2 ho2
    refine arun_nil ⟨fun h=>absurd h (by decide),?_⟩
    refine DG.only 11 (by kernel_rfl) rfl ?_
    refine ARun.appendOK (n:=2) (o:=o2) (k:=i+1) (m:=l.length-i) (cs:=(l.take i).flatMap extF ++ [.string x.1,.string x.2]) (lit_lt rfl) ty_sl_22 rfl rfl hfl2 ho2 (appN_self ho2 hfl2) rfl (src_len ((hs2.less (hSS0.trans (outN_over ho2))).src ext_len) (by simp)) (by rw [flat_length ext_len];simp) (ext_one _) (by omega) (by omega) ?_
    intro o3 ho3
    refine arun_nil ⟨fun h=>absurd h (by decide),?_⟩
    refine DG.pure 12 (by kernel_rfl) (by kernel_rfl) rfl rfl rfl rfl (lit_lt rfl) (fun _=>Calm.assign rfl) ?_
    refine DG.end_ (by kernel_rfl) ?_
    refine athen_n ?_
    refine AWP.ret ?_
    refine ⟨_,outN 2 S o3 extT ((insAt l (pos l x.1) x).flatMap extF),⟨_,_,rfl,rfl,rfl⟩,?_,?_⟩
    ·rw [hcells];exact outN_lessM hSS0
    ·rw [← hlen] at ho3 ⊢;exact ⟨o3,ho3.unset,rfl,rfl⟩
   ·skip
    refine ARun.build1 (lit_lt rfl) ty_sl_22 rfl (by decide) (by decide) rfl rfl ?_
    intro b28 f28
    refine arun_nil ⟨fun _=>(Mem.less_set _ _ _ f22.1).trans (Mem.less_set _ _ _ f28.1),?_⟩
    obtain ⟨g28,n28⟩:=fresh_set f28
    have g22:Fresh ((S.set b3 ⟨extT,[.string x.1,.string x.2],2⟩).set b28 ⟨extT,[.string x.1,.string x.2],2⟩) b22:=fresh_more f22 (Ne.symm n28)
    refine DG.only 4 (by kernel_rfl) rfl ?_
    rw [Mem.set_comm' _ _ _ (Ne.symm n28)]
    refine ARun.appendOK (n:=2) (o:=some (b22,0)) (k:=0) (m:=i) (cs:=[]) (lit_lt rfl) ty_sl_22 rfl rfl rfl (okO_own g22 (Nat.le_refl _)) (appN_self (S:=((S.set b3 ⟨extT,[.string x.1,.string x.2],2⟩).set b28 ⟨extT,[.string x.1,.string x.2],2⟩)) (okO_own g22 (Nat.le_refl 0)) rfl) rfl (src_len ((hs1.less ((hSS0.trans (Mem.less_set _ _ _ g28.1)).trans (Mem.less_set _ _ _ g22.1))).src ext_len) (by simp;omega)) (by rw [flat_length ext_len];simp;omega) (ext_one _) (by omega) (by omega) ?_
    intro o1 ho1
    rw [Nat.zero_add] at ho1 ⊢
    rw [List.nil_append,hc0]
    refine arun_nil ⟨fun _=>(Mem.less_set _ _ _ g28.1).trans (outN_over ho1),?_⟩
    refine DG.only 7 (by kernel_rfl) rfl ?_
    refine ARun.appendOK (n:=2) (o:=o1) (k:=i) (m:=1) (cs:=(l.take i).flatMap extF) (lit_lt rfl) ty_sl_22 rfl rfl hfl (ho1.unset) ((appN_self ho1 hfl).lessL (Mem.less_set _ _ _ g28.1)) rfl (src_own ((outN_over ho1).1 _ _ (Mem.own_set_same _ _ _)) List.prefix_rfl) rfl c1 (by omega) (by omega) ?_
    intro o2 ho2
    refine arun_nil ⟨fun h=>absurd h (by decide),?_⟩
    refine DG.only 11 (by kernel_rfl) rfl ?_
    refine ARun.appendOK (n:=2) (o:=o2) (k:=i+1) (m:=l.length-i) (cs:=(l.take i).flatMap extF ++ [.string x.1,.string x.2]) (lit_lt rfl) ty_sl_22 rfl rfl hfl2 ho2 (appN_self ho2 hfl2) rfl (src_len ((hs2.less (hSS0.trans (outN_over ho2))).src ext_len) (by simp)) (by rw [flat_length ext_len];simp) (ext_one _) (by omega) (by omega) ?_
    intro o3 ho3
    refine arun_nil ⟨fun h=>absurd h (by decide),?_⟩
    refine DG.pure 12 (by kernel_rfl) (by kernel_rfl) rfl rfl rfl rfl (lit_lt rfl) (fun _=>Calm.assign rfl) ?_
    refine DG.end_ (by kernel_rfl) ?_
    refine athen_n ?_
    refine AWP.ret ?_
    refine ⟨_,outN 2 S o3 extT ((insAt l (pos l x.1) x).flatMap extF),⟨_,_,rfl,rfl,rfl⟩,?_,?_⟩
    ·rw [hcells];exact outN_lessM hSS0
    ·rw [← hlen] at ho3 ⊢;exact ⟨o3,ho3.unset,rfl,rfl⟩
  ·refine ARun.build1 (lit_lt rfl) ty_sl_22 rfl (by decide) (by decide) rfl rfl ?_
   intro b28 f28
   refine arun_nil ⟨fun _=>Mem.less_set _ _ _ f28.1,?_⟩
   refine DG.only 0 (by kernel_rfl) rfl ?_
   refine ARun.build0 (lit_lt rfl) ty_sl_22 ?_
   intro b22 f22
   refine arun_nil ⟨fun _=>(Mem.less_set _ _ _ f28.1).trans (Mem.less_set _ _ _ f22.1),?_⟩
   refine DG.only 4 (by kernel_rfl) rfl ?_
   refine ARun.appendOK (n:=2) (o:=some (b22,0)) (k:=0) (m:=i) (cs:=[]) (lit_lt rfl) ty_sl_22 rfl rfl rfl (okO_own f22 (Nat.le_refl _)) (appN_self (S:=((S.set b3 ⟨extT,[.string x.1,.string x.2],2⟩).set b28 ⟨extT,[.string x.1,.string x.2],2⟩)) (okO_own f22 (Nat.le_refl 0)) rfl) rfl (src_len ((hs1.less ((hSS0.trans (Mem.less_set _ _ _ f28.1)).trans (Mem.less_set _ _ _ f22.1))).src ext_len) (by simp;omega)) (by rw [flat_length ext_len];simp;omega) (ext_one _) (by omega) (by omega) ?_
   intro o1 ho1
   rw [Nat.zero_add] at ho1 ⊢
   rw [List.nil_append,hc0]
   refine arun_nil ⟨fun _=>(Mem.less_set _ _ _ f28.1).trans (outN_over ho1),?_⟩
   refine DG.only 7 (by kernel_rfl) rfl ?_
   refine ARun.appendOK (n:=2) (o:=o1) (k:=i) (m:=1) (cs:=(l.take i).flatMap extF) (lit_lt rfl) ty_sl_22 rfl rfl hfl (ho1.unset) ((appN_self ho1 hfl).lessL (Mem.less_set _ _ _ f28.1)) rfl (src_own ((outN_over ho1).1 _ _ (Mem.own_set_same _ _ _)) List.prefix_rfl) rfl c1 (by omega) (by omega) ?_
   intro o2 ho2
   refine arun_nil ⟨fun h=>absurd h (by decide),?_⟩
   refine DG.only 11 (by kernel_rfl) rfl ?_
   refine ARun.appendOK (n:=2) (o:=o2) (k:=i+1) (m:=l.length-i) (cs:=(l.take i).flatMap extF ++ [.string x.1,.string x.2]) (lit_lt rfl) ty_sl_22 rfl rfl hfl2 ho2 (appN_self ho2 hfl2) rfl (src_len ((hs2.less (hSS0.trans (outN_over ho2))).src ext_len) (by simp)) (by rw [flat_length ext_len];simp) (ext_one _) (by omega) (by omega) ?_
   intro o3 ho3
   refine arun_nil ⟨fun h=>absurd h (by decide),?_⟩
   refine DG.pure 12 (by kernel_rfl) (by kernel_rfl) rfl rfl rfl rfl (lit_lt rfl) (fun _=>Calm.assign rfl) ?_
   refine DG.end_ (by kernel_rfl) ?_
   refine athen_n ?_
   refine AWP.ret ?_
   refine ⟨_,outN 2 S o3 extT ((insAt l (pos l x.1) x).flatMap extF),⟨_,_,rfl,rfl,rfl⟩,?_,?_⟩
   ·rw [hcells];exact outN_lessM hSS0
   ·rw [← hlen] at ho3 ⊢;exact ⟨o3,ho3.unset,rfl,rfl⟩
end Go.Proofs.YtceikpipmcadmaaGreatDoor
namespace Go.Proofs.YtceikpipmcadmaaGreatDoor
open Go.RowKit
open Mv Disk
set_option maxRecDepth 4000
theorem outN_box {n : Nat} {S : Mem} {o : Option (Nat × Nat)} {e : TypeId} {cs : List Value} {b : Nat} {r r' : Blk} (h : ∀ q c, o = some (q, c) → b ≠ q) : (outN n (S.set b r) o e cs).set b r' = outN n (S.set b r') o e cs := by
 cases o with
 | none=>exact Mem.set_set _ _ _ _
 | some z =>
  obtain ⟨q,c⟩:=z
  show ((S.set b r).set q _).set b r'=(S.set b r').set q _
  rw [Mem.set_comm' (S.set b r) _ _ (Ne.symm (h q c rfl)),Mem.set_set]
theorem own_outN_none {n : Nat} {S : Mem} {o : Option (Nat × Nat)} {e : TypeId} {cs : List Value} {b : Nat} (hs : S.own b = none) (h : ∀ q c, o = some (q, c) → b ≠ q) : (outN n S o e cs).own b = none := by
 cases o with
 | none=>exact hs
 | some z=>obtain ⟨q,c⟩:=z;exact (Mem.own_set_other _ _ (h q c rfl)).trans hs
theorem Mv.OkO.lessL {S T : Mem} {o : Option (Nat × Nat)} {n : Nat} (h : OkO T o n) (hl : S.Less T) : OkO S o n :=
 ⟨h.nil,fun q c e=>⟨⟨(by
  have h1:=(h.own q c e).1.1
  cases hs:S.own q with
  | none=>rfl
  | some r=>rw [hl.1 q r hs] at h1;cases h1),fun a v ha=>(h.own q c e).1.2 a v (by rw [← hl.2];exact ha)⟩,(h.own q c e).2⟩⟩
def boxD (d : D) (a b : Value) : Blk := ⟨25, [.int .i64 d.size, a, b, .int .i64 d.fuse, .bool d.down], 5⟩
end Go.Proofs.YtceikpipmcadmaaGreatDoor
namespace Go.Proofs.YtceikpipmcadmaaGreatDoor
open Go.RowKit
open Mv Disk
set_option maxRecDepth 4000

theorem set_back (M : Mem) {b c : Nat} {r z r' : Blk} (h : c ≠ b) : ((M.set b r).set c z).set b r' = (M.set b r').set c z := by
 rw [Mem.set_comm' (M.set b r) z r' h,Mem.set_set]
set_option maxHeartbeats 2000000 in
theorem rd_New (v : Value) (d : D) (s : ByteArray) (n : Int) (S : Mem) (hd : DkR S v d) (hz : Dz d) :
  ACall Tryz.prog 94 #[v,.string s,.int .i64 n] S (DkRes (opened d (newD d s n)) S):=by
 have hpow:=fun M h=>rd_power v d M h hz
 have hasw:=fun why=>rd_as v d why S hd hz
 have hcopy:=rd_CopyW v d S hd hz
 obtain ⟨pe,ce,pw,cw,rfl,hE,hW⟩:=id hd
 unfold opened
 rcases openD_or d with ⟨ho,hR⟩ | ⟨ho,hR,hdn⟩ | ⟨ho,hR,hdn⟩ <;> (simp only [ho] at hpow ⊢)
 ·have hasw:=hasw 2;rw [asD_no hR] at hasw;rw [if_neg (by decide)]
  refine ACall.enter (rs:=[.cell 6 25,.tmp 7]) 61 [(0,.agg #[.int .i64 d.size,.slice pe d.ext.length ce,.slice pw d.waits.length cw,.int .i64 d.fuse,.bool d.down]),(1,.string s),(2,.int .i64 n)] Tryz.func94 rfl rfl (Nat.le_of_ble_eq_true rfl) rfl ⟨rfl,rfl,rfl,trivial⟩ ?_
  iterate 2 refine s1_ ?_
  refine k_b5 rfl ?_
  intro b3 f3
  have g3:=f3
  repeat ((with_reducible replace g3:=fresh_set g3);obtain ⟨g3,_⟩:=g3)
  refine nl_ ?_
  refine ARun.alloc (lit_lt rfl) ty_zero_25 ?_
  intro b6 f6
  have g6:=f6
  repeat ((with_reducible replace g6:=fresh_set g6);obtain ⟨g6,_⟩:=g6)
  refine nl_ ?_
  iterate 6 refine s1_ ?_
  refine ca_ rfl (hpow _ (hd.less less_)) ?_
  rintro _ S1 ⟨rfl,h1⟩
  rw [h1];clear h1 S1
  iterate 3 refine s1_ ?_
  refine su_ [(0,_),(1,_),(2,_),(3,_),(6,_),(7,_),(8,_)] ?_
  iterate 7 refine s1_ ?_
  refine su_ [(0,_),(1,_),(2,_),(3,_),(6,_),(7,_),(8,_),(12,_)] ?_
  refine cT_ ?_
  iterate 4 refine s1_ ?_
  refine ca_ rfl (((hasw).frame f3).frame f6) ?_
  rintro _ S1 ⟨Sa,⟨M,⟨v',rfl,hSM,hdk⟩,fa,hSa⟩,fb,h1⟩
  rw [h1,hSa];rw [hSa] at fb;clear h1 S1 hSa Sa
  obtain ⟨fbm,nba⟩:=fresh_set fb
  obtain ⟨qe,de,qw,dw,rfl,hE2,hW2⟩:=id hdk
  iterate 6 refine s1_ ?_
  refine su_ [(0,_),(1,_),(2,_),(3,_),(6,_),(7,_),(8,_),(12,_)] ?_
  iterate 2 refine s1_ ?_
  refine ⟨_,M,⟨_,_,_,rfl,.inr ⟨ty_agg_25,[_,_,_,_,_],ty_size_25,rds_,rfl⟩,⟨_,_,rfl,rfl,rfl⟩,rfl⟩,less_,?_⟩
  exact ⟨_,rfl,hSM,hdk⟩
 ·have hasw:=hasw 10;rw [asD_ok hR] at hasw;rw [if_neg (by decide)]
  refine ACall.enter (rs:=[.cell 6 25,.tmp 7]) 61 [(0,.agg #[.int .i64 d.size,.slice pe d.ext.length ce,.slice pw d.waits.length cw,.int .i64 d.fuse,.bool d.down]),(1,.string s),(2,.int .i64 n)] Tryz.func94 rfl rfl (Nat.le_of_ble_eq_true rfl) rfl ⟨rfl,rfl,rfl,trivial⟩ ?_
  iterate 2 refine s1_ ?_
  refine k_b5 rfl ?_
  intro b3 f3
  have g3:=f3
  repeat ((with_reducible replace g3:=fresh_set g3);obtain ⟨g3,_⟩:=g3)
  refine nl_ ?_
  refine ARun.alloc (lit_lt rfl) ty_zero_25 ?_
  intro b6 f6
  have g6:=f6
  repeat ((with_reducible replace g6:=fresh_set g6);obtain ⟨g6,_⟩:=g6)
  refine nl_ ?_
  iterate 6 refine s1_ ?_
  refine ca_ rfl (hpow _ (hd.less less_)) ?_
  rintro _ S1 ⟨rfl,h1⟩
  rw [h1];clear h1 S1
  iterate 3 refine s1_ ?_
  refine su_ [(0,_),(1,_),(2,_),(3,_),(6,_),(7,_),(8,_)] ?_
  iterate 7 refine s1_ ?_
  refine su_ [(0,_),(1,_),(2,_),(3,_),(6,_),(7,_),(8,_),(12,_)] ?_
  refine cT_ ?_
  iterate 4 refine s1_ ?_
  refine ca_ rfl (((hasw).frame f3).frame f6) ?_
  rintro _ S1 ⟨Sa,⟨M,⟨v',rfl,hSM,hdk⟩,fa,hSa⟩,fb,h1⟩
  rw [h1,hSa];rw [hSa] at fb;clear h1 S1 hSa Sa
  obtain ⟨fbm,nba⟩:=fresh_set fb
  obtain ⟨qe,de,qw,dw,rfl,hE2,hW2⟩:=id hdk
  iterate 6 refine s1_ ?_
  refine su_ [(0,_),(1,_),(2,_),(3,_),(6,_),(7,_),(8,_),(12,_)] ?_
  iterate 2 refine s1_ ?_
  refine ⟨_,M,⟨_,_,_,rfl,.inr ⟨ty_agg_25,[_,_,_,_,_],ty_size_25,rds_,rfl⟩,⟨_,_,rfl,rfl,rfl⟩,rfl⟩,less_,?_⟩
  exact ⟨_,rfl,hSM,hdk⟩
 ·simp only [asD_ok hR] at hasw
  rw [if_pos trivial]
  have hus:=hR.ex.us;have h0:=hR.s0;have h16:=hR.s1;have hrl:=right_len hR
  unfold newD
  by_cases q1:nm s
  ·by_cases q2:n<1
   ·rw [if_pos (.inr q2)]
    refine ACall.enter (rs:=[.cell 6 25,.tmp 7]) 61 [(0,.agg #[.int .i64 d.size,.slice pe d.ext.length ce,.slice pw d.waits.length cw,.int .i64 d.fuse,.bool d.down]),(1,.string s),(2,.int .i64 n)] Tryz.func94 rfl rfl (Nat.le_of_ble_eq_true rfl) rfl ⟨rfl,rfl,rfl,trivial⟩ ?_
    iterate 2 refine s1_ ?_
    refine k_b5 rfl ?_
    intro b3 f3
    have g3:=f3
    repeat ((with_reducible replace g3:=fresh_set g3);obtain ⟨g3,_⟩:=g3)
    refine nl_ ?_
    refine ARun.alloc (lit_lt rfl) ty_zero_25 ?_
    intro b6 f6
    have g6:=f6
    repeat ((with_reducible replace g6:=fresh_set g6);obtain ⟨g6,_⟩:=g6)
    refine nl_ ?_
    iterate 6 refine s1_ ?_
    refine ca_ rfl (hpow _ (hd.less less_)) ?_
    rintro _ S1 ⟨rfl,h1⟩
    rw [h1];clear h1 S1
    iterate 3 refine s1_ ?_
    refine su_ [(0,_),(1,_),(2,_),(3,_),(6,_),(7,_),(8,_)] ?_
    iterate 7 refine s1_ ?_
    refine su_ [(0,_),(1,_),(2,_),(3,_),(6,_),(7,_),(8,_),(12,_)] ?_
    refine cF_ ?_
    iterate 6 refine s1_ ?_
    refine ca_ rfl (rd_Named _ _) ?_
    rintro _ S1 ⟨rfl,h1⟩
    rw [h1,decide_eq_true q1];clear h1 S1
    iterate 7 refine s1_ ?_
    refine su_ [(0,_),(1,_),(2,_),(3,_),(6,_),(7,_),(8,_),(12,_),(24,_)] ?_
    refine cT_ ?_
    iterate 3 refine s1_ ?_
    refine ca_ rfl (((hasw 1).frame f3).frame f6) ?_
    rintro _ S1 ⟨Sa,⟨M,⟨v',rfl,hSM,hdk⟩,fa,hSa⟩,fb,h1⟩
    rw [h1,hSa];rw [hSa] at fb;clear h1 S1 hSa Sa
    obtain ⟨fbm,nba⟩:=fresh_set fb
    obtain ⟨qe,de,qw,dw,rfl,hE2,hW2⟩:=id hdk
    iterate 6 refine s1_ ?_
    refine su_ [(0,_),(1,_),(2,_),(3,_),(6,_),(7,_),(8,_),(12,_),(24,_)] ?_
    iterate 2 refine s1_ ?_
    refine ⟨_,M,⟨_,_,_,rfl,.inr ⟨ty_agg_25,[_,_,_,_,_],ty_size_25,rds_,rfl⟩,⟨_,_,rfl,rfl,rfl⟩,rfl⟩,less_,?_⟩
    exact ⟨_,rfl,hSM,hdk⟩
   ·rw [if_neg (fun h=>h.elim (fun h=>h q1) q2)]
    by_cases q3:has d.ext s=true
    ·rw [if_pos q3]
     have hf:fnd d.ext s=(pos d.ext s:Nat):=by unfold fnd;rw [if_pos q3]
     refine ACall.enter (rs:=[.cell 6 25,.tmp 7]) 61 [(0,.agg #[.int .i64 d.size,.slice pe d.ext.length ce,.slice pw d.waits.length cw,.int .i64 d.fuse,.bool d.down]),(1,.string s),(2,.int .i64 n)] Tryz.func94 rfl rfl (Nat.le_of_ble_eq_true rfl) rfl ⟨rfl,rfl,rfl,trivial⟩ ?_
     iterate 2 refine s1_ ?_
     refine k_b5 rfl ?_
     intro b3 f3
     have g3:=f3
     repeat ((with_reducible replace g3:=fresh_set g3);obtain ⟨g3,_⟩:=g3)
     refine nl_ ?_
     refine ARun.alloc (lit_lt rfl) ty_zero_25 ?_
     intro b6 f6
     have g6:=f6
     repeat ((with_reducible replace g6:=fresh_set g6);obtain ⟨g6,_⟩:=g6)
     refine nl_ ?_
     iterate 6 refine s1_ ?_
     refine ca_ rfl (hpow _ (hd.less less_)) ?_
     rintro _ S1 ⟨rfl,h1⟩
     rw [h1];clear h1 S1
     iterate 3 refine s1_ ?_
     refine su_ [(0,_),(1,_),(2,_),(3,_),(6,_),(7,_),(8,_)] ?_
     iterate 7 refine s1_ ?_
     refine su_ [(0,_),(1,_),(2,_),(3,_),(6,_),(7,_),(8,_),(12,_)] ?_
     refine cF_ ?_
     iterate 6 refine s1_ ?_
     refine ca_ rfl (rd_Named _ _) ?_
     rintro _ S1 ⟨rfl,h1⟩
     rw [h1,decide_eq_true q1];clear h1 S1
     iterate 7 refine s1_ ?_
     refine su_ [(0,_),(1,_),(2,_),(3,_),(6,_),(7,_),(8,_),(12,_),(24,_)] ?_
     refine cF_ ?_
     iterate 8 refine s1_ ?_
     refine ca_ rfl (rd_Find _ d.ext s _ (hE.less less_) hR.ex.asc) ?_
     rintro _ S1 ⟨rfl,h1⟩
     rw [h1,hf];clear h1 S1
     iterate 3 refine s1_ ?_
     refine su_ [(0,_),(1,_),(2,_),(3,_),(6,_),(7,_),(8,_),(12,_),(24,_),(33,_)] ?_
     refine cT_ ?_
     iterate 3 refine s1_ ?_
     refine ca_ rfl (((hasw 4).frame f3).frame f6) ?_
     rintro _ S1 ⟨Sa,⟨M,⟨v',rfl,hSM,hdk⟩,fa,hSa⟩,fb,h1⟩
     rw [h1,hSa];rw [hSa] at fb;clear h1 S1 hSa Sa
     obtain ⟨fbm,nba⟩:=fresh_set fb
     obtain ⟨qe,de,qw,dw,rfl,hE2,hW2⟩:=id hdk
     iterate 6 refine s1_ ?_
     refine su_ [(0,_),(1,_),(2,_),(3,_),(6,_),(7,_),(8,_),(12,_),(24,_),(33,_)] ?_
     iterate 2 refine s1_ ?_
     refine ⟨_,M,⟨_,_,_,rfl,.inr ⟨ty_agg_25,[_,_,_,_,_],ty_size_25,rds_,rfl⟩,⟨_,_,rfl,rfl,rfl⟩,rfl⟩,less_,?_⟩
     exact ⟨_,rfl,hSM,hdk⟩
    ·rw [if_neg q3]
     have hf:fnd d.ext s = -1:=by unfold fnd;rw [if_neg q3]
     by_cases q4:d.size-used d.ext<n
     ·rw [if_pos q4]
      refine ACall.enter (rs:=[.cell 6 25,.tmp 7]) 61 [(0,.agg #[.int .i64 d.size,.slice pe d.ext.length ce,.slice pw d.waits.length cw,.int .i64 d.fuse,.bool d.down]),(1,.string s),(2,.int .i64 n)] Tryz.func94 rfl rfl (Nat.le_of_ble_eq_true rfl) rfl ⟨rfl,rfl,rfl,trivial⟩ ?_
      iterate 2 refine s1_ ?_
      refine k_b5 rfl ?_
      intro b3 f3
      have g3:=f3
      repeat ((with_reducible replace g3:=fresh_set g3);obtain ⟨g3,_⟩:=g3)
      refine nl_ ?_
      refine ARun.alloc (lit_lt rfl) ty_zero_25 ?_
      intro b6 f6
      have g6:=f6
      repeat ((with_reducible replace g6:=fresh_set g6);obtain ⟨g6,_⟩:=g6)
      refine nl_ ?_
      iterate 6 refine s1_ ?_
      refine ca_ rfl (hpow _ (hd.less less_)) ?_
      rintro _ S1 ⟨rfl,h1⟩
      rw [h1];clear h1 S1
      iterate 3 refine s1_ ?_
      refine su_ [(0,_),(1,_),(2,_),(3,_),(6,_),(7,_),(8,_)] ?_
      iterate 7 refine s1_ ?_
      refine su_ [(0,_),(1,_),(2,_),(3,_),(6,_),(7,_),(8,_),(12,_)] ?_
      refine cF_ ?_
      iterate 6 refine s1_ ?_
      refine ca_ rfl (rd_Named _ _) ?_
      rintro _ S1 ⟨rfl,h1⟩
      rw [h1,decide_eq_true q1];clear h1 S1
      iterate 7 refine s1_ ?_
      refine su_ [(0,_),(1,_),(2,_),(3,_),(6,_),(7,_),(8,_),(12,_),(24,_)] ?_
      refine cF_ ?_
      iterate 8 refine s1_ ?_
      refine ca_ rfl (rd_Find _ d.ext s _ (hE.less less_) hR.ex.asc) ?_
      rintro _ S1 ⟨rfl,h1⟩
      rw [h1,hf];clear h1 S1
      iterate 3 refine s1_ ?_
      refine su_ [(0,_),(1,_),(2,_),(3,_),(6,_),(7,_),(8,_),(12,_),(24,_),(33,_)] ?_
      refine cF_ ?_
      iterate 4 refine s1_ ?_
      refine AWP.draw [(0,true),(1,true),(2,true),(3,true),(4,true),(5,false),(6,true),(7,true)] [] mixed (by kernel_rfl) ?_
      iterate 5 refine s1_ ?_
      refine draw_only rfl ?_
      refine ca_ rfl (rd_used _ d.ext _ (hE.less less_) (by omega) (fun x hx=>by have:=(hz.ez x hx).2;omega)) ?_
      rintro _ S1 ⟨rfl,h1⟩
      rw [h1];clear h1 S1
      refine arun_nil ⟨fun _=>less_,?_⟩
      iterate 4 refine s1_ ?_
      refine su_ [(0,_),(1,_),(2,_),(3,_),(6,_),(7,_),(8,_),(12,_),(24,_),(33,_),(45,_)] ?_
      refine cT_ ?_
      iterate 3 refine s1_ ?_
      refine ca_ rfl (((hasw 8).frame f3).frame f6) ?_
      rintro _ S1 ⟨Sa,⟨M,⟨v',rfl,hSM,hdk⟩,fa,hSa⟩,fb,h1⟩
      rw [h1,hSa];rw [hSa] at fb;clear h1 S1 hSa Sa
      obtain ⟨fbm,nba⟩:=fresh_set fb
      obtain ⟨qe,de,qw,dw,rfl,hE2,hW2⟩:=id hdk
      iterate 6 refine s1_ ?_
      refine su_ [(0,_),(1,_),(2,_),(3,_),(6,_),(7,_),(8,_),(12,_),(24,_),(33,_),(45,_)] ?_
      iterate 2 refine s1_ ?_
      refine ⟨_,M,⟨_,_,_,rfl,.inr ⟨ty_agg_25,[_,_,_,_,_],ty_size_25,rds_,rfl⟩,⟨_,_,rfl,rfl,rfl⟩,rfl⟩,less_,?_⟩
      exact ⟨_,rfl,hSM,hdk⟩
     ·rw [if_neg q4]
      obtain ⟨m,rfl⟩ : ∃ m:Nat,n=m:=⟨n.toNat,by omega⟩
      rw [Int.toNat_natCast]
      refine ACall.enter (rs:=[.cell 6 25,.tmp 7]) 61 [(0,.agg #[.int .i64 d.size,.slice pe d.ext.length ce,.slice pw d.waits.length cw,.int .i64 d.fuse,.bool d.down]),(1,.string s),(2,.int .i64 (m:Int))] Tryz.func94 rfl rfl (Nat.le_of_ble_eq_true rfl) rfl ⟨rfl,rfl,rfl,trivial⟩ ?_
      iterate 2 refine s1_ ?_
      refine k_b5 rfl ?_
      intro b3 f3
      have g3:=f3
      repeat ((with_reducible replace g3:=fresh_set g3);obtain ⟨g3,_⟩:=g3)
      refine nl_ ?_
      refine ARun.alloc (lit_lt rfl) ty_zero_25 ?_
      intro b6 f6
      have g6:=f6
      repeat ((with_reducible replace g6:=fresh_set g6);obtain ⟨g6,_⟩:=g6)
      refine nl_ ?_
      iterate 6 refine s1_ ?_
      refine ca_ rfl (hpow _ (hd.less less_)) ?_
      rintro _ S1 ⟨rfl,h1⟩
      rw [h1];clear h1 S1
      iterate 3 refine s1_ ?_
      refine su_ [(0,_),(1,_),(2,_),(3,_),(6,_),(7,_),(8,_)] ?_
      iterate 7 refine s1_ ?_
      refine su_ [(0,_),(1,_),(2,_),(3,_),(6,_),(7,_),(8,_),(12,_)] ?_
      refine cF_ ?_
      iterate 6 refine s1_ ?_
      refine ca_ rfl (rd_Named _ _) ?_
      rintro _ S1 ⟨rfl,h1⟩
      rw [h1,decide_eq_true q1];clear h1 S1
      iterate 7 refine s1_ ?_
      refine su_ [(0,_),(1,_),(2,_),(3,_),(6,_),(7,_),(8,_),(12,_),(24,_)] ?_
      refine cF_ ?_
      iterate 8 refine s1_ ?_
      refine ca_ rfl (rd_Find _ d.ext s _ (hE.less less_) hR.ex.asc) ?_
      rintro _ S1 ⟨rfl,h1⟩
      rw [h1,hf];clear h1 S1
      iterate 3 refine s1_ ?_
      refine su_ [(0,_),(1,_),(2,_),(3,_),(6,_),(7,_),(8,_),(12,_),(24,_),(33,_)] ?_
      refine cF_ ?_
      iterate 4 refine s1_ ?_
      refine AWP.draw [(0,true),(1,true),(2,true),(3,true),(4,true),(5,false),(6,true),(7,true)] [] mixed (by kernel_rfl) ?_
      iterate 5 refine s1_ ?_
      refine draw_only rfl ?_
      refine ca_ rfl (rd_used _ d.ext _ (hE.less less_) (by omega) (fun x hx=>by have:=(hz.ez x hx).2;omega)) ?_
      rintro _ S1 ⟨rfl,h1⟩
      rw [h1];clear h1 S1
      refine arun_nil ⟨fun _=>less_,?_⟩
      iterate 4 refine s1_ ?_
      refine su_ [(0,_),(1,_),(2,_),(3,_),(6,_),(7,_),(8,_),(12,_),(24,_),(33,_),(45,_)] ?_
      refine cF_ ?_
      iterate 5 refine s1_ ?_
      refine ca_ rfl (((hcopy).frame f3).frame f6) ?_
      rintro _ S1 ⟨Sa,⟨M,⟨hSM,hdk⟩,fa,hSa⟩,fb,h1⟩
      rw [h1,hSa];rw [hSa] at fb;clear h1 S1 hSa Sa
      obtain ⟨fbm,nba⟩:=fresh_set fb
      obtain ⟨qe,de,qw,dw,rfl,hE2,hW2⟩:=id hdk
      iterate 3 refine s1_ ?_
      refine su_ [(0,_),(1,_),(2,_),(3,_),(6,_),(7,_),(8,_),(12,_),(24,_),(33,_),(45,_)] ?_
      rw [set_back M nba]
      have f6':=fun r=>fresh_more (r:=r) fbm nba
      refine s1_ ?_
      refine AWP.draw [(0,true),(1,true),(2,true),(3,true),(4,false),(5,true),(6,false),(7,true),(8,false)] [8] mixed (by kernel_rfl) ?_
      iterate 4 refine s1_ ?_
      refine draw_only rfl ?_
      refine ca_ rfl (rd_Zeros m _ (by omega)) ?_
      rintro _ S1 ⟨rfl,h1⟩
      rw [h1];clear h1 S1
      refine arun_nil ⟨fun _=>less_,?_⟩
      refine s1_ ?_
      refine draw_only rfl ?_
      refine ca_ rfl (((rd_with _ d.ext (s,zeros m) M hE2 (by omega)).frame fa).frame (f6' _)) ?_
      rintro _ S1 ⟨Sa,⟨M2,⟨o2,ho2,rfl,hM2⟩,fa2,hSa⟩,fb2,h1⟩
      rw [h1,hSa];rw [hSa] at fb2;clear h1 S1 hSa Sa
      obtain ⟨fb2m,_⟩:=fresh_set fb2
      have hln:=ins_len (pos_le d.ext s) (s,zeros m)
      have hMM2:M.Less M2:=by rw [hM2];exact outN_over ho2
      have hsl:Sl 2 extF M2 (outV o2 (insAt d.ext (pos d.ext s) (s,zeros m)).length) (insAt d.ext (pos d.ext s) (s,zeros m)):=by rw [hM2];exact sl_outN ext_len (e:=extT) ho2 rfl (by omega)
      obtain ⟨q2,d2,hq2⟩:=outV_eq ho2
      rw [hq2] at hsl ⊢
      refine arun_nil ⟨fun _=>less_,?_⟩
      refine s1_ ?_
      refine draw_only rfl ?_
      refine s1_ ?_
      refine arun_nil ⟨fun h=>absurd h (by decide),?_⟩
      iterate 2 refine s1_ ?_
      refine su_ [(0,_),(1,_),(2,_),(3,_),(6,_),(7,_),(8,_),(12,_),(24,_),(33,_),(45,_)] ?_
      iterate 7 refine s1_ ?_
      refine su_ [(0,_),(1,_),(2,_),(3,_),(6,_),(7,_),(8,_),(12,_),(24,_),(33,_),(45,_)] ?_
      refine s1_ ?_
      refine ⟨_,M2,⟨_,_,_,rfl,.inr ⟨ty_agg_25,[_,_,_,_,_],ty_size_25,rds_,rfl⟩,⟨_,_,rfl,rfl,rfl⟩,rfl⟩,less_,?_⟩
      exact ⟨_,rfl,hSM.trans hMM2,_,_,_,_,rfl,hsl,hW2.less hMM2⟩
  ·rw [if_pos (.inl q1)]
   refine ACall.enter (rs:=[.cell 6 25,.tmp 7]) 61 [(0,.agg #[.int .i64 d.size,.slice pe d.ext.length ce,.slice pw d.waits.length cw,.int .i64 d.fuse,.bool d.down]),(1,.string s),(2,.int .i64 n)] Tryz.func94 rfl rfl (Nat.le_of_ble_eq_true rfl) rfl ⟨rfl,rfl,rfl,trivial⟩ ?_
   iterate 2 refine s1_ ?_
   refine k_b5 rfl ?_
   intro b3 f3
   have g3:=f3
   repeat ((with_reducible replace g3:=fresh_set g3);obtain ⟨g3,_⟩:=g3)
   refine nl_ ?_
   refine ARun.alloc (lit_lt rfl) ty_zero_25 ?_
   intro b6 f6
   have g6:=f6
   repeat ((with_reducible replace g6:=fresh_set g6);obtain ⟨g6,_⟩:=g6)
   refine nl_ ?_
   iterate 6 refine s1_ ?_
   refine ca_ rfl (hpow _ (hd.less less_)) ?_
   rintro _ S1 ⟨rfl,h1⟩
   rw [h1];clear h1 S1
   iterate 3 refine s1_ ?_
   refine su_ [(0,_),(1,_),(2,_),(3,_),(6,_),(7,_),(8,_)] ?_
   iterate 7 refine s1_ ?_
   refine su_ [(0,_),(1,_),(2,_),(3,_),(6,_),(7,_),(8,_),(12,_)] ?_
   refine cF_ ?_
   iterate 6 refine s1_ ?_
   refine ca_ rfl (rd_Named _ _) ?_
   rintro _ S1 ⟨rfl,h1⟩
   rw [h1,decide_eq_false q1];clear h1 S1
   iterate 7 refine s1_ ?_
   refine su_ [(0,_),(1,_),(2,_),(3,_),(6,_),(7,_),(8,_),(12,_),(24,_)] ?_
   refine cT_ ?_
   iterate 3 refine s1_ ?_
   refine ca_ rfl (((hasw 1).frame f3).frame f6) ?_
   rintro _ S1 ⟨Sa,⟨M,⟨v',rfl,hSM,hdk⟩,fa,hSa⟩,fb,h1⟩
   rw [h1,hSa];rw [hSa] at fb;clear h1 S1 hSa Sa
   obtain ⟨fbm,nba⟩:=fresh_set fb
   obtain ⟨qe,de,qw,dw,rfl,hE2,hW2⟩:=id hdk
   iterate 6 refine s1_ ?_
   refine su_ [(0,_),(1,_),(2,_),(3,_),(6,_),(7,_),(8,_),(12,_),(24,_)] ?_
   iterate 2 refine s1_ ?_
   refine ⟨_,M,⟨_,_,_,rfl,.inr ⟨ty_agg_25,[_,_,_,_,_],ty_size_25,rds_,rfl⟩,⟨_,_,rfl,rfl,rfl⟩,rfl⟩,less_,?_⟩
   exact ⟨_,rfl,hSM,hdk⟩
end Go.Proofs.YtceikpipmcadmaaGreatDoor
namespace Go.Proofs.YtceikpipmcadmaaGreatDoor
open Go.RowKit
open Mv Disk
set_option maxRecDepth 4000

theorem frees_cons (d0 d : D) (s : ByteArray) (l : List ByteArray) : freesD d0 d (s :: l) = if has d.ext s = true then freesD d0 (forgetD (eraseD d s) s) l else (d0, 3) := by
 rw [freesD]
 unfold freeD
 by_cases q:has d.ext s=true
 ·rw [if_pos q,if_pos q];rfl
 ·rw [if_neg q,if_neg q];rfl
end Go.Proofs.YtceikpipmcadmaaGreatDoor
