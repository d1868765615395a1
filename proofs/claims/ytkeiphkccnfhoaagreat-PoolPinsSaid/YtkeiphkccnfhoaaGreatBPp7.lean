/-
  Texts that belong together: PoolP1, PR8, PR9, PR1S, PL3.
-/
import Derived.Test.YtkeiphkccnfhoaaGreatBPp6
set_option linter.unusedVariables false
set_option linter.unusedSimpArgs false
set_option linter.unusedSectionVars false
namespace Go.Proofs.YtkeiphkccnfhoaaGreat
open Go.RowKit
open Mv Disk
set_option maxRecDepth 4000
theorem like_symm {x y : Fr} (h : like x y) : like y x := ⟨h.2.1, h.1, h.2.2.elim (fun h => .inl h.symm) (fun h => .inr ⟨h.1.symm, h.2.symm⟩)⟩
theorem pr_pair {p : Pl} (h : PRight p) {i j : Nat} (hi : i < p.fr.length) (hj : j < p.fr.length) (hne : i ≠ j) : ¬ like p.fr[i] p.fr[j] := by
 rcases Nat.lt_or_ge j i with hl | hl
 ·exact (h.ok i hi).2 _ (List.mem_take_iff_getElem.2 ⟨j,by omega,rfl⟩)
 ·intro hk
  exact (h.ok j hj).2 _ (List.mem_take_iff_getElem.2 ⟨i,by omega,rfl⟩) (like_symm hk)
theorem pr_mk {p : Pl} (hd : Right p.d) (h1 : 1 ≤ p.fr.length) (h2 : p.fr.length ≤ 256) (hs : ∀ i (h : i < p.fr.length), Sound p.d p.fr[i] p.tick) (hl : ∀ i j (hi : i < p.fr.length) (hj : j < p.fr.length), i ≠ j → ¬ like p.fr[i] p.fr[j]) : PRight p :=
 ⟨hd,h1,h2,fun i h=>⟨hs i h,fun y hy=>by
  obtain ⟨j,hj,rfl⟩:=List.mem_take_iff_getElem.1 hy
  exact hl i j h (by omega) (by omega)⟩⟩
/-- A frame that holds nothing is put somewhere. -/
theorem pr_set {p : Pl} (h : PRight p) {i : Nat} (hi : i < p.fr.length) {z : Fr} (hz : ¬ z.holds) (hs : Sound p.d z p.tick) : PRight (setP p i z) := by
 unfold setP
 refine pr_mk h.dr (by simp only [List.length_set];exact h.l1) (by simp only [List.length_set];exact h.l2) (fun j hj=>?_) (fun a b ha hb hab=>?_)
 ·simp only [List.length_set] at hj
  simp only [List.getElem_set]
  split
  ·exact hs
  ·exact (h.ok j hj).1
 ·simp only [List.length_set] at ha hb
  simp only [List.getElem_set]
  split
  ·exact fun q=>hz q.1
  ·split
   ·exact fun q=>hz q.2.1
   ·exact pr_pair h ha hb hab
/-- What a write does to what is read. -/
theorem wr_read {d : D} {s data : ByteArray} {k : Int} (hR : Right d) (hdn : d.down = false) (hf : d.fuse ≤ 9223372036854775807) (h : (writeD d s k data).2 = 0) :
  Right (writeD d s k data).1 ∧ (writeD d s k data).1.down = false ∧ (writeD d s k data).1.fuse ≤ 9223372036854775807 ∧ data.size = 64 ∧ ∀ o a,readD (writeD d s k data).1 o a = if s = o ∧ k = a then (if (readD d o a).2 = 0 then (data,0) else readD d o a) else readD d o a:=by
 have ho:=opened_ok hR hdn (writeD d s k data)
 obtain ⟨hR,hdn,hp,hs,hl,f0,h1,h2,he⟩:=write_ok hf (show (opened d (writeD d s k data)).2 = 0 by rw [ho];exact h)
 rw [ho] at he
 rw [he]
 refine ⟨right_fuse (right_add hR hp hs hl) h1 _,hdn,h2,hs,fun o a=>?_⟩
 have hsee : seen { addW d (s,k,data) with fuse:=f0 } o a = if s = o ∧ k = a then data else seen d o a:=seen_add d s k data o a
 have hpe : placeD { addW d (s,k,data) with fuse:=f0 } o a = placeD d o a:=rfl
 rw [readD_see,hpe,hsee,readD_see]
 by_cases q2 : s = o ∧ k = a
 ·by_cases q : (placeD d o a).2 = 0
  ·simp [q,q2]
  ·simp [q,q2]
 ·by_cases q : (placeD d o a).2 = 0
  ·simp [q,q2]
  ·simp [q,q2]
theorem best_idle (fr : List Fr) : ∀ i, i ≤ fr.length → 0 ≤ bestF fr i → (fr.getD (bestF fr i).toNat F0).idle ∧ (bestF fr i).toNat < fr.length
 | 0,_,h=>by unfold bestF at h;omega
 | i + 1,hi,h=>by
  have ih:=best_idle fr i (by omega)
  unfold bestF at h ⊢
  split
  ·rename_i q;rw [Int.toNat_natCast];exact ⟨q.1,by omega⟩
  ·rename_i q;rw [if_neg q] at h;exact ih h
/-- A frame that is taken, of a right pool with power. -/
theorem take_ok {p : Pl} (h : PRight p) (hdn : p.d.down = false) (hf : p.d.fuse ≤ 9223372036854775807) (h0 : (takeP p).2.2 = 0) :
  ∃ (hi : (takeP p).2.1 < p.fr.length),p.fr[(takeP p).2.1].idle ∧ (takeP p).1.fr = p.fr.set (takeP p).2.1 F0 ∧ (takeP p).1.tick = p.tick ∧ (takeP p).1.reads = p.reads ∧ PRight (takeP p).1 ∧ (takeP p).1.d.down = false ∧ (takeP p).1.d.fuse ≤ 9223372036854775807 ∧
   ∀ o a,(readD (takeP p).1.d o a = readD p.d o a) ∨ (p.fr[(takeP p).2.1].name = o ∧ p.fr[(takeP p).2.1].sector = a):=by
 have hb:=bestF_le p.fr p.fr.length
 have hbi:=best_idle p.fr p.fr.length (Nat.le_refl _)
 unfold takeP at h0 ⊢
 by_cases q1 : p.fr.findIdx (fun x=>decide (x = F0)) < p.fr.length
 ·rw [if_pos q1]
  have he:=List.findIdx_getElem (w:=q1)
  simp only [decide_eq_true_eq] at he
  refine ⟨q1,.inl he,?_,rfl,rfl,h,hdn,hf,fun o a=>.inl rfl⟩
  have hs:=List.set_getElem_self q1
  rw [he] at hs
  exact hs.symm
 ·rw [if_neg q1] at h0 ⊢
  by_cases q2 : bestF p.fr p.fr.length < 0
  ·rw [if_pos q2] at h0;simp at h0
  ·rw [if_neg q2] at h0 ⊢
   obtain ⟨hid,hlt⟩:=hbi (by omega)
   rw [getD_at hlt] at hid
   by_cases q3 : (atF p (bestF p.fr p.fr.length).toNat).dirty = true
   ·rw [if_pos q3] at h0 ⊢
    generalize hm : (bestF p.fr p.fr.length).toNat = m at *
    by_cases q4 : (wrP p m).2 = 0
    ·rw [if_pos q4] at h0 ⊢
     have hwr:=wr_read h.dr hdn hf (show (writeD p.d (atF p m).name (atF p m).sector (atF p m).data).2 = 0 from q4)
     obtain ⟨hR,hd2,hf2,hs64,hrd⟩:=hwr
     have hfr : (wrP p m).1.fr = p.fr.set m { atF p m with dirty:=false }:=by unfold wrP;simp only;rw [if_pos (show (writeD p.d (atF p m).name (atF p m).sector (atF p m).data).2 = 0 from q4)]
     have hsf : (setP (wrP p m).1 m F0).fr = p.fr.set m F0:=by unfold setP;simp only [hfr,List.set_set]
     refine ⟨hlt,hid,hsf,rfl,rfl,?_,hd2,hf2,fun o a=>?_⟩
     ·refine pr_mk hR (by rw [hsf,List.length_set];exact h.l1) (by rw [hsf,List.length_set];exact h.l2) (fun j hj=>?_) (fun a b ha hb hab=>?_)
      ·have hj' : j < p.fr.length:=by rw [hsf,List.length_set] at hj;exact hj
       have e : (setP (wrP p m).1 m F0).fr[j] = (p.fr.set m F0)[j]'(by rw [List.length_set];exact hj'):=by simp only [hsf]
       rw [e,List.getElem_set]
       split
       ·exact sound0 _ _
       ·rename_i hne
        rcases (h.ok j hj').1 with hh | ⟨hh,hr,hrest⟩
        ·exact .inl hh
        ·have hnl:=pr_pair h hlt hj' hne
         have hrj : readD (writeD p.d (atF p m).name (atF p m).sector (atF p m).data).1 p.fr[j].name p.fr[j].sector = readD p.d p.fr[j].name p.fr[j].sector:=by
          rw [hrd]
          by_cases hs : (atF p m).name = p.fr[j].name ∧ (atF p m).sector = p.fr[j].sector
          ·exfalso
           rw [atF_eq hlt] at hs
           rcases hid with hid | hid
           ·rw [hid] at hs
            exact hh (by rw [← hs.1];rfl)
           ·exact hnl ⟨hid.1,hh,.inr hs⟩
          ·rw [if_neg hs]
         refine .inr ⟨hh,?_,?_⟩
         ·show (readD (writeD p.d (atF p m).name (atF p m).sector (atF p m).data).1 p.fr[j].name p.fr[j].sector).2 = 0
          rw [hrj];exact hr
         ·show _ ∧ _ ∧ _ ∧ _ ∧ _ ∧ _ ∧ (_ ∨ p.fr[j].data = (readD (writeD p.d (atF p m).name (atF p m).sector (atF p m).data).1 p.fr[j].name p.fr[j].sector).1)
          rw [hrj];exact hrest
      ·have ha' : a < p.fr.length:=by rw [hsf,List.length_set] at ha;exact ha
       have hb' : b < p.fr.length:=by rw [hsf,List.length_set] at hb;exact hb
       have ea : (setP (wrP p m).1 m F0).fr[a] = (p.fr.set m F0)[a]'(by rw [List.length_set];exact ha'):=by simp only [hsf]
       have eb : (setP (wrP p m).1 m F0).fr[b] = (p.fr.set m F0)[b]'(by rw [List.length_set];exact hb'):=by simp only [hsf]
       rw [ea,eb,List.getElem_set,List.getElem_set]
       split
       ·exact fun q=>nholds0 q.1
       ·split
        ·exact fun q=>nholds0 q.2.1
        ·exact pr_pair h ha' hb' hab
     ·show readD (writeD p.d (atF p m).name (atF p m).sector (atF p m).data).1 o a = _ ∨ _
      rw [hrd]
      by_cases hs : (atF p m).name = o ∧ (atF p m).sector = a
      ·right;rw [atF_eq hlt] at hs;exact hs
      ·left;rw [if_neg hs]
    ·rw [if_neg q4] at h0;exact absurd h0 q4
   ·rw [if_neg q3]
    generalize hm : (bestF p.fr p.fr.length).toNat = m at *
    refine ⟨hlt,hid,rfl,rfl,rfl,pr_set h hlt nholds0 (sound0 _ _),hdn,hf,fun o a=>.inl rfl⟩
end Go.Proofs.YtkeiphkccnfhoaaGreat
namespace Go.Proofs.YtkeiphkccnfhoaaGreat
open Go.RowKit
open Mv Disk
set_option maxRecDepth 4000
/-- What stands between two rounds. -/
structure RL where
  i : Nat
  y : Pl
  B : Mem
  qe : Option Addr
  de : Nat
  qw : Option Addr
  dw : Nat
  o : Option (Nat × Nat)
  l : List Int
def RL.C (z : RL) (b c : Nat) : List Value := [.int .i64 z.y.d.size, .slice z.qe z.y.d.ext.length z.de, .slice z.qw z.y.d.waits.length z.dw, .int .i64 z.y.d.fuse, .bool z.y.d.down, .slice (some ⟨b, 0, none⟩) z.y.fr.length c, .int .u64 z.y.tick, .int .u64 z.y.reads, .int .u64 z.y.writes]
def RL.M (z : RL) (b c b2 b4 b10 : Nat) (rA rZ rX : Blk) : Mem := (((z.B.set b (frB z.y.fr c)).set b2 rA).set b4 rZ).set b10 rX
structure RL.Ok (S : Mem) (b c b2 b4 b10 : Nat) (rA rZ rX : Blk) (z : RL) : Prop where
  hw : LW z.y
  hS : S.Less z.B
  hb : Fresh z.B b
  hlc : z.y.fr.length ≤ c
  hE : Sl 2 extF z.B (.slice z.qe z.y.d.ext.length z.de) z.y.d.ext
  hW : Sl 3 wrF z.B (.slice z.qw z.y.d.waits.length z.dw) z.y.d.waits
  g2 : Fresh z.B b2
  g4 : Fresh z.B b4
  g10 : Fresh z.B b10
  ho : OkO (z.M b c b2 b4 b10 rA rZ rX) z.o z.l.length
theorem RL.Ok.fr {S : Mem} {b c b2 b4 b10 : Nat} {rA rZ rX : Blk} {z : RL} (h : RL.Ok S b c b2 b4 b10 rA rZ rX z) (n2 : b2 ≠ b) (n4 : b4 ≠ b) (n42 : b4 ≠ b2) (n10 : b10 ≠ b) (n102 : b10 ≠ b2) (n104 : b10 ≠ b4) :
  Fresh (z.B.set b (frB z.y.fr c)) b2 ∧ Fresh ((z.B.set b (frB z.y.fr c)).set b2 rA) b4 ∧ Fresh (((z.B.set b (frB z.y.fr c)).set b2 rA).set b4 rZ) b10 :=
 ⟨fresh_more h.g2 n2,fresh_more (fresh_more h.g4 n4) n42,fresh_more (fresh_more (fresh_more h.g10 n10) n102) n104⟩
/-- A call of one who turns the pool, where boxes and a slice of numbers lie over it. -/
theorem rl_call {S : Mem} {b c b2 b4 b10 : Nat} {rA rZ rX : Blk} {z : RL} (h : RL.Ok S b c b2 b4 b10 rA rZ rX z) (n2 : b2 ≠ b) (n4 : b4 ≠ b) (n42 : b4 ≠ b2) (n10 : b10 ≠ b) (n102 : b10 ≠ b2) (n104 : b10 ≠ b4)
  {f : FuncId} {args : Array Value} {y' : Pl} {k : Value → Value → Prop} (hy : LW y')
  (hc : ∀ v T,RpB z.B b c z.y v T → v = .agg (z.C b c).toArray → ACall Tryz.prog f args T fun r T'=>∃ w,k r w ∧ RpB z.B b c y' w T') :
  ACall Tryz.prog f args (outN 1 (z.M b c b2 b4 b10 rA rZ rX) z.o 3 (z.l.flatMap i64s)) fun r S'=>∃ z' : RL,z'.i = z.i ∧ z'.y = y' ∧ z'.o = z.o ∧ z'.l = z.l ∧ k r (.agg (z'.C b c).toArray) ∧ RL.Ok S b c b2 b4 b10 rA rZ rX z' ∧ S' = outN 1 (z'.M b c b2 b4 b10 rA rZ rX) z'.o 3 (z'.l.flatMap i64s):=by
 obtain ⟨f2,f4,f10⟩:=h.fr (rA:=rA) (rZ:=rZ) n2 n4 n42 n10 n102 n104
 have hc1:=hc (.agg (z.C b c).toArray) (z.B.set b (frB z.y.fr c)) ⟨z.B,z.qe,z.de,z.qw,z.dw,Mem.Less.refl _,h.hb,h.hlc,h.hE,h.hW,rfl,rfl⟩ rfl
 refine ((((hc1.frame (r:=rA) f2).frame (r:=rZ) f4).frame (r:=rX) f10).frameO h.ho).mono fun r S' ⟨S5,⟨S4,⟨S3,⟨S2,⟨w,hk,B',qe',de',qw',dw',hBB,hfb,hlc,hE,hW,hw,hS2⟩,g2,hS3⟩,g4,hS4⟩,g10,hS5⟩,ho,hS'⟩=>?_
 subst hw hS2 hS3 hS4 hS5
 refine ⟨⟨z.i,y',B',qe',de',qw',dw',z.o,z.l⟩,rfl,rfl,rfl,rfl,hk,⟨hy,h.hS.trans hBB,hfb,hlc,hE,hW,(fresh_set g2).1,(fresh_set (fresh_set g4).1).1,(fresh_set (fresh_set (fresh_set g10).1).1).1,ho⟩,hS'⟩
theorem pin_read {p : Pl} {s : ByteArray} {n : Int} (h : PRight p) (hdn : p.d.down = false) (hf : p.d.fuse ≤ 9223372036854775807) (hn : ¬ p.fr.findIdx (isF s n) < p.fr.length) (hr : (readD p.d s n).2 = 0) (h0 : (takeP p).2.2 = 0) : readD (takeP p).1.d s n = readD p.d s n := by
 obtain ⟨hi,hid,_,_,_,_,_,_,hrd⟩:=take_ok h hdn hf h0
 rcases hrd s n with he | ⟨h1,h2⟩
 ·exact he
 ·exfalso
  by_cases hh : p.fr[(takeP p).2.1].holds
  ·refine hn ?_
   have ht : isF s n p.fr[(takeP p).2.1] = true:=decide_eq_true ⟨hh,h2,h1⟩
   exact List.findIdx_lt_length_of_exists ⟨_,List.getElem_mem hi,ht⟩
  ·have hs : s.size = 0:=by
    have : p.fr[(takeP p).2.1].name.size = 0:=by
     unfold Fr.holds at hh
     omega
    rw [h1] at this;exact this
   rw [readD_see] at hr
   by_cases q : (placeD p.d s n).2 ≠ 0
   ·rw [if_pos q] at hr;exact q hr
   ·obtain ⟨hh2,_,_⟩:=place0 (show (placeD p.d s n).2 = 0 by simpa using q)
    obtain ⟨hm,he⟩:=exOf_has h.dr.ex.asc hh2
    have:=(h.dr.ex.ok _ hm).1.1
    rw [he] at this
    exact this hs

/-- Behind a call that ends all: what is told lies over the pool's frames. -/
theorem rl_less2 {z : RL} {b c b2 b4 b10 bn : Nat} {rA rZ rX rn r4 : Blk} {e : TypeId} {cs : List Value} {m : Nat} (hb : Fresh z.B b) (g2 : Fresh z.B b2) (g4 : Fresh z.B b4) (g10 : Fresh z.B b10) (n2 : b2 ≠ b) (n4 : b4 ≠ b) (n42 : b4 ≠ b2) (n10 : b10 ≠ b) (n102 : b10 ≠ b2) (n104 : b10 ≠ b4)
  (ho : OkO (z.M b c b2 b4 b10 rA rZ rX) z.o m) (hn : Fresh (outN 1 (z.M b c b2 b4 b10 rA rZ rX) z.o e cs) bn) :
  (z.B.set b (frB z.y.fr c)).Less (((outN 1 (z.M b c b2 b4 b10 rA rZ rX) z.o e cs).set bn rn).set b4 r4):=by
 obtain ⟨hn1,hnq⟩:=fresh_outN hn
 unfold RL.M at *
 obtain ⟨hn2,nn10⟩:=fresh_set hn1
 obtain ⟨hn3,nn4⟩:=fresh_set hn2
 obtain ⟨hn4,nn2⟩:=fresh_set hn3
 obtain ⟨hn5,nnb⟩:=fresh_set hn4
 cases ho' : z.o with
 | none=>simp only [outN];exact less_
 | some q =>
  obtain ⟨q,cq⟩:=q
  obtain ⟨hq1,_⟩:=ho.own q cq ho'
  obtain ⟨hq2,nq10⟩:=fresh_set hq1
  obtain ⟨hq3,nq4⟩:=fresh_set hq2
  obtain ⟨hq4,nq2⟩:=fresh_set hq3
  obtain ⟨hq5,nqb⟩:=fresh_set hq4
  have nnq:=hnq q cq ho'
  simp only [outN];exact less_
theorem RL.Ok.own2 {S : Mem} {b c b2 b4 b10 : Nat} {rA rZ rX : Blk} {z : RL} (h : RL.Ok S b c b2 b4 b10 rA rZ rX z) (n2 : b2 ≠ b) (n4 : b4 ≠ b) (n42 : b4 ≠ b2) (n10 : b10 ≠ b) (n102 : b10 ≠ b2) (n104 : b10 ≠ b4) :
  (z.M b c b2 b4 b10 rA rZ rX).own b = some (frB z.y.fr c) ∧ (z.M b c b2 b4 b10 rA rZ rX).own b2 = some rA ∧ (z.M b c b2 b4 b10 rA rZ rX).own b4 = some rZ ∧ (z.M b c b2 b4 b10 rA rZ rX).own b10 = some rX :=
 ⟨(Mem.own_set_other _ _ (Ne.symm n10)).trans ((Mem.own_set_other _ _ (Ne.symm n4)).trans ((Mem.own_set_other _ _ (Ne.symm n2)).trans (Mem.own_set_same _ _ _))),(Mem.own_set_other _ _ (Ne.symm n102)).trans ((Mem.own_set_other _ _ (Ne.symm n42)).trans (Mem.own_set_same _ _ _)),(Mem.own_set_other _ _ (Ne.symm n104)).trans (Mem.own_set_same _ _ _),Mem.own_set_same _ _ _⟩
theorem RL.Ok.plR {S : Mem} {b c b2 b4 b10 : Nat} {rA rZ rX : Blk} {z : RL} (h : RL.Ok S b c b2 b4 b10 rA rZ rX z) : S.Less (z.B.set b (frB z.y.fr c)) ∧ PlR (z.B.set b (frB z.y.fr c)) (.agg (z.C b c).toArray) z.y :=
 RpB.plR ⟨z.B,z.qe,z.de,z.qw,z.dw,Mem.Less.refl _,h.hb,h.hlc,h.hE,h.hW,rfl,rfl⟩ h.hS h.hw.f
end Go.Proofs.YtkeiphkccnfhoaaGreat
namespace Go.Proofs.YtkeiphkccnfhoaaGreat
open Go.RowKit
open Mv Disk
set_option maxRecDepth 4000
theorem rl_less5 {z : RL} {b c b2 b4 b10 bn : Nat} {rA rZ rX rX' rn rn' : Blk} {e : TypeId} {cs : List Value} {fr' : List Fr} {m : Nat} (hb : Fresh z.B b) (g2 : Fresh z.B b2) (g4 : Fresh z.B b4) (g10 : Fresh z.B b10) (n2 : b2 ≠ b) (n4 : b4 ≠ b) (n42 : b4 ≠ b2) (n10 : b10 ≠ b) (n102 : b10 ≠ b2) (n104 : b10 ≠ b4)
  (ho : OkO (z.M b c b2 b4 b10 rA rZ rX) z.o m) (hn : Fresh (outN 1 (z.M b c b2 b4 b10 rA rZ rX) z.o e cs) bn) :
  ((((z.B.set b (frB fr' c)).set b2 rA).set b4 rZ).set b10 rX').Less (((((outN 1 (z.M b c b2 b4 b10 rA rZ rX) z.o e cs).set bn rn).set b (frB fr' c)).set bn rn').set b10 rX'):=by
 obtain ⟨hn1,hnq⟩:=fresh_outN hn
 unfold RL.M at *
 obtain ⟨hn2,nn10⟩:=fresh_set hn1
 obtain ⟨hn3,nn4⟩:=fresh_set hn2
 obtain ⟨hn4,nn2⟩:=fresh_set hn3
 obtain ⟨hn5,nnb⟩:=fresh_set hn4
 cases ho' : z.o with
 | none=>simp only [outN];exact less_
 | some q =>
  obtain ⟨q,cq⟩:=q
  obtain ⟨hq1,_⟩:=ho.own q cq ho'
  obtain ⟨hq2,nq10⟩:=fresh_set hq1
  obtain ⟨hq3,nq4⟩:=fresh_set hq2
  obtain ⟨hq4,nq2⟩:=fresh_set hq3
  obtain ⟨hq5,nqb⟩:=fresh_set hq4
  have nnq:=hnq q cq ho'
  simp only [outN];exact less_
/-- A sector is read, of a disk whose answer is known. -/
theorem rd_ReadM (v : Value) (d : D) (s : ByteArray) (k : Int) (S : Mem) (hd : DkR S v d) (hz : Dz d) {q : ByteArray × Int} (h : readO d s k = q) :
  ACall Tryz.prog 36 #[v,.string s,.int .i64 k] S fun r S'=>r = .tuple #[.string q.1,.int .i64 q.2] ∧ S' = S:=by
 have:=rd_Read v d s k S hd hz
 rw [h] at this;exact this
set_option maxHeartbeats 8000000 in
theorem rp_Pin (v : Value) (x : Pl) (s : ByteArray) (n : Int) (S : Mem) (hp : PlR S v x) (hz : Dz x.d) (hf : x.fr.length * 72 ≤ 140737488351232) :
  ACall Tryz.prog 7 #[v,.string s,.int .i64 n] S (PlN (openedN x (pinP x s n)) S):=by
 have hpow:=fun M h=>rp_power v x M h hz
 have hasw:=rp_as v x (openP x).2 S hp hz hf
 have hcopy:=rp_Copy v x S hp hz hf
 have hcopyR:=fun M h=>rp_CopyR v x M h hz hf
 obtain ⟨pe,ce,pw,cw,pf,cf,rfl,hE,hW,hF⟩:=id hp
 unfold openedN
 rcases openP_or x with ⟨ho',hR⟩ | ⟨ho',hR,hdn⟩ | ⟨ho',hR,hdn⟩ <;> rw [ho'] at hpow hasw ⊢
 ·rw [if_neg (show ¬ (2 : Int) = 0 from by decide)]
  refine ACall.enter (rs:=[.cell 6 29,.tmp 7,.tmp 8]) 118 [(0,.agg #[.int .i64 x.d.size,.slice pe x.d.ext.length ce,.slice pw x.d.waits.length cw,.int .i64 x.d.fuse,.bool x.d.down,.slice pf x.fr.length cf,.int .u64 x.tick,.int .u64 x.reads,.int .u64 x.writes]),(1,.string s),(2,.int .i64 n)] Tryz.func7 rfl rfl (Nat.le_of_ble_eq_true rfl) rfl ⟨rfl,rfl,rfl,trivial⟩ ?_
  refine k_a ?_
  refine k_b9 rfl ?_
  intro b3 f3
  have g3:=f3
  repeat ((with_reducible replace g3:=fresh_set g3);obtain ⟨g3,_⟩:=g3)
  try simp only [k_l1,k_l0,k_za,Nat.reduceAdd]
  refine ARun.alloc (lit_lt rfl) ty_zero_29 ?_
  intro b6 f6
  have g6:=f6
  repeat ((with_reducible replace g6:=fresh_set g6);obtain ⟨g6,_⟩:=g6)
  try simp only [k_l1,k_l0,k_za,Nat.reduceAdd]
  refine k_s rfl (k_e rfl (k_a ?_))
  refine k_9 ty_agg_29 ty_size_29 rfl ?_
  refine ARun.call (lit_lt rfl) go_33 rfl (hpow _ (hp.less less_)) ?_
  rintro _ S1 ⟨rfl,h1⟩
  rw [h1];clear h1 S1
  refine k_e rfl ?_
  refine k_u [(0,_),(1,_),(2,_),(3,_),(6,_),(7,_),(8,_),(9,_)] ?_
  refine AWP.seq (k_a (k_m rfl ?_))
  refine rC (Calm.bin rfl rfl b_neq) ?_
  refine k_n ?_
  refine k_u [(0,_),(1,_),(2,_),(3,_),(6,_),(7,_),(8,_),(9,_),(23,_)] ?_
  refine k_T rfl ?_
  refine k_a ?_
  refine k_9 ty_agg_29 ty_size_29 rfl ?_
  refine k_m rfl ?_
  refine ARun.call (lit_lt rfl) go_34 rfl ((hasw.frame f3).frame f6) ?_
  rintro _ S1 ⟨Sa,⟨M,⟨w,rfl,hSM,hpl⟩,fa,hSa⟩,fb,h1⟩
  rw [h1,hSa];rw [hSa] at fb;clear h1 S1 hSa Sa
  obtain ⟨fbm,n21⟩:=fresh_set fb
  obtain ⟨qe,de,qw,dw,qf,df,rfl,hE2,hW2,hF2⟩:=id hpl
  refine k_m rfl ?_
  refine rC (Calm.extract rfl rfl) ?_
  refine rC (Calm.extract rfl rfl) ?_
  refine ARun.alloc (lit_lt rfl) ty_zero_29 ?_
  intro b10 f10
  have g10:=f10
  repeat ((with_reducible replace g10:=fresh_set g10);obtain ⟨g10,_⟩:=g10)
  try simp only [k_l1,k_l0,k_za,Nat.reduceAdd]
  first|refine k_A rfl rfl ty_size_29 ?_|refine k_B rfl rfl ty_size_29 ?_
  try simp only [k_ms,k_sz,k_ss,k_za,Nat.reduceAdd]
  refine k_e rfl ?_
  refine k_u [(0,_),(1,_),(2,_),(3,_),(6,_),(7,_),(8,_),(9,_),(23,_),(10,_),(11,_)] ?_
  refine k_a ?_
  refine k_9 ty_agg_29 ty_size_29 rfl ?_
  refine k_m rfl ?_
  first|refine k_A rfl rfl ty_size_29 ?_|refine k_B rfl rfl ty_size_29 ?_
  try simp only [k_ms,k_sz,k_ss,k_za,Nat.reduceAdd]
  refine k_s rfl (k_e rfl ?_)
  refine k_u [(0,_),(1,_),(2,_),(3,_),(6,_),(7,_),(8,_),(9,_),(23,_),(10,_),(11,_)] ?_
  refine k_r ?_
  refine ⟨_,M,⟨_,_,_,rfl,.inr ⟨ty_agg_29,[_,_,_,_,_,_,_,_,_],ty_size_29,rds_,rfl⟩,⟨_,_,rfl,⟨_,_,rfl,rfl,rfl⟩,rfl⟩,rfl⟩,less_,?_⟩
  exact ⟨_,rfl,hSM,hpl⟩
 ·rw [if_neg (show ¬ (10 : Int) = 0 from by decide)]
  refine ACall.enter (rs:=[.cell 6 29,.tmp 7,.tmp 8]) 118 [(0,.agg #[.int .i64 x.d.size,.slice pe x.d.ext.length ce,.slice pw x.d.waits.length cw,.int .i64 x.d.fuse,.bool x.d.down,.slice pf x.fr.length cf,.int .u64 x.tick,.int .u64 x.reads,.int .u64 x.writes]),(1,.string s),(2,.int .i64 n)] Tryz.func7 rfl rfl (Nat.le_of_ble_eq_true rfl) rfl ⟨rfl,rfl,rfl,trivial⟩ ?_
  refine k_a ?_
  refine k_b9 rfl ?_
  intro b3 f3
  have g3:=f3
  repeat ((with_reducible replace g3:=fresh_set g3);obtain ⟨g3,_⟩:=g3)
  try simp only [k_l1,k_l0,k_za,Nat.reduceAdd]
  refine ARun.alloc (lit_lt rfl) ty_zero_29 ?_
  intro b6 f6
  have g6:=f6
  repeat ((with_reducible replace g6:=fresh_set g6);obtain ⟨g6,_⟩:=g6)
  try simp only [k_l1,k_l0,k_za,Nat.reduceAdd]
  refine k_s rfl (k_e rfl (k_a ?_))
  refine k_9 ty_agg_29 ty_size_29 rfl ?_
  refine ARun.call (lit_lt rfl) go_33 rfl (hpow _ (hp.less less_)) ?_
  rintro _ S1 ⟨rfl,h1⟩
  rw [h1];clear h1 S1
  refine k_e rfl ?_
  refine k_u [(0,_),(1,_),(2,_),(3,_),(6,_),(7,_),(8,_),(9,_)] ?_
  refine AWP.seq (k_a (k_m rfl ?_))
  refine rC (Calm.bin rfl rfl b_neq) ?_
  refine k_n ?_
  refine k_u [(0,_),(1,_),(2,_),(3,_),(6,_),(7,_),(8,_),(9,_),(23,_)] ?_
  refine k_T rfl ?_
  refine k_a ?_
  refine k_9 ty_agg_29 ty_size_29 rfl ?_
  refine k_m rfl ?_
  refine ARun.call (lit_lt rfl) go_34 rfl ((hasw.frame f3).frame f6) ?_
  rintro _ S1 ⟨Sa,⟨M,⟨w,rfl,hSM,hpl⟩,fa,hSa⟩,fb,h1⟩
  rw [h1,hSa];rw [hSa] at fb;clear h1 S1 hSa Sa
  obtain ⟨fbm,n21⟩:=fresh_set fb
  obtain ⟨qe,de,qw,dw,qf,df,rfl,hE2,hW2,hF2⟩:=id hpl
  refine k_m rfl ?_
  refine rC (Calm.extract rfl rfl) ?_
  refine rC (Calm.extract rfl rfl) ?_
  refine ARun.alloc (lit_lt rfl) ty_zero_29 ?_
  intro b10 f10
  have g10:=f10
  repeat ((with_reducible replace g10:=fresh_set g10);obtain ⟨g10,_⟩:=g10)
  try simp only [k_l1,k_l0,k_za,Nat.reduceAdd]
  first|refine k_A rfl rfl ty_size_29 ?_|refine k_B rfl rfl ty_size_29 ?_
  try simp only [k_ms,k_sz,k_ss,k_za,Nat.reduceAdd]
  refine k_e rfl ?_
  refine k_u [(0,_),(1,_),(2,_),(3,_),(6,_),(7,_),(8,_),(9,_),(23,_),(10,_),(11,_)] ?_
  refine k_a ?_
  refine k_9 ty_agg_29 ty_size_29 rfl ?_
  refine k_m rfl ?_
  first|refine k_A rfl rfl ty_size_29 ?_|refine k_B rfl rfl ty_size_29 ?_
  try simp only [k_ms,k_sz,k_ss,k_za,Nat.reduceAdd]
  refine k_s rfl (k_e rfl ?_)
  refine k_u [(0,_),(1,_),(2,_),(3,_),(6,_),(7,_),(8,_),(9,_),(23,_),(10,_),(11,_)] ?_
  refine k_r ?_
  refine ⟨_,M,⟨_,_,_,rfl,.inr ⟨ty_agg_29,[_,_,_,_,_,_,_,_,_],ty_size_29,rds_,rfl⟩,⟨_,_,rfl,⟨_,_,rfl,rfl,rfl⟩,rfl⟩,rfl⟩,less_,?_⟩
  exact ⟨_,rfl,hSM,hpl⟩
 ·rw [if_pos rfl]
  have hw:=right_PW hR hz hdn
  have hl1:=hw.l1
  have h256:=hw.l2
  have hfi:=fun v M h=>rp_find v x s n M h
  by_cases q0 : x.fr.findIdx (isF s n) < x.fr.length
  ·simp only [if_pos q0] at hfi
   generalize hI : x.fr.findIdx (isF s n) = i at *
   have hpn:=hw.pn _ (atF_mem q0)
   by_cases qp : (atF x i).pins = 256
   ·have hL : pinP x s n = (x,0,11):=by unfold pinP;rw [hI,if_pos q0,if_pos qp]
    rw [hL]
    refine ACall.enter (rs:=[.cell 6 29,.tmp 7,.tmp 8]) 118 [(0,.agg #[.int .i64 x.d.size,.slice pe x.d.ext.length ce,.slice pw x.d.waits.length cw,.int .i64 x.d.fuse,.bool x.d.down,.slice pf x.fr.length cf,.int .u64 x.tick,.int .u64 x.reads,.int .u64 x.writes]),(1,.string s),(2,.int .i64 n)] Tryz.func7 rfl rfl (Nat.le_of_ble_eq_true rfl) rfl ⟨rfl,rfl,rfl,trivial⟩ ?_
    refine k_a ?_
    refine k_b9 rfl ?_
    intro b3 f3
    have g3:=f3
    repeat ((with_reducible replace g3:=fresh_set g3);obtain ⟨g3,_⟩:=g3)
    try simp only [k_l1,k_l0,k_za,Nat.reduceAdd]
    refine ARun.alloc (lit_lt rfl) ty_zero_29 ?_
    intro b6 f6
    have g6:=f6
    repeat ((with_reducible replace g6:=fresh_set g6);obtain ⟨g6,_⟩:=g6)
    try simp only [k_l1,k_l0,k_za,Nat.reduceAdd]
    refine k_s rfl (k_e rfl (k_a ?_))
    refine k_9 ty_agg_29 ty_size_29 rfl ?_
    refine ARun.call (lit_lt rfl) go_33 rfl (hpow _ (hp.less less_)) ?_
    rintro _ S1 ⟨rfl,h1⟩
    rw [h1];clear h1 S1
    refine k_e rfl ?_
    refine k_u [(0,_),(1,_),(2,_),(3,_),(6,_),(7,_),(8,_),(9,_)] ?_
    refine AWP.seq (k_a (k_m rfl ?_))
    refine rC (Calm.bin rfl rfl b_neq) ?_
    refine k_n ?_
    refine k_u [(0,_),(1,_),(2,_),(3,_),(6,_),(7,_),(8,_),(9,_),(23,_)] ?_
    refine k_F rfl ?_
    refine k_k (k_a ?_)
    refine k_9 ty_agg_29 ty_size_29 rfl ?_
    refine ARun.call (lit_lt rfl) go_5 rfl ((hcopy.frame f3).frame f6) ?_
    rintro _ S1 ⟨Sa,⟨T0,⟨B,oF,qe,de,qw,dw,hSB,ho,hE2,hW2,rfl,hT0⟩,fa,hSa⟩,fb,h1⟩
    obtain ⟨b,c,rfl⟩:=ho.some (by omega)
    obtain ⟨hbB,hlc⟩:=ho.own b c rfl
    have hT0' : T0 = B.set b (frB x.fr c):=hT0
    rw [hSa] at fb;rw [hT0'] at fa fb;rw [h1,hSa,hT0'];clear h1 S1 hSa Sa hT0 hT0' T0
    obtain ⟨hAB,nAb⟩:=fresh_set fa
    obtain ⟨hRb,nRA⟩:=fresh_set fb
    obtain ⟨hRB,nRb⟩:=fresh_set hRb
    rw [show outV (some (b,c)) x.fr.length = .slice (some ⟨b,0,none⟩) x.fr.length c from rfl]
    refine ARun.alloc (lit_lt rfl) ty_zero_29 ?_
    intro b12 f12
    have g12:=f12
    repeat ((with_reducible replace g12:=fresh_set g12);obtain ⟨g12,_⟩:=g12)
    try simp only [k_l1,k_l0,k_za,Nat.reduceAdd]
    first|refine k_A rfl rfl ty_size_29 ?_|refine k_B rfl rfl ty_size_29 ?_
    try simp only [k_ms,k_sz,k_ss,k_za,Nat.reduceAdd]
    refine k_n ?_
    refine k_u [(0,_),(1,_),(2,_),(3,_),(6,_),(7,_),(8,_),(9,_),(23,_),(12,_)] ?_
    obtain ⟨h12a,n126⟩:=fresh_set f12
    obtain ⟨h12b,n123⟩:=fresh_set h12a
    obtain ⟨h12c,n12⟩:=fresh_set h12b
    have hyB:=rpB_like (y:=x) hbB hlc hE2 hW2 rfl rfl
    obtain ⟨hST,hpl⟩:=hyB.plR hSB h256
    refine k_a ?_
    refine k_9 ty_agg_29 ty_size_29 rfl ?_
    refine k_m rfl (k_m rfl ?_)
    refine ARun.call (lit_lt rfl) go_35 rfl (hfi _ _ (hpl.less less_)) ?_
    rintro _ S1 ⟨rfl,h1⟩
    rw [h1];clear h1 S1
    have hkj:=atF_kn (B:=B) (b:=b) (c:=c) q0
    obtain ⟨_,_,_,kp,_,_,_⟩:=kn_fr hkj
    refine k_e rfl ?_
    refine k_u [(0,_),(1,_),(2,_),(3,_),(6,_),(7,_),(8,_),(9,_),(23,_),(12,_),(13,_)] ?_
    refine AWP.seq (k_a (k_m rfl ?_))
    refine rC (Calm.bin rfl rfl (bin_bool (bin_geq _ _) (decide_eq_true (by omega)))) ?_
    refine k_m rfl ?_
    first|refine k_q 40 ?_|refine rG 40 (Calm.fieldAddr ty_field_29_1 rfl) ?_
    first|refine k_q 40 ?_|refine rG 40 (ld_ ty_plain_26 rfl) ?_
    first|refine k_q 40 ?_|refine rG 40 (Calm.move rfl) ?_
    first|refine k_q 40 ?_|refine rG 40 (Calm.indexS Tryz.underlying26 ty_size_62 rfl rfl (by omega) (by omega)) ?_
    first|refine k_q 40 ?_|refine rG 40 (Calm.fieldAddr ty_field_62_3 rfl) ?_
    first|refine k_q 40 ?_|refine rG 40 (ld_ ty_plain_3 rfl) ?_
    first|refine k_q 40 ?_|refine rG 40 (Calm.bin rfl rfl (bin_bool (bin_eql _ _) (decide_eq_true qp))) ?_
    first|refine k_t rfl rfl ?_|refine k_f rfl rfl ?_
    refine k_n ?_
    refine k_u [(0,_),(1,_),(2,_),(3,_),(6,_),(7,_),(8,_),(9,_),(23,_),(12,_),(13,_),(48,_)] ?_
    refine k_T rfl ?_
    refine k_a ?_
    refine k_9 ty_agg_29 ty_size_29 rfl ?_
    first|refine k_A rfl rfl ty_size_29 ?_|refine k_B rfl rfl ty_size_29 ?_
    try simp only [k_ms,k_sz,k_ss,k_za,Nat.reduceAdd]
    refine k_s rfl (k_e rfl ?_)
    refine k_u [(0,_),(1,_),(2,_),(3,_),(6,_),(7,_),(8,_),(9,_),(23,_),(12,_),(13,_),(48,_)] ?_
    refine k_r ?_
    refine ⟨_,B.set b (frB x.fr c),⟨_,_,_,rfl,.inr ⟨ty_agg_29,[_,_,_,_,_,_,_,_,_],ty_size_29,rds_,rfl⟩,⟨_,_,rfl,⟨_,_,rfl,rfl,rfl⟩,rfl⟩,rfl⟩,less_,?_⟩
    exact ⟨_,rfl,hST,hpl⟩
   ·have hL : pinP x s n = (pin1 x i,i,0):=by unfold pinP;rw [hI,if_pos q0,if_neg qp]
    rw [hL]
    refine ACall.enter (rs:=[.cell 6 29,.tmp 7,.tmp 8]) 118 [(0,.agg #[.int .i64 x.d.size,.slice pe x.d.ext.length ce,.slice pw x.d.waits.length cw,.int .i64 x.d.fuse,.bool x.d.down,.slice pf x.fr.length cf,.int .u64 x.tick,.int .u64 x.reads,.int .u64 x.writes]),(1,.string s),(2,.int .i64 n)] Tryz.func7 rfl rfl (Nat.le_of_ble_eq_true rfl) rfl ⟨rfl,rfl,rfl,trivial⟩ ?_
    refine k_a ?_
    refine k_b9 rfl ?_
    intro b3 f3
    have g3:=f3
    repeat ((with_reducible replace g3:=fresh_set g3);obtain ⟨g3,_⟩:=g3)
    try simp only [k_l1,k_l0,k_za,Nat.reduceAdd]
    refine ARun.alloc (lit_lt rfl) ty_zero_29 ?_
    intro b6 f6
    have g6:=f6
    repeat ((with_reducible replace g6:=fresh_set g6);obtain ⟨g6,_⟩:=g6)
    try simp only [k_l1,k_l0,k_za,Nat.reduceAdd]
    refine k_s rfl (k_e rfl (k_a ?_))
    refine k_9 ty_agg_29 ty_size_29 rfl ?_
    refine ARun.call (lit_lt rfl) go_33 rfl (hpow _ (hp.less less_)) ?_
    rintro _ S1 ⟨rfl,h1⟩
    rw [h1];clear h1 S1
    refine k_e rfl ?_
    refine k_u [(0,_),(1,_),(2,_),(3,_),(6,_),(7,_),(8,_),(9,_)] ?_
    refine AWP.seq (k_a (k_m rfl ?_))
    refine rC (Calm.bin rfl rfl b_neq) ?_
    refine k_n ?_
    refine k_u [(0,_),(1,_),(2,_),(3,_),(6,_),(7,_),(8,_),(9,_),(23,_)] ?_
    refine k_F rfl ?_
    refine k_k (k_a ?_)
    refine k_9 ty_agg_29 ty_size_29 rfl ?_
    refine ARun.call (lit_lt rfl) go_5 rfl ((hcopy.frame f3).frame f6) ?_
    rintro _ S1 ⟨Sa,⟨T0,⟨B,oF,qe,de,qw,dw,hSB,ho,hE2,hW2,rfl,hT0⟩,fa,hSa⟩,fb,h1⟩
    obtain ⟨b,c,rfl⟩:=ho.some (by omega)
    obtain ⟨hbB,hlc⟩:=ho.own b c rfl
    have hT0' : T0 = B.set b (frB x.fr c):=hT0
    rw [hSa] at fb;rw [hT0'] at fa fb;rw [h1,hSa,hT0'];clear h1 S1 hSa Sa hT0 hT0' T0
    obtain ⟨hAB,nAb⟩:=fresh_set fa
    obtain ⟨hRb,nRA⟩:=fresh_set fb
    obtain ⟨hRB,nRb⟩:=fresh_set hRb
    rw [show outV (some (b,c)) x.fr.length = .slice (some ⟨b,0,none⟩) x.fr.length c from rfl]
    refine ARun.alloc (lit_lt rfl) ty_zero_29 ?_
    intro b12 f12
    have g12:=f12
    repeat ((with_reducible replace g12:=fresh_set g12);obtain ⟨g12,_⟩:=g12)
    try simp only [k_l1,k_l0,k_za,Nat.reduceAdd]
    first|refine k_A rfl rfl ty_size_29 ?_|refine k_B rfl rfl ty_size_29 ?_
    try simp only [k_ms,k_sz,k_ss,k_za,Nat.reduceAdd]
    refine k_n ?_
    refine k_u [(0,_),(1,_),(2,_),(3,_),(6,_),(7,_),(8,_),(9,_),(23,_),(12,_)] ?_
    obtain ⟨h12a,n126⟩:=fresh_set f12
    obtain ⟨h12b,n123⟩:=fresh_set h12a
    obtain ⟨h12c,n12⟩:=fresh_set h12b
    have hyB:=rpB_like (y:=x) hbB hlc hE2 hW2 rfl rfl
    obtain ⟨hST,hpl⟩:=hyB.plR hSB h256
    refine k_a ?_
    refine k_9 ty_agg_29 ty_size_29 rfl ?_
    refine k_m rfl (k_m rfl ?_)
    refine ARun.call (lit_lt rfl) go_35 rfl (hfi _ _ (hpl.less less_)) ?_
    rintro _ S1 ⟨rfl,h1⟩
    rw [h1];clear h1 S1
    have hkj:=atF_kn (B:=B) (b:=b) (c:=c) q0
    obtain ⟨_,_,_,kp,_,_,_⟩:=kn_fr hkj
    refine k_e rfl ?_
    refine k_u [(0,_),(1,_),(2,_),(3,_),(6,_),(7,_),(8,_),(9,_),(23,_),(12,_),(13,_)] ?_
    refine AWP.seq (k_a (k_m rfl ?_))
    refine rC (Calm.bin rfl rfl (bin_bool (bin_geq _ _) (decide_eq_true (by omega)))) ?_
    refine k_m rfl ?_
    first|refine k_q 40 ?_|refine rG 40 (Calm.fieldAddr ty_field_29_1 rfl) ?_
    first|refine k_q 40 ?_|refine rG 40 (ld_ ty_plain_26 rfl) ?_
    first|refine k_q 40 ?_|refine rG 40 (Calm.move rfl) ?_
    first|refine k_q 40 ?_|refine rG 40 (Calm.indexS Tryz.underlying26 ty_size_62 rfl rfl (by omega) (by omega)) ?_
    first|refine k_q 40 ?_|refine rG 40 (Calm.fieldAddr ty_field_62_3 rfl) ?_
    first|refine k_q 40 ?_|refine rG 40 (ld_ ty_plain_3 rfl) ?_
    first|refine k_q 40 ?_|refine rG 40 (Calm.bin rfl rfl (bin_bool (bin_eql _ _) (decide_eq_false qp))) ?_
    first|refine k_t rfl rfl ?_|refine k_f rfl rfl ?_
    refine k_n ?_
    refine k_u [(0,_),(1,_),(2,_),(3,_),(6,_),(7,_),(8,_),(9,_),(23,_),(12,_),(13,_),(48,_)] ?_
    refine k_F rfl ?_
    refine k_k (AWP.seq (k_a (k_m rfl ?_)))
    refine rC (Calm.bin rfl rfl b_lss) ?_
    refine k_n ?_
    refine k_u [(0,_),(1,_),(2,_),(3,_),(6,_),(7,_),(8,_),(9,_),(23,_),(12,_),(13,_),(48,_),(51,_)] ?_
    refine k_F rfl ?_
    have hiy:=q0
    have hbB':=hbB
    have hlc':=hlc
    have hE':=hE2
    have hW':=hW2
    have hSB':=hSB
    have hy256:=h256
    refine k_k (k_a ?_)
    refine rC (Calm.fieldAddr ty_field_29_2 rfl) ?_
    refine rC (ld_ ty_plain_27 rfl) ?_
    refine rC (Calm.bin rfl rfl b_add_u64) ?_
    refine rC (Calm.fieldAddr ty_field_29_2 rfl) ?_
    refine ARun.store1 rfl rfl ty_size_27 rfl own_ lens_ rfl ?_
    try simp only [k_ms,k_sz,k_ss,k_za,Nat.reduceAdd]
    refine k_n ?_
    refine k_u [(0,_),(1,_),(2,_),(3,_),(6,_),(7,_),(8,_),(9,_),(23,_),(12,_),(13,_),(48,_),(51,_)] ?_
    refine k_a ?_
    refine rC (Calm.fieldAddr ty_field_29_1 rfl) ?_
    refine rC (ld_ ty_plain_26 rfl) ?_
    refine k_m rfl ?_
    refine rC (Calm.fieldAddr ty_field_29_2 rfl) ?_
    refine rC (ld_ ty_plain_27 rfl) ?_
    refine rC (Calm.indexS Tryz.underlying26 ty_size_62 rfl rfl (by omega) (by omega)) ?_
    refine rC (Calm.fieldAddr ty_field_62_5 rfl) ?_
    refine ARun.storeFr1 (c:=c) (i:=i) (l:=x.fr) (q:=5) (u:={ atF x i with tick:=up1 x.tick }) rfl rfl rfl rfl (by omega) (by decide) hiy (by rw [atF_eq hiy];rfl) ty_size_27 own_ ?_
    try simp only [k_ms,k_sz,k_ss,k_za,Nat.reduceAdd]
    refine k_n ?_
    refine k_u [(0,_),(1,_),(2,_),(3,_),(6,_),(7,_),(8,_),(9,_),(23,_),(12,_),(13,_),(48,_),(51,_)] ?_
    refine AWP.less ((((B.set b (frB (x.fr.set i { atF x i with tick:=up1 x.tick }) c)).set b3 ⟨29,[.int .i64 x.d.size,.slice pe x.d.ext.length ce,.slice pw x.d.waits.length cw,.int .i64 x.d.fuse,.bool x.d.down,.slice pf x.fr.length cf,.int .u64 x.tick,.int .u64 x.reads,.int .u64 x.writes],9⟩).set b6 ⟨29,[.int .i64 0,.slice none 0 0,.slice none 0 0,.int .i64 0,.bool false,.slice none 0 0,.int .u64 0,.int .u64 0,.int .u64 0],9⟩).set b12 ⟨29,[.int .i64 x.d.size,.slice qe x.d.ext.length de,.slice qw x.d.waits.length dw,.int .i64 x.d.fuse,.bool x.d.down,.slice (some ⟨b,0,none⟩) x.fr.length c,.int .u64 (up1 x.tick),.int .u64 x.reads,.int .u64 x.writes],9⟩) less_ ?_
    have hi2 : i < (x.fr.set i ({ atF x i with tick:=up1 x.tick })).length:=by rw [List.length_set];exact hiy
    have hkp:=fr_kn (B:=B) (b:=b) (c:=c) hi2
    rw [List.getElem_set_self] at hkp
    obtain ⟨_,_,_,kp2,_,_,_⟩:=kn_fr hkp
    simp only at kp2
    refine k_a ?_
    refine rC (Calm.fieldAddr ty_field_29_1 rfl) ?_
    refine rC (ld_ ty_plain_26 rfl) ?_
    refine k_m rfl ?_
    refine rC (Calm.indexS Tryz.underlying26 ty_size_62 rfl rfl (by omega) (by omega)) ?_
    refine rC (Calm.fieldAddr ty_field_62_3 rfl) ?_
    refine rC (ld_ ty_plain_3 rfl) ?_
    refine rC (Calm.bin rfl rfl b_add_i64) ?_
    refine rC (Calm.indexS Tryz.underlying26 ty_size_62 rfl rfl (by omega) (by omega)) ?_
    refine rC (Calm.fieldAddr ty_field_62_3 rfl) ?_
    refine ARun.storeFr1 (c:=c) (i:=i) (l:=x.fr.set i ({ atF x i with tick:=up1 x.tick })) (q:=3) (u:={ atF x i with tick:=up1 x.tick,pins:=(atF x i).pins + 1 }) rfl rfl rfl rfl (by omega) (by decide) hi2 (by rw [List.getElem_set_self];rfl) ty_size_3 own_ ?_
    try simp only [k_ms,k_sz,k_ss,k_za,Nat.reduceAdd]
    refine k_n ?_
    refine k_u [(0,_),(1,_),(2,_),(3,_),(6,_),(7,_),(8,_),(9,_),(23,_),(12,_),(13,_),(48,_),(51,_)] ?_
    have hyB:=rpB_like (y:=pin1 x i) hbB' hlc' hE' hW' rfl (by unfold pin1;simp)
    obtain ⟨hSTf,hplf⟩:=hyB.plR hSB' (by unfold pin1;simp only [List.length_set];exact hy256)
    refine k_a ?_
    refine k_9 ty_agg_29 ty_size_29 rfl ?_
    refine k_m rfl ?_
    first|refine k_A rfl rfl ty_size_29 ?_|refine k_B rfl rfl ty_size_29 ?_
    try simp only [k_ms,k_sz,k_ss,k_za,Nat.reduceAdd]
    refine k_s rfl (k_e rfl ?_)
    refine k_u [(0,_),(1,_),(2,_),(3,_),(6,_),(7,_),(8,_),(9,_),(23,_),(12,_),(13,_),(48,_),(51,_)] ?_
    refine AWP.ret ?_
    refine ⟨_,B.set b (frB (pin1 x i).fr c),⟨_,_,_,rfl,.inr ⟨ty_agg_29,[_,_,_,_,_,_,_,_,_],ty_size_29,rds_,rfl⟩,⟨_,_,rfl,⟨_,_,rfl,rfl,rfl⟩,rfl⟩,rfl⟩,(by unfold pin1;rw [List.set_set];exact less_),?_⟩
    exact ⟨_,rfl,hSTf,hplf⟩
  ·simp only [if_neg q0] at hfi
   have hro : readO x.d s n = readD x.d s n:=by unfold readO;rw [open_ok hR.dr hdn,if_neg (by simp)]
   by_cases q1 : (readD x.d s n).2 ≠ 0
   ·have hL : pinP x s n = (x,0,(readD x.d s n).2):=by unfold pinP;rw [if_neg q0,if_pos q1]
    rw [hL]
    refine ACall.enter (rs:=[.cell 6 29,.tmp 7,.tmp 8]) 118 [(0,.agg #[.int .i64 x.d.size,.slice pe x.d.ext.length ce,.slice pw x.d.waits.length cw,.int .i64 x.d.fuse,.bool x.d.down,.slice pf x.fr.length cf,.int .u64 x.tick,.int .u64 x.reads,.int .u64 x.writes]),(1,.string s),(2,.int .i64 n)] Tryz.func7 rfl rfl (Nat.le_of_ble_eq_true rfl) rfl ⟨rfl,rfl,rfl,trivial⟩ ?_
    refine k_a ?_
    refine k_b9 rfl ?_
    intro b3 f3
    have g3:=f3
    repeat ((with_reducible replace g3:=fresh_set g3);obtain ⟨g3,_⟩:=g3)
    try simp only [k_l1,k_l0,k_za,Nat.reduceAdd]
    refine ARun.alloc (lit_lt rfl) ty_zero_29 ?_
    intro b6 f6
    have g6:=f6
    repeat ((with_reducible replace g6:=fresh_set g6);obtain ⟨g6,_⟩:=g6)
    try simp only [k_l1,k_l0,k_za,Nat.reduceAdd]
    refine k_s rfl (k_e rfl (k_a ?_))
    refine k_9 ty_agg_29 ty_size_29 rfl ?_
    refine ARun.call (lit_lt rfl) go_33 rfl (hpow _ (hp.less less_)) ?_
    rintro _ S1 ⟨rfl,h1⟩
    rw [h1];clear h1 S1
    refine k_e rfl ?_
    refine k_u [(0,_),(1,_),(2,_),(3,_),(6,_),(7,_),(8,_),(9,_)] ?_
    refine AWP.seq (k_a (k_m rfl ?_))
    refine rC (Calm.bin rfl rfl b_neq) ?_
    refine k_n ?_
    refine k_u [(0,_),(1,_),(2,_),(3,_),(6,_),(7,_),(8,_),(9,_),(23,_)] ?_
    refine k_F rfl ?_
    refine k_k (k_a ?_)
    refine k_9 ty_agg_29 ty_size_29 rfl ?_
    refine ARun.call (lit_lt rfl) go_5 rfl ((hcopy.frame f3).frame f6) ?_
    rintro _ S1 ⟨Sa,⟨T0,⟨B,oF,qe,de,qw,dw,hSB,ho,hE2,hW2,rfl,hT0⟩,fa,hSa⟩,fb,h1⟩
    obtain ⟨b,c,rfl⟩:=ho.some (by omega)
    obtain ⟨hbB,hlc⟩:=ho.own b c rfl
    have hT0' : T0 = B.set b (frB x.fr c):=hT0
    rw [hSa] at fb;rw [hT0'] at fa fb;rw [h1,hSa,hT0'];clear h1 S1 hSa Sa hT0 hT0' T0
    obtain ⟨hAB,nAb⟩:=fresh_set fa
    obtain ⟨hRb,nRA⟩:=fresh_set fb
    obtain ⟨hRB,nRb⟩:=fresh_set hRb
    rw [show outV (some (b,c)) x.fr.length = .slice (some ⟨b,0,none⟩) x.fr.length c from rfl]
    refine ARun.alloc (lit_lt rfl) ty_zero_29 ?_
    intro b12 f12
    have g12:=f12
    repeat ((with_reducible replace g12:=fresh_set g12);obtain ⟨g12,_⟩:=g12)
    try simp only [k_l1,k_l0,k_za,Nat.reduceAdd]
    first|refine k_A rfl rfl ty_size_29 ?_|refine k_B rfl rfl ty_size_29 ?_
    try simp only [k_ms,k_sz,k_ss,k_za,Nat.reduceAdd]
    refine k_n ?_
    refine k_u [(0,_),(1,_),(2,_),(3,_),(6,_),(7,_),(8,_),(9,_),(23,_),(12,_)] ?_
    obtain ⟨h12a,n126⟩:=fresh_set f12
    obtain ⟨h12b,n123⟩:=fresh_set h12a
    obtain ⟨h12c,n12⟩:=fresh_set h12b
    have hyB:=rpB_like (y:=x) hbB hlc hE2 hW2 rfl rfl
    obtain ⟨hST,hpl⟩:=hyB.plR hSB h256
    refine k_a ?_
    refine k_9 ty_agg_29 ty_size_29 rfl ?_
    refine k_m rfl (k_m rfl ?_)
    refine ARun.call (lit_lt rfl) go_35 rfl (hfi _ _ (hpl.less less_)) ?_
    rintro _ S1 ⟨rfl,h1⟩
    rw [h1];clear h1 S1
    have hrd:=rd_Read (.agg #[.int .i64 x.d.size,.slice qe x.d.ext.length de,.slice qw x.d.waits.length dw,.int .i64 x.d.fuse,.bool x.d.down]) x.d s n B ⟨qe,de,qw,dw,rfl,hE2,hW2⟩ hz
    rw [hro] at hrd
    refine k_e rfl ?_
    refine k_u [(0,_),(1,_),(2,_),(3,_),(6,_),(7,_),(8,_),(9,_),(23,_),(12,_),(13,_)] ?_
    refine AWP.seq (k_a (k_m rfl ?_))
    refine rC (Calm.bin rfl rfl (bin_bool (bin_geq _ _) (decide_eq_false (by omega)))) ?_
    refine k_m rfl ?_
    first|refine k_q 40 ?_|refine rG 40 (Calm.fieldAddr ty_field_29_1 rfl) ?_
    first|refine k_q 40 ?_|refine rG 40 (ld_ ty_plain_26 rfl) ?_
    first|refine k_q 40 ?_|refine rG 40 (Calm.move rfl) ?_
    first|refine k_q 40 ?_|refine rG 40 (Calm.indexS Tryz.underlying26 ty_size_62 rfl rfl (by omega) (by omega)) ?_
    first|refine k_q 40 ?_|refine rG 40 (Calm.fieldAddr ty_field_62_3 rfl) ?_
    first|refine k_q 40 ?_|refine rG 40 (ld_ ty_plain_3 rfl) ?_
    first|refine k_q 40 ?_|refine rG 40 (Calm.bin rfl rfl b_eql) ?_
    first|refine k_t rfl rfl ?_|refine k_f rfl rfl ?_
    refine k_n ?_
    refine k_u [(0,_),(1,_),(2,_),(3,_),(6,_),(7,_),(8,_),(9,_),(23,_),(12,_),(13,_),(48,_)] ?_
    refine k_F rfl ?_
    refine k_k (AWP.seq (k_a (k_m rfl ?_)))
    refine rC (Calm.bin rfl rfl b_lss) ?_
    refine k_n ?_
    refine k_u [(0,_),(1,_),(2,_),(3,_),(6,_),(7,_),(8,_),(9,_),(23,_),(12,_),(13,_),(48,_),(51,_)] ?_
    refine k_T rfl ?_
    refine k_a ?_
    refine rC (Calm.fieldAddr ty_field_29_0 rfl) ?_
    refine k_5 ty_agg_25 ty_size_25 rfl ?_
    refine k_m rfl (k_m rfl ?_)
    refine ARun.call (lit_lt rfl) go_36 rfl ((rd_ReadM _ x.d s n _ ⟨qe,de,qw,dw,rfl,hE2.less less_,hW2.less less_⟩ hz hro)) ?_
    rintro _ S1 ⟨rfl,h1⟩
    rw [h1];clear h1 S1
    refine k_m rfl ?_
    refine rC (Calm.extract rfl rfl) ?_
    refine rC (Calm.extract rfl rfl) ?_
    refine k_s rfl (k_e rfl ?_)
    refine k_u [(0,_),(1,_),(2,_),(3,_),(6,_),(7,_),(8,_),(9,_),(23,_),(12,_),(13,_),(48,_),(51,_),(15,_)] ?_
    refine AWP.seq (k_a (k_m rfl ?_))
    refine rC (Calm.bin rfl rfl (bin_bool (bin_neq _ _) (bnot_dec_true q1))) ?_
    refine k_n ?_
    refine k_u [(0,_),(1,_),(2,_),(3,_),(6,_),(7,_),(8,_),(9,_),(23,_),(12,_),(13,_),(48,_),(51,_),(15,_),(61,_)] ?_
    refine k_T rfl ?_
    refine k_a ?_
    refine k_9 ty_agg_29 ty_size_29 rfl ?_
    refine k_m rfl ?_
    first|refine k_A rfl rfl ty_size_29 ?_|refine k_B rfl rfl ty_size_29 ?_
    try simp only [k_ms,k_sz,k_ss,k_za,Nat.reduceAdd]
    refine k_s rfl (k_e rfl ?_)
    refine k_u [(0,_),(1,_),(2,_),(3,_),(6,_),(7,_),(8,_),(9,_),(23,_),(12,_),(13,_),(48,_),(51,_),(15,_),(61,_)] ?_
    refine k_r ?_
    refine athen_ret ?_
    refine ⟨_,B.set b (frB x.fr c),⟨_,_,_,rfl,.inr ⟨ty_agg_29,[_,_,_,_,_,_,_,_,_],ty_size_29,rds_,rfl⟩,⟨_,_,rfl,⟨_,_,rfl,rfl,rfl⟩,rfl⟩,rfl⟩,less_,?_⟩
    exact ⟨_,rfl,hST,hpl⟩
   ·have q1 : (readD x.d s n).2 = 0:=by simpa using q1
    have hrr:=fun h0=>pin_read hR hdn hz.f1 q0 q1 h0
    generalize hdt : (readD x.d s n).1 = data at *
    have hL : pinP x s n = if (takeP x).2.2 ≠ 0 then ((takeP x).1,0,(takeP x).2.2) else (pin1 { setP (takeP x).1 (takeP x).2.1 (newF s n data) with reads:=up1 (takeP x).1.reads } (takeP x).2.1,(takeP x).2.1,0):=by unfold pinP;rw [if_neg q0,if_neg (by rw [q1];simp),hdt]
    rw [hL]
    refine ACall.enter (rs:=[.cell 6 29,.tmp 7,.tmp 8]) 118 [(0,.agg #[.int .i64 x.d.size,.slice pe x.d.ext.length ce,.slice pw x.d.waits.length cw,.int .i64 x.d.fuse,.bool x.d.down,.slice pf x.fr.length cf,.int .u64 x.tick,.int .u64 x.reads,.int .u64 x.writes]),(1,.string s),(2,.int .i64 n)] Tryz.func7 rfl rfl (Nat.le_of_ble_eq_true rfl) rfl ⟨rfl,rfl,rfl,trivial⟩ ?_
    refine k_a ?_
    refine k_b9 rfl ?_
    intro b3 f3
    have g3:=f3
    repeat ((with_reducible replace g3:=fresh_set g3);obtain ⟨g3,_⟩:=g3)
    try simp only [k_l1,k_l0,k_za,Nat.reduceAdd]
    refine ARun.alloc (lit_lt rfl) ty_zero_29 ?_
    intro b6 f6
    have g6:=f6
    repeat ((with_reducible replace g6:=fresh_set g6);obtain ⟨g6,_⟩:=g6)
    try simp only [k_l1,k_l0,k_za,Nat.reduceAdd]
    refine k_s rfl (k_e rfl (k_a ?_))
    refine k_9 ty_agg_29 ty_size_29 rfl ?_
    refine ARun.call (lit_lt rfl) go_33 rfl (hpow _ (hp.less less_)) ?_
    rintro _ S1 ⟨rfl,h1⟩
    rw [h1];clear h1 S1
    refine k_e rfl ?_
    refine k_u [(0,_),(1,_),(2,_),(3,_),(6,_),(7,_),(8,_),(9,_)] ?_
    refine AWP.seq (k_a (k_m rfl ?_))
    refine rC (Calm.bin rfl rfl b_neq) ?_
    refine k_n ?_
    refine k_u [(0,_),(1,_),(2,_),(3,_),(6,_),(7,_),(8,_),(9,_),(23,_)] ?_
    refine k_F rfl ?_
    refine k_k (k_a ?_)
    refine k_9 ty_agg_29 ty_size_29 rfl ?_
    refine ARun.call (lit_lt rfl) go_5 rfl ((hcopy.frame f3).frame f6) ?_
    rintro _ S1 ⟨Sa,⟨T0,⟨B,oF,qe,de,qw,dw,hSB,ho,hE2,hW2,rfl,hT0⟩,fa,hSa⟩,fb,h1⟩
    obtain ⟨b,c,rfl⟩:=ho.some (by omega)
    obtain ⟨hbB,hlc⟩:=ho.own b c rfl
    have hT0' : T0 = B.set b (frB x.fr c):=hT0
    rw [hSa] at fb;rw [hT0'] at fa fb;rw [h1,hSa,hT0'];clear h1 S1 hSa Sa hT0 hT0' T0
    obtain ⟨hAB,nAb⟩:=fresh_set fa
    obtain ⟨hRb,nRA⟩:=fresh_set fb
    obtain ⟨hRB,nRb⟩:=fresh_set hRb
    rw [show outV (some (b,c)) x.fr.length = .slice (some ⟨b,0,none⟩) x.fr.length c from rfl]
    refine ARun.alloc (lit_lt rfl) ty_zero_29 ?_
    intro b12 f12
    have g12:=f12
    repeat ((with_reducible replace g12:=fresh_set g12);obtain ⟨g12,_⟩:=g12)
    try simp only [k_l1,k_l0,k_za,Nat.reduceAdd]
    first|refine k_A rfl rfl ty_size_29 ?_|refine k_B rfl rfl ty_size_29 ?_
    try simp only [k_ms,k_sz,k_ss,k_za,Nat.reduceAdd]
    refine k_n ?_
    refine k_u [(0,_),(1,_),(2,_),(3,_),(6,_),(7,_),(8,_),(9,_),(23,_),(12,_)] ?_
    obtain ⟨h12a,n126⟩:=fresh_set f12
    obtain ⟨h12b,n123⟩:=fresh_set h12a
    obtain ⟨h12c,n12⟩:=fresh_set h12b
    have hyB:=rpB_like (y:=x) hbB hlc hE2 hW2 rfl rfl
    obtain ⟨hST,hpl⟩:=hyB.plR hSB h256
    refine k_a ?_
    refine k_9 ty_agg_29 ty_size_29 rfl ?_
    refine k_m rfl (k_m rfl ?_)
    refine ARun.call (lit_lt rfl) go_35 rfl (hfi _ _ (hpl.less less_)) ?_
    rintro _ S1 ⟨rfl,h1⟩
    rw [h1];clear h1 S1
    have hok0 : RL.Ok S b c b3 b6 b12 ⟨29,[.int .i64 x.d.size,.slice pe x.d.ext.length ce,.slice pw x.d.waits.length cw,.int .i64 x.d.fuse,.bool x.d.down,.slice pf x.fr.length cf,.int .u64 x.tick,.int .u64 x.reads,.int .u64 x.writes],9⟩ ⟨29,[.int .i64 0,.slice none 0 0,.slice none 0 0,.int .i64 0,.bool false,.slice none 0 0,.int .u64 0,.int .u64 0,.int .u64 0],9⟩ ⟨29,(RL.mk 0 x B qe de qw dw none []).C b c,9⟩ (RL.mk 0 x B qe de qw dw none []):=⟨hw.lw,hSB,hbB,hlc,hE2,hW2,hAB,hRB,h12c,okO_nil _⟩
    have htk:=rl_call hok0 nAb nRb nRA n12 n123 n126 (f:=37) (args:=#[.agg ((RL.mk 0 x B qe de qw dw none []).C b c).toArray]) (y':=(takeP x).1) (k:=fun r w=>r = .tuple #[w,.int .i64 ((takeP x).2.1 : Nat),.int .i64 (takeP x).2.2]) (take_LW hw) (fun v T hb e=>by subst e;exact rp_take B b c x _ T hb hw)
    have hpw:=take_PW hw
    have htl:=takeP_lt (x:=x)
    refine k_e rfl ?_
    refine k_u [(0,_),(1,_),(2,_),(3,_),(6,_),(7,_),(8,_),(9,_),(23,_),(12,_),(13,_)] ?_
    refine AWP.seq (k_a (k_m rfl ?_))
    refine rC (Calm.bin rfl rfl (bin_bool (bin_geq _ _) (decide_eq_false (by omega)))) ?_
    refine k_m rfl ?_
    first|refine k_q 40 ?_|refine rG 40 (Calm.fieldAddr ty_field_29_1 rfl) ?_
    first|refine k_q 40 ?_|refine rG 40 (ld_ ty_plain_26 rfl) ?_
    first|refine k_q 40 ?_|refine rG 40 (Calm.move rfl) ?_
    first|refine k_q 40 ?_|refine rG 40 (Calm.indexS Tryz.underlying26 ty_size_62 rfl rfl (by omega) (by omega)) ?_
    first|refine k_q 40 ?_|refine rG 40 (Calm.fieldAddr ty_field_62_3 rfl) ?_
    first|refine k_q 40 ?_|refine rG 40 (ld_ ty_plain_3 rfl) ?_
    first|refine k_q 40 ?_|refine rG 40 (Calm.bin rfl rfl b_eql) ?_
    first|refine k_t rfl rfl ?_|refine k_f rfl rfl ?_
    refine k_n ?_
    refine k_u [(0,_),(1,_),(2,_),(3,_),(6,_),(7,_),(8,_),(9,_),(23,_),(12,_),(13,_),(48,_)] ?_
    refine k_F rfl ?_
    refine k_k (AWP.seq (k_a (k_m rfl ?_)))
    refine rC (Calm.bin rfl rfl b_lss) ?_
    refine k_n ?_
    refine k_u [(0,_),(1,_),(2,_),(3,_),(6,_),(7,_),(8,_),(9,_),(23,_),(12,_),(13,_),(48,_),(51,_)] ?_
    refine k_T rfl ?_
    refine k_a ?_
    refine rC (Calm.fieldAddr ty_field_29_0 rfl) ?_
    refine k_5 ty_agg_25 ty_size_25 rfl ?_
    refine k_m rfl (k_m rfl ?_)
    refine ARun.call (lit_lt rfl) go_36 rfl ((rd_ReadM _ x.d s n _ ⟨qe,de,qw,dw,rfl,hE2.less less_,hW2.less less_⟩ hz hro)) ?_
    rintro _ S1 ⟨rfl,h1⟩
    rw [h1,q1];clear h1 S1
    refine k_m rfl ?_
    refine rC (Calm.extract rfl rfl) ?_
    refine rC (Calm.extract rfl rfl) ?_
    refine k_s rfl (k_e rfl ?_)
    refine k_u [(0,_),(1,_),(2,_),(3,_),(6,_),(7,_),(8,_),(9,_),(23,_),(12,_),(13,_),(48,_),(51,_),(15,_)] ?_
    refine AWP.seq (k_a (k_m rfl ?_))
    refine rC (Calm.bin rfl rfl b_neq) ?_
    refine k_n ?_
    refine k_u [(0,_),(1,_),(2,_),(3,_),(6,_),(7,_),(8,_),(9,_),(23,_),(12,_),(13,_),(48,_),(51,_),(15,_),(61,_)] ?_
    refine k_F rfl ?_
    refine k_k (k_a ?_)
    refine k_9 ty_agg_29 ty_size_29 rfl ?_
    refine ARun.call (lit_lt rfl) go_37 rfl (htk) ?_
    rintro _ S1 ⟨z',e1,e2,e3,e4,rfl,hok',h1⟩
    rw [h1];clear h1 S1 htk
    obtain ⟨mb,m2,m4,m10⟩:=hok'.own2 nAb nRb nRA n12 n123 n126
    refine k_m rfl ?_
    refine rC (Calm.extract rfl rfl) ?_
    refine rC (Calm.extract rfl rfl) ?_
    refine rC (Calm.extract rfl rfl) ?_
    refine ARun.alloc (lit_lt rfl) ty_zero_29 ?_
    intro b16 f16
    have g16:=f16
    repeat ((with_reducible replace g16:=fresh_set g16);obtain ⟨g16,_⟩:=g16)
    try simp only [k_l1,k_l0,k_za,Nat.reduceAdd]
    first|refine k_A rfl rfl ty_size_29 ?_|refine k_B rfl rfl ty_size_29 ?_
    try simp only [k_ms,k_sz,k_ss,k_za,Nat.reduceAdd]
    refine k_s rfl (k_e rfl ?_)
    refine k_u [(0,_),(1,_),(2,_),(3,_),(6,_),(7,_),(8,_),(9,_),(23,_),(12,_),(13,_),(48,_),(51,_),(15,_),(61,_),(16,_),(17,_)] ?_
    generalize takeP x = u at *
    have hfn:=f16
    have n13:=fun {q : Nat} {r : Blk} (h : (outN 1 (z'.M b c b3 b6 b12 ⟨29,[.int .i64 x.d.size,.slice pe x.d.ext.length ce,.slice pw x.d.waits.length cw,.int .i64 x.d.fuse,.bool x.d.down,.slice pf x.fr.length cf,.int .u64 x.tick,.int .u64 x.reads,.int .u64 x.writes],9⟩ ⟨29,[.int .i64 0,.slice none 0 0,.slice none 0 0,.int .i64 0,.bool false,.slice none 0 0,.int .u64 0,.int .u64 0,.int .u64 0],9⟩ ⟨29,(RL.mk 0 x B qe de qw dw none []).C b c,9⟩) z'.o 3 (z'.l.flatMap i64s)).own q = some r)=>hfn.ne h
    have w10:=own_outO (n:=1) (e:=3) (cs:=z'.l.flatMap i64s) m10 hok'.ho
    have w4:=own_outO (n:=1) (e:=3) (cs:=z'.l.flatMap i64s) m4 hok'.ho
    have wb:=own_outO (n:=1) (e:=3) (cs:=z'.l.flatMap i64s) mb hok'.ho
    have nb16:=n13 wb
    have nb16':=Ne.symm nb16
    by_cases q3 : u.2.2 = 0
    ·rw [if_neg (show ¬ u.2.2 ≠ 0 from fun h=>h q3)]
     have hpwu:=hpw q3
     have hul' : u.2.1 < z'.y.fr.length:=by rw [e2];exact htl q3
     have hro2 : readO z'.y.d s n = (data,0):=by unfold readO;rw [e2,open_ok hpwu.dr hpwu.nd,if_neg (by simp),hrr q3];rw [← hdt,← q1]
     have hz' : Dz z'.y.d:=by rw [e2];exact dz_right hpwu.dr hpwu.fu
     have hBo:=(Mem.less_set _ b (frB z'.y.fr c) hok'.hb.1)
     have hEz:=hok'.hE
     have hWz:=hok'.hW
     have hBM : z'.B.Less (outN 1 (z'.M b c b3 b6 b12 ⟨29,[.int .i64 x.d.size,.slice pe x.d.ext.length ce,.slice pw x.d.waits.length cw,.int .i64 x.d.fuse,.bool x.d.down,.slice pf x.fr.length cf,.int .u64 x.tick,.int .u64 x.reads,.int .u64 x.writes],9⟩ ⟨29,[.int .i64 0,.slice none 0 0,.slice none 0 0,.int .i64 0,.bool false,.slice none 0 0,.int .u64 0,.int .u64 0,.int .u64 0],9⟩ ⟨29,(RL.mk 0 x B qe de qw dw none []).C b c,9⟩) z'.o 3 (z'.l.flatMap i64s)):=by obtain ⟨k2,k4,k10⟩:=hok'.fr (rA:=⟨29,[.int .i64 x.d.size,.slice pe x.d.ext.length ce,.slice pw x.d.waits.length cw,.int .i64 x.d.fuse,.bool x.d.down,.slice pf x.fr.length cf,.int .u64 x.tick,.int .u64 x.reads,.int .u64 x.writes],9⟩) (rZ:=⟨29,[.int .i64 0,.slice none 0 0,.slice none 0 0,.int .i64 0,.bool false,.slice none 0 0,.int .u64 0,.int .u64 0,.int .u64 0],9⟩) nAb nRb nRA n12 n123 n126;exact (hBo.trans ((Mem.less_set _ _ _ k2.1).trans ((Mem.less_set _ _ _ k4.1).trans (Mem.less_set _ _ _ k10.1)))).trans (outN_over hok'.ho)
     refine AWP.seq (k_a (k_m rfl ?_))
     refine rC (Calm.bin rfl rfl b_neq) ?_
     refine k_n ?_
     refine k_u [(0,_),(1,_),(2,_),(3,_),(6,_),(7,_),(8,_),(9,_),(23,_),(12,_),(13,_),(48,_),(51,_),(15,_),(61,_),(16,_),(17,_),(71,_)] ?_
     refine k_F rfl ?_
     refine k_k (k_a ?_)
     refine rC (Calm.fieldAddr ty_field_29_0 rfl) ?_
     refine k_5 ty_agg_25 ty_size_25 rfl ?_
     refine k_m rfl (k_m rfl ?_)
     refine ARun.call (lit_lt rfl) go_36 rfl ((rd_ReadM _ z'.y.d s n _ ⟨z'.qe,z'.de,z'.qw,z'.dw,rfl,hEz.less (hBM.trans (Mem.less_set _ _ _ hfn.1)),hWz.less (hBM.trans (Mem.less_set _ _ _ hfn.1))⟩ hz' hro2)) ?_
     rintro _ S1 ⟨rfl,h1⟩
     rw [h1];clear h1 S1
     refine k_m rfl ?_
     refine rC (Calm.extract rfl rfl) ?_
     refine rC (Calm.extract rfl rfl) ?_
     refine k_s rfl (k_e rfl ?_)
     refine k_u [(0,_),(1,_),(2,_),(3,_),(6,_),(7,_),(8,_),(9,_),(23,_),(12,_),(13,_),(48,_),(51,_),(15,_),(61,_),(16,_),(17,_),(71,_),(18,_)] ?_
     refine k_a ?_
     refine rC (Calm.fieldAddr ty_field_29_1 rfl) ?_
     refine rC (ld_ ty_plain_26 rfl) ?_
     refine k_m rfl (k_m rfl (k_m rfl (k_m rfl ?_)))
     refine rC (Calm.build (cs:=[_,_,_,_,_,_,_]) ty_bld_62 rfl rfl) ?_
     refine rC (Calm.indexS Tryz.underlying26 ty_size_62 rfl rfl (by omega) (by omega)) ?_
     refine ARun.storeFr (c:=c) (i:=u.2.1) (l:=z'.y.fr) (u:=newF s n data) rfl rfl rfl (by omega) hul' ty_size_62 ((Mem.own_set_other _ _ nb16).trans wb) ?_
     try simp only [k_ms,k_sz,k_ss,k_za,Nat.reduceAdd]
     refine k_n ?_
     refine k_u [(0,_),(1,_),(2,_),(3,_),(6,_),(7,_),(8,_),(9,_),(23,_),(12,_),(13,_),(48,_),(51,_),(15,_),(61,_),(16,_),(17,_),(71,_),(18,_)] ?_
     refine k_a ?_
     refine rC (Calm.fieldAddr ty_field_29_3 rfl) ?_
     refine rC (ld_ ty_plain_27 rfl) ?_
     refine rC (Calm.bin rfl rfl b_add_u64) ?_
     refine rC (Calm.fieldAddr ty_field_29_3 rfl) ?_
     refine ARun.store1 (r:=⟨29,z'.C b c,9⟩) rfl rfl ty_size_27 rfl ((Mem.own_set_other _ _ nb16').trans (Mem.own_set_same _ _ _)) (show 0 + 7 < 9 from by decide) rfl ?_
     try simp only [k_ms,k_sz,k_ss,k_za,Nat.reduceAdd]
     refine k_n ?_
     refine k_u [(0,_),(1,_),(2,_),(3,_),(6,_),(7,_),(8,_),(9,_),(23,_),(12,_),(13,_),(48,_),(51,_),(15,_),(61,_),(16,_),(17,_),(71,_),(18,_)] ?_
     refine k_a ?_
     refine k_9 ty_agg_29 ty_size_29 rfl ?_
     refine ARun.storeAll rfl rfl ty_size_29 ((Mem.own_set_other _ _ (n13 w10)).trans ((Mem.own_set_other _ _ n12).trans ((Mem.own_set_other _ _ (n13 w10)).trans w10))) rfl rfl ?_
     try simp only [k_ms,k_sz,k_ss,k_za,Nat.reduceAdd]
     refine k_n ?_
     refine k_u [(0,_),(1,_),(2,_),(3,_),(6,_),(7,_),(8,_),(9,_),(23,_),(12,_),(13,_),(48,_),(51,_),(15,_),(61,_),(16,_),(17,_),(71,_),(18,_)] ?_
     obtain ⟨y,hy⟩ : ∃ y : Pl,y = { z'.y with fr:=z'.y.fr.set u.2.1 (newF s n data),reads:=up1 z'.y.reads }:=⟨_,rfl⟩
     have hyl : y.fr.length = z'.y.fr.length:=by rw [hy];simp
     have hyd : y.d = z'.y.d:=by rw [hy]
     have hiy : u.2.1 < y.fr.length:=by rw [hyl];exact hul'
     have hp0 : (atF y u.2.1).pins = 0:=by rw [atF_eq hiy];simp only [hy,List.getElem_set_self,newF]
     have hres : { setP u.1 u.2.1 (newF s n data) with reads:=up1 u.1.reads } = y:=by rw [hy,← e2];rfl
     rw [hres]
     refine AWP.less ((((z'.B.set b (frB y.fr c)).set b3 ⟨29,[.int .i64 x.d.size,.slice pe x.d.ext.length ce,.slice pw x.d.waits.length cw,.int .i64 x.d.fuse,.bool x.d.down,.slice pf x.fr.length cf,.int .u64 x.tick,.int .u64 x.reads,.int .u64 x.writes],9⟩).set b6 ⟨29,[.int .i64 0,.slice none 0 0,.slice none 0 0,.int .i64 0,.bool false,.slice none 0 0,.int .u64 0,.int .u64 0,.int .u64 0],9⟩).set b12 ⟨29,[.int .i64 y.d.size,.slice z'.qe y.d.ext.length z'.de,.slice z'.qw y.d.waits.length z'.dw,.int .i64 y.d.fuse,.bool y.d.down,.slice (some ⟨b,0,none⟩) y.fr.length c,.int .u64 y.tick,.int .u64 y.reads,.int .u64 y.writes],9⟩) (by rw [hy,List.length_set];exact rl_less5 hok'.hb hok'.g2 hok'.g4 hok'.g10 nAb nRb nRA n12 n123 n126 hok'.ho hfn) ?_
     have hbB':=hok'.hb
     have hAB':=hok'.g2
     have hRB':=hok'.g4
     have hXB':=hok'.g10
     have hlc' : y.fr.length ≤ c:=by rw [hyl];exact hok'.hlc
     have hE' : Sl 2 extF z'.B (.slice z'.qe y.d.ext.length z'.de) y.d.ext:=by rw [hyd];exact hok'.hE
     have hW' : Sl 3 wrF z'.B (.slice z'.qw y.d.waits.length z'.dw) y.d.waits:=by rw [hyd];exact hok'.hW
     have hSB':=hok'.hS
     have hy256 : y.fr.length ≤ 256:=by rw [hyl];exact hok'.hw.f
     clear hy hres hyd
     generalize u.2.1 = i at *
     refine AWP.region ?_
     refine k_m rfl (k_e rfl ?_)
     refine k_u [(0,_),(1,_),(2,_),(3,_),(6,_),(7,_),(8,_),(9,_),(23,_),(12,_),(13,_),(48,_),(51,_),(15,_),(61,_),(16,_),(17,_),(71,_),(18,_)] ?_
     refine k_a ?_
     refine rC (Calm.fieldAddr ty_field_29_2 rfl) ?_
     refine rC (ld_ ty_plain_27 rfl) ?_
     refine rC (Calm.bin rfl rfl b_add_u64) ?_
     refine rC (Calm.fieldAddr ty_field_29_2 rfl) ?_
     refine ARun.store1 rfl rfl ty_size_27 rfl own_ lens_ rfl ?_
     try simp only [k_ms,k_sz,k_ss,k_za,Nat.reduceAdd]
     refine k_n ?_
     refine k_u [(0,_),(1,_),(2,_),(3,_),(6,_),(7,_),(8,_),(9,_),(23,_),(12,_),(13,_),(48,_),(51,_),(15,_),(61,_),(16,_),(17,_),(71,_),(18,_)] ?_
     refine k_a ?_
     refine rC (Calm.fieldAddr ty_field_29_1 rfl) ?_
     refine rC (ld_ ty_plain_26 rfl) ?_
     refine k_m rfl ?_
     refine rC (Calm.fieldAddr ty_field_29_2 rfl) ?_
     refine rC (ld_ ty_plain_27 rfl) ?_
     refine rC (Calm.indexS Tryz.underlying26 ty_size_62 rfl rfl (by omega) (by omega)) ?_
     refine rC (Calm.fieldAddr ty_field_62_5 rfl) ?_
     refine ARun.storeFr1 (c:=c) (i:=i) (l:=y.fr) (q:=5) (u:={ atF y i with tick:=up1 y.tick }) rfl rfl rfl rfl (by omega) (by decide) hiy (by rw [atF_eq hiy];rfl) ty_size_27 own_ ?_
     try simp only [k_ms,k_sz,k_ss,k_za,Nat.reduceAdd]
     refine k_n ?_
     refine k_u [(0,_),(1,_),(2,_),(3,_),(6,_),(7,_),(8,_),(9,_),(23,_),(12,_),(13,_),(48,_),(51,_),(15,_),(61,_),(16,_),(17,_),(71,_),(18,_)] ?_
     refine AWP.less ((((z'.B.set b (frB (y.fr.set i { atF y i with tick:=up1 y.tick }) c)).set b3 ⟨29,[.int .i64 x.d.size,.slice pe x.d.ext.length ce,.slice pw x.d.waits.length cw,.int .i64 x.d.fuse,.bool x.d.down,.slice pf x.fr.length cf,.int .u64 x.tick,.int .u64 x.reads,.int .u64 x.writes],9⟩).set b6 ⟨29,[.int .i64 0,.slice none 0 0,.slice none 0 0,.int .i64 0,.bool false,.slice none 0 0,.int .u64 0,.int .u64 0,.int .u64 0],9⟩).set b12 ⟨29,[.int .i64 y.d.size,.slice z'.qe y.d.ext.length z'.de,.slice z'.qw y.d.waits.length z'.dw,.int .i64 y.d.fuse,.bool y.d.down,.slice (some ⟨b,0,none⟩) y.fr.length c,.int .u64 (up1 y.tick),.int .u64 y.reads,.int .u64 y.writes],9⟩) less_ ?_
     have hi2 : i < (y.fr.set i ({ atF y i with tick:=up1 y.tick })).length:=by rw [List.length_set];exact hiy
     have hkp:=fr_kn (B:=z'.B) (b:=b) (c:=c) hi2
     rw [List.getElem_set_self] at hkp
     obtain ⟨_,_,_,kp2,_,_,_⟩:=kn_fr hkp
     simp only at kp2
     refine k_a ?_
     refine rC (Calm.fieldAddr ty_field_29_1 rfl) ?_
     refine rC (ld_ ty_plain_26 rfl) ?_
     refine k_m rfl ?_
     refine rC (Calm.indexS Tryz.underlying26 ty_size_62 rfl rfl (by omega) (by omega)) ?_
     refine rC (Calm.fieldAddr ty_field_62_3 rfl) ?_
     refine rC (ld_ ty_plain_3 rfl) ?_
     refine rC (Calm.bin rfl rfl b_add_i64) ?_
     refine rC (Calm.indexS Tryz.underlying26 ty_size_62 rfl rfl (by omega) (by omega)) ?_
     refine rC (Calm.fieldAddr ty_field_62_3 rfl) ?_
     refine ARun.storeFr1 (c:=c) (i:=i) (l:=y.fr.set i ({ atF y i with tick:=up1 y.tick })) (q:=3) (u:={ atF y i with tick:=up1 y.tick,pins:=(atF y i).pins + 1 }) rfl rfl rfl rfl (by omega) (by decide) hi2 (by rw [List.getElem_set_self];rfl) ty_size_3 own_ ?_
     try simp only [k_ms,k_sz,k_ss,k_za,Nat.reduceAdd]
     refine k_n ?_
     refine k_u [(0,_),(1,_),(2,_),(3,_),(6,_),(7,_),(8,_),(9,_),(23,_),(12,_),(13,_),(48,_),(51,_),(15,_),(61,_),(16,_),(17,_),(71,_),(18,_)] ?_
     have hyB:=rpB_like (y:=pin1 y i) hbB' hlc' hE' hW' rfl (by unfold pin1;simp)
     obtain ⟨hSTf,hplf⟩:=hyB.plR hSB' (by unfold pin1;simp only [List.length_set];exact hy256)
     refine k_a ?_
     refine k_9 ty_agg_29 ty_size_29 rfl ?_
     refine k_m rfl ?_
     first|refine k_A rfl rfl ty_size_29 ?_|refine k_B rfl rfl ty_size_29 ?_
     try simp only [k_ms,k_sz,k_ss,k_za,Nat.reduceAdd]
     refine k_s rfl (k_e rfl ?_)
     refine k_u [(0,_),(1,_),(2,_),(3,_),(6,_),(7,_),(8,_),(9,_),(23,_),(12,_),(13,_),(48,_),(51,_),(15,_),(61,_),(16,_),(17,_),(71,_),(18,_)] ?_
     refine AWP.ret ?_
     refine ⟨_,z'.B.set b (frB (pin1 y i).fr c),⟨_,_,_,rfl,.inr ⟨ty_agg_29,[_,_,_,_,_,_,_,_,_],ty_size_29,rds_,rfl⟩,⟨_,_,rfl,⟨_,_,rfl,rfl,rfl⟩,rfl⟩,rfl⟩,(by unfold pin1;rw [List.set_set];exact less_),?_⟩
     exact ⟨_,rfl,hSTf,hplf⟩
    ·rw [if_pos (show u.2.2 ≠ 0 from q3),← e2]
     obtain ⟨hST',hpl'⟩:=hok'.plR
     refine AWP.seq (k_a (k_m rfl ?_))
     refine rC (Calm.bin rfl rfl b_neq) ?_
     refine k_n ?_
     refine k_u [(0,_),(1,_),(2,_),(3,_),(6,_),(7,_),(8,_),(9,_),(23,_),(12,_),(13,_),(48,_),(51,_),(15,_),(61,_),(16,_),(17,_),(71,_)] ?_
     refine k_T rfl ?_
     refine k_a ?_
     refine k_9 ty_agg_29 ty_size_29 rfl ?_
     refine k_m rfl ?_
     refine ARun.storeAll rfl rfl ty_size_29 ((Mem.own_set_other _ _ (n13 w4)).trans w4) rfl rfl ?_
     try simp only [k_ms,k_sz,k_ss,k_za,Nat.reduceAdd]
     refine k_s rfl (k_e rfl ?_)
     refine k_u [(0,_),(1,_),(2,_),(3,_),(6,_),(7,_),(8,_),(9,_),(23,_),(12,_),(13,_),(48,_),(51,_),(15,_),(61,_),(16,_),(17,_),(71,_)] ?_
     refine k_r ?_
     refine athen_ret ?_
     refine ⟨_,z'.B.set b (frB z'.y.fr c),⟨_,_,_,rfl,.inr ⟨ty_agg_29,[_,_,_,_,_,_,_,_,_],ty_size_29,rds_,rfl⟩,⟨_,_,rfl,⟨_,_,rfl,rfl,rfl⟩,rfl⟩,rfl⟩,(rl_less2 hok'.hb hok'.g2 hok'.g4 hok'.g10 nAb nRb nRA n12 n123 n126 hok'.ho hfn),?_⟩
     exact ⟨_,rfl,hST',hpl'⟩
end Go.Proofs.YtkeiphkccnfhoaaGreat
namespace Go.Proofs.YtkeiphkccnfhoaaGreat
open Go.RowKit
open Mv Disk
set_option maxRecDepth 4000
theorem neq_frame (x : Fr) (w : World) : (binOp .neq 62 (frV x) (frV x)).run Tryz.prog w = .ok (.bool false) w := by
 unfold frV
 go_simp
theorem bin_neq_frame {p q : Operand} (x : Fr) : Bin Tryz.prog .neq 62 p q (frV x) (frV x) (.bool false) := fun w => by
 unfold frV
 rw [Sem.run_bind,run_eqGuard_agg w .neq 62 p q _ _ (by kernel_rfl)]
 exact neq_frame x w
set_option maxHeartbeats 2000000 in
theorem rp_Same (v v' : Value) (x : Pl) (S : Mem) (hp : PlR S v x) (hp' : PlR S v' x) :
  ACall Tryz.prog 15 #[v,v'] S fun r S'=>r = .bool true ∧ S' = S:=by
 obtain ⟨pe,ce,pw,cw,pf,cf,rfl,hE,hW,hF⟩:=hp
 obtain ⟨pe',ce',pw',cw',pf',cf',rfl,hE',hW',hF'⟩:=hp'
 have hd : DkR S (.agg #[.int .i64 x.d.size,.slice pe x.d.ext.length ce,.slice pw x.d.waits.length cw,.int .i64 x.d.fuse,.bool x.d.down]) x.d:=⟨pe,ce,pw,cw,rfl,hE,hW⟩
 have hd' : DkR S (.agg #[.int .i64 x.d.size,.slice pe' x.d.ext.length ce',.slice pw' x.d.waits.length cw',.int .i64 x.d.fuse,.bool x.d.down]) x.d:=⟨pe',ce',pw',cw',rfl,hE',hW'⟩
 have hs:=fun (M : Mem) (h : DkR M (.agg #[.int .i64 x.d.size,.slice pe x.d.ext.length ce,.slice pw x.d.waits.length cw,.int .i64 x.d.fuse,.bool x.d.down]) x.d) (h' : DkR M (.agg #[.int .i64 x.d.size,.slice pe' x.d.ext.length ce',.slice pw' x.d.waits.length cw',.int .i64 x.d.fuse,.bool x.d.down]) x.d)=>rd_Same _ _ x.d M h h'
 obtain ⟨_,_,ef1,ef2,ef3,hF3⟩:=id hF
 cases ef1
 obtain ⟨_,_,eg1,eg2,eg3,hG3⟩:=id hF'
 cases eg1
 refine ACall.enter (rs:=[.tmp 4]) 60 [(0,.agg #[.int .i64 x.d.size,.slice pe x.d.ext.length ce,.slice pw x.d.waits.length cw,.int .i64 x.d.fuse,.bool x.d.down,.slice pf x.fr.length cf,.int .u64 x.tick,.int .u64 x.reads,.int .u64 x.writes]),(1,.agg #[.int .i64 x.d.size,.slice pe' x.d.ext.length ce',.slice pw' x.d.waits.length cw',.int .i64 x.d.fuse,.bool x.d.down,.slice pf' x.fr.length cf',.int .u64 x.tick,.int .u64 x.reads,.int .u64 x.writes])] Tryz.func15 rfl rfl (Nat.le_of_ble_eq_true rfl) rfl ⟨rfl,rfl,trivial⟩ ?_
 refine k_a ?_
 refine k_b9 rfl ?_
 intro b2 f2
 have g2:=f2
 repeat ((with_reducible replace g2:=fresh_set g2);obtain ⟨g2,_⟩:=g2)
 try simp only [k_l1,k_l0,k_za,Nat.reduceAdd]
 refine k_b9 rfl ?_
 intro b3 f3
 have g3:=f3
 repeat ((with_reducible replace g3:=fresh_set g3);obtain ⟨g3,_⟩:=g3)
 try simp only [k_l1,k_l0,k_za,Nat.reduceAdd]
 refine k_e rfl (AWP.seq (k_a ?_))
 refine rC (Calm.fieldAddr ty_field_29_0 rfl) ?_
 refine k_5 ty_agg_25 ty_size_25 rfl ?_
 refine rC (Calm.fieldAddr ty_field_29_0 rfl) ?_
 refine k_5 ty_agg_25 ty_size_25 rfl ?_
 refine ARun.call (lit_lt rfl) go_47 rfl (hs _ (hd.less less_) (hd'.less less_)) ?_
 rintro _ S1 ⟨rfl,h1⟩
 rw [h1];clear h1 S1
 refine rC (Calm.un rfl (una_not _)) ?_
 refine k_m rfl ?_
 first|refine k_q 12 ?_|refine rG 12 (Calm.fieldAddr ty_field_29_2 rfl) ?_
 first|refine k_q 12 ?_|refine rG 12 (ld_ ty_plain_27 rfl) ?_
 first|refine k_q 12 ?_|refine rG 12 (Calm.fieldAddr ty_field_29_2 rfl) ?_
 first|refine k_q 12 ?_|refine rG 12 (ld_ ty_plain_27 rfl) ?_
 first|refine k_q 12 ?_|refine rG 12 (Calm.bin rfl rfl (bin_bool (bin_neq _ _) (bnot_dec_false rfl))) ?_
 first|refine k_t rfl rfl ?_|refine k_f rfl rfl ?_
 refine k_m rfl ?_
 first|refine k_q 19 ?_|refine rG 19 (Calm.fieldAddr ty_field_29_3 rfl) ?_
 first|refine k_q 19 ?_|refine rG 19 (ld_ ty_plain_27 rfl) ?_
 first|refine k_q 19 ?_|refine rG 19 (Calm.fieldAddr ty_field_29_3 rfl) ?_
 first|refine k_q 19 ?_|refine rG 19 (ld_ ty_plain_27 rfl) ?_
 first|refine k_q 19 ?_|refine rG 19 (Calm.bin rfl rfl (bin_bool (bin_neq _ _) (bnot_dec_false rfl))) ?_
 first|refine k_t rfl rfl ?_|refine k_f rfl rfl ?_
 refine k_m rfl ?_
 first|refine k_q 26 ?_|refine rG 26 (Calm.fieldAddr ty_field_29_4 rfl) ?_
 first|refine k_q 26 ?_|refine rG 26 (ld_ ty_plain_27 rfl) ?_
 first|refine k_q 26 ?_|refine rG 26 (Calm.fieldAddr ty_field_29_4 rfl) ?_
 first|refine k_q 26 ?_|refine rG 26 (ld_ ty_plain_27 rfl) ?_
 first|refine k_q 26 ?_|refine rG 26 (Calm.bin rfl rfl (bin_bool (bin_neq _ _) (bnot_dec_false rfl))) ?_
 first|refine k_t rfl rfl ?_|refine k_f rfl rfl ?_
 refine k_m rfl ?_
 first|refine k_q 33 ?_|refine rG 33 (Calm.fieldAddr ty_field_29_1 rfl) ?_
 first|refine k_q 33 ?_|refine rG 33 (ld_ ty_plain_26 rfl) ?_
 first|refine k_q 33 ?_|refine rG 33 (Calm.lenSl Tryz.underlying26 rfl) ?_
 first|refine k_q 33 ?_|refine rG 33 (Calm.fieldAddr ty_field_29_1 rfl) ?_
 first|refine k_q 33 ?_|refine rG 33 (ld_ ty_plain_26 rfl) ?_
 first|refine k_q 33 ?_|refine rG 33 (Calm.lenSl Tryz.underlying26 rfl) ?_
 first|refine k_q 33 ?_|refine rG 33 (Calm.bin rfl rfl (bin_bool (bin_neq _ _) (bnot_dec_false rfl))) ?_
 first|refine k_t rfl rfl ?_|refine k_f rfl rfl ?_
 refine k_n ?_
 refine k_u [(0,_),(1,_),(2,_),(3,_),(4,_),(41,_)] ?_
 refine k_F rfl ?_
 refine k_k (AWP.seq (k_a ?_))
 refine rC (Calm.fieldAddr ty_field_29_1 rfl) ?_
 refine rC (ld_ ty_plain_26 rfl) ?_
 refine rC (Calm.lenSl Tryz.underlying26 rfl) ?_
 refine k_m rfl (k_n ?_)
 refine k_u [(0,_),(1,_),(2,_),(3,_),(4,_),(41,_),(44,_),(45,_)] ?_
 refine AWP.block ?_
 refine AWP.loop (X:=Nat) (fun y=>[(2,.pointer (some ⟨b2,0,none⟩)),(3,.pointer (some ⟨b3,0,none⟩)),(44,.int .i64 x.fr.length),(45,.int .i64 y)]) (fun _=>(S.set b2 ⟨29,[.int .i64 x.d.size,.slice pe x.d.ext.length ce,.slice pw x.d.waits.length cw,.int .i64 x.d.fuse,.bool x.d.down,.slice pf x.fr.length cf,.int .u64 x.tick,.int .u64 x.reads,.int .u64 x.writes],9⟩).set b3 ⟨29,[.int .i64 x.d.size,.slice pe' x.d.ext.length ce',.slice pw' x.d.waits.length cw',.int .i64 x.d.fuse,.bool x.d.down,.slice pf' x.fr.length cf',.int .u64 x.tick,.int .u64 x.reads,.int .u64 x.writes],9⟩) (fun y=>y ≤ x.fr.length) (fun y=>x.fr.length - y) (0) ⟨rfl,rfl,rfl,rfl,trivial⟩ (Mem.Less.refl _) (Nat.zero_le _) ?_
 rintro i hi
 (try dsimp only at *)
 refine k_a ?_
 refine rC (Calm.bin rfl rfl b_lss) ?_
 refine k_n (AWP.seq ?_)
 refine AWP.condB rfl (fun hc=>?_) (fun hc=>?_)
 ·have hc : i < x.fr.length:=by have:=of_decide_eq_true hc;omega
  obtain ⟨bf,of',rfl,hkf⟩:=hF3.resolve_left (fun e=>by rw [e] at hc;simp at hc)
  obtain ⟨bg,og',rfl,hkg⟩:=hG3.resolve_left (fun e=>by rw [e] at hc;simp at hc)
  have hk1:=hkf i hc
  have hk2:=hkg i hc
  generalize x.fr[i] = y at *
  unfold frF at hk1 hk2
  refine k_k (AWP.seq ?_)
  refine AWP.block ?_
  refine k_a (k_m rfl (k_e rfl ?_))
  refine k_u [(2,_),(3,_),(44,_),(45,_),(46,_),(5,_)] ?_
  refine AWP.seq ?_
  refine AWP.draw [(0,true),(1,true),(2,true),(3,true),(4,true),(5,true),(6,true),(7,true),(8,true),(9,true),(10,true)] [] mixed (by kernel_rfl) ?_
  refine dP (hc:=fun _=>Calm.fieldAddr ty_field_29_1 rfl) (h:=?_)
  refine dC (hc:=ld_ ty_plain_26 rfl) (h:=?_)
  refine dP (hc:=fun _=>Calm.move rfl) (h:=?_)
  refine dP (hc:=fun _=>Calm.indexS Tryz.underlying26 ty_size_62 rfl rfl (by omega) (by omega)) (h:=?_)
  refine dC (hc:=ldA_ (cs:=[_,_,_,_,_,_,_]) ty_agg_62 ty_size_62 rfl) (h:=?_)
  refine dP (hc:=fun _=>Calm.fieldAddr ty_field_29_1 rfl) (h:=?_)
  refine dC (hc:=ld_ ty_plain_26 rfl) (h:=?_)
  refine dP (hc:=fun _=>Calm.move rfl) (h:=?_)
  refine dP (hc:=fun _=>Calm.indexS Tryz.underlying26 ty_size_62 rfl rfl (by omega) (by omega)) (h:=?_)
  refine dC (hc:=ldA_ (cs:=[_,_,_,_,_,_,_]) ty_agg_62 ty_size_62 rfl) (h:=?_)
  refine dP (hc:=fun _=>Calm.bin rfl rfl (bin_neq_frame y)) (h:=?_)
  refine draw_nil ?_
  refine athen_n ?_
  refine k_u [(2,_),(3,_),(44,_),(45,_),(46,_),(5,_),(58,_)] ?_
  refine k_F rfl ?_
  refine AWP.skip ?_
  refine ain_n ?_
  refine athen_n ?_
  refine AWP.region ?_
  refine rC (Calm.bin rfl rfl b_add_i64) ?_
  refine k_m rfl (k_n ?_)
  refine ⟨i + 1,?_,?_,?_,?_⟩
  all_goals (try dsimp only)
  ·exact ⟨rfl,rfl,rfl,rfl,trivial⟩
  ·exact Mem.Less.refl _
  ·exact hc
  ·omega
 ·refine AWP.exit ?_
  refine athen_exit ?_
  refine athen_exit ?_
  refine ain_same ?_
  refine athen_n ?_
  refine k_a (k_e rfl ?_)
  refine AWP.ret ?_
  refine ⟨_,S,⟨_,_,rfl,rfl,rfl⟩,less_,?_⟩
  exact ⟨rfl,rfl⟩
end Go.Proofs.YtkeiphkccnfhoaaGreat
namespace Go.Proofs.YtkeiphkccnfhoaaGreat
open Go.RowKit
open Mv Disk
set_option maxRecDepth 20000
set_option maxHeartbeats 16000000 in
theorem law_PoolPins (v vl : Value) (p : Pl) (s t : ByteArray) (n g : Int) (l : List Int) (S : Mem) (hp : PlR S v p) (hz : Dz p.d) (hf : p.fr.length * 72 ≤ 140737488351232) (hl : Sl 1 i64s S vl l) :
  ACall Tryz.prog 3 #[v,.string s,.int .i64 n,.int .i64 g,.string t,vl] S fun r S'=>r = .bool true:=by
 have c0:=fun v M h=>rp_CopyR v p M h hz hf
 have c1:=fun v M h=>pl_Pin v p s n M h hz
 have e1:=fun v M h=>rp_Pin v p s n M h hz hf
 have c2:=fun v vl M h hl=>pl_Unpin v vl p l M h hz hl
 have e2:=fun v vl M h hl=>rp_Unpin v p vl l M h hz hf hl
 have c3:=fun v M h=>pl_Look v p n M h hz
 have e3:=fun v M h=>rp_Look v p n M h hz
 have c4:=fun v M h=>pl_Fill v p n g t M h hz
 have e4:=fun v M h=>rp_Fill v p n g t M h hz hf
 have c5:=fun v M h=>pl_Check v p M h hz
 have e5:=fun v M h=>rp_Check v p M h hz
 obtain ⟨pe,ce,pw,cw,pf,cf,rfl,hE,hW,hF⟩:=id hp
 obtain ⟨la,lc,rfl,_⟩:=id hl
 generalize openedN p (pinP p s n) = u1 at *
 generalize openedP p (eachP unpin1 p p l) = u2 at *
 generalize openedS p (lookP p n) = u3 at *
 generalize openedP p (fillP p n g t) = u4 at *
 generalize chkP p = u5 at *
 refine ACall.enter (rs:=[.tmp 12]) 148 [(0,.agg #[.int .i64 p.d.size,.slice pe p.d.ext.length ce,.slice pw p.d.waits.length cw,.int .i64 p.d.fuse,.bool p.d.down,.slice pf p.fr.length cf,.int .u64 p.tick,.int .u64 p.reads,.int .u64 p.writes]),(1,.string s),(2,.int .i64 n),(3,.int .i64 g),(4,.string t),(5,.slice la l.length lc)] Tryz.func3 rfl rfl (Nat.le_of_ble_eq_true rfl) rfl ⟨rfl,rfl,rfl,rfl,rfl,rfl,trivial⟩ ?_
 refine k_a ?_
 refine k_b9 rfl ?_
 intro b6 f6
 have g6:=f6
 repeat ((with_reducible replace g6:=fresh_set g6);obtain ⟨g6,_⟩:=g6)
 try simp only [k_l1,k_l0,k_za,Nat.reduceAdd]
 refine k_e rfl ?_
 refine named (S:=S) (b:=b6) g6.1 ?_
 intro T6 hT6 kb6
 replace hp:=hp.less hT6
 replace hl:=hl.less hT6
 refine k_a ?_
 refine k_9 ty_agg_29 ty_size_29 rfl ?_
 refine ARun.call (lit_lt rfl) go_5 rfl (c0 _ _ hp) ?_
 rintro _ S1 ⟨hS1,hg⟩
 obtain ⟨pg,qg,rg,sg,tg,ug,rfl,hEg,hWg,hFg⟩:=id hg
 replace hp:=hp.less hS1
 replace hl:=hl.less hS1
 replace kb6:=hS1.own kb6
 refine ARun.alloc (lit_lt rfl) ty_zero_29 ?_
 intro b13 f13
 have g13:=f13
 repeat ((with_reducible replace g13:=fresh_set g13);obtain ⟨g13,_⟩:=g13)
 have:=g13.ne kb6;have:=g13.ne' kb6
 try simp only [k_l1,k_l0,k_za,Nat.reduceAdd]
 first|refine k_A rfl rfl ty_size_29 ?_|refine k_B rfl rfl ty_size_29 ?_
 try simp only [k_ms,k_sz,k_ss,k_za,Nat.reduceAdd]
 refine k_n ?_
 refine k_u [(0,_),(1,_),(2,_),(3,_),(4,_),(5,_),(6,_),(12,_),(13,_)] ?_
 refine named (S:=S1) (b:=b13) g13.1 ?_
 intro T13 hT13 kb13
 replace hp:=hp.less hT13
 replace hl:=hl.less hT13
 replace kb6:=hT13.own kb6
 replace hg:=hg.less hT13
 refine k_a ?_
 refine k_9 ty_agg_29 ty_size_29 rfl ?_
 refine k_m rfl (k_m rfl ?_)
 refine ARun.call (lit_lt rfl) go_6 rfl (c1 _ _ hg) ?_
 rintro _ S2 ⟨v,rfl,hS2,ha⟩
 obtain ⟨pa,qa,ra,sa,ta,ua,rfl,hEa,hWa,hFa⟩:=id ha
 replace hp:=hp.less hS2
 replace hl:=hl.less hS2
 replace kb6:=hS2.own kb6
 replace hg:=hg.less hS2
 replace kb13:=hS2.own kb13
 refine k_m rfl ?_
 refine rC (Calm.extract rfl rfl) ?_
 refine rC (Calm.extract rfl rfl) ?_
 refine rC (Calm.extract rfl rfl) ?_
 refine ARun.alloc (lit_lt rfl) ty_zero_29 ?_
 intro b14 f14
 have g14:=f14
 repeat ((with_reducible replace g14:=fresh_set g14);obtain ⟨g14,_⟩:=g14)
 have:=g14.ne kb6;have:=g14.ne' kb6
 have:=g14.ne kb13;have:=g14.ne' kb13
 try simp only [k_l1,k_l0,k_za,Nat.reduceAdd]
 first|refine k_A rfl rfl ty_size_29 ?_|refine k_B rfl rfl ty_size_29 ?_
 try simp only [k_ms,k_sz,k_ss,k_za,Nat.reduceAdd]
 refine k_s rfl (k_e rfl ?_)
 refine k_u [(0,_),(1,_),(2,_),(3,_),(4,_),(5,_),(6,_),(12,_),(13,_),(14,_),(15,_),(16,_)] ?_
 refine named (S:=S2) (b:=b14) g14.1 ?_
 intro T14 hT14 kb14
 replace hp:=hp.less hT14
 replace hl:=hl.less hT14
 replace kb6:=hT14.own kb6
 replace hg:=hg.less hT14
 replace kb13:=hT14.own kb13
 replace ha:=ha.less hT14
 refine k_a ?_
 refine k_9 ty_agg_29 ty_size_29 rfl ?_
 refine k_m rfl (k_m rfl ?_)
 refine ARun.call (lit_lt rfl) go_7 rfl (e1 _ _ hp) ?_
 rintro _ S3 ⟨v,rfl,hS3,hb⟩
 obtain ⟨pb,qb,rb,sb,tb,ub,rfl,hEb,hWb,hFb⟩:=id hb
 replace hp:=hp.less hS3
 replace hl:=hl.less hS3
 replace kb6:=hS3.own kb6
 replace hg:=hg.less hS3
 replace kb13:=hS3.own kb13
 replace ha:=ha.less hS3
 replace kb14:=hS3.own kb14
 refine k_m rfl ?_
 refine rC (Calm.extract rfl rfl) ?_
 refine rC (Calm.extract rfl rfl) ?_
 refine rC (Calm.extract rfl rfl) ?_
 refine ARun.alloc (lit_lt rfl) ty_zero_29 ?_
 intro b17 f17
 have g17:=f17
 repeat ((with_reducible replace g17:=fresh_set g17);obtain ⟨g17,_⟩:=g17)
 have:=g17.ne kb6;have:=g17.ne' kb6
 have:=g17.ne kb13;have:=g17.ne' kb13
 have:=g17.ne kb14;have:=g17.ne' kb14
 try simp only [k_l1,k_l0,k_za,Nat.reduceAdd]
 first|refine k_A rfl rfl ty_size_29 ?_|refine k_B rfl rfl ty_size_29 ?_
 try simp only [k_ms,k_sz,k_ss,k_za,Nat.reduceAdd]
 refine k_s rfl (k_e rfl ?_)
 refine k_u [(0,_),(1,_),(2,_),(3,_),(4,_),(5,_),(6,_),(12,_),(13,_),(14,_),(15,_),(16,_),(17,_),(18,_),(19,_)] ?_
 refine named (S:=S3) (b:=b17) g17.1 ?_
 intro T17 hT17 kb17
 replace hp:=hp.less hT17
 replace hl:=hl.less hT17
 replace kb6:=hT17.own kb6
 replace hg:=hg.less hT17
 replace kb13:=hT17.own kb13
 replace ha:=ha.less hT17
 replace kb14:=hT17.own kb14
 replace hb:=hb.less hT17
 refine k_a ?_
 refine k_9 ty_agg_29 ty_size_29 rfl ?_
 refine k_m rfl ?_
 refine ARun.call (lit_lt rfl) go_8 rfl (c2 _ _ _ hg hl) ?_
 rintro _ S4 ⟨v,rfl,hS4,hc⟩
 obtain ⟨pc,qc,rc,sc,tc,uc,rfl,hEc,hWc,hFc⟩:=id hc
 replace hp:=hp.less hS4
 replace hl:=hl.less hS4
 replace kb6:=hS4.own kb6
 replace hg:=hg.less hS4
 replace kb13:=hS4.own kb13
 replace ha:=ha.less hS4
 replace kb14:=hS4.own kb14
 replace hb:=hb.less hS4
 replace kb17:=hS4.own kb17
 refine k_m rfl ?_
 refine rC (Calm.extract rfl rfl) ?_
 refine rC (Calm.extract rfl rfl) ?_
 refine ARun.alloc (lit_lt rfl) ty_zero_29 ?_
 intro b20 f20
 have g20:=f20
 repeat ((with_reducible replace g20:=fresh_set g20);obtain ⟨g20,_⟩:=g20)
 have:=g20.ne kb6;have:=g20.ne' kb6
 have:=g20.ne kb13;have:=g20.ne' kb13
 have:=g20.ne kb14;have:=g20.ne' kb14
 have:=g20.ne kb17;have:=g20.ne' kb17
 try simp only [k_l1,k_l0,k_za,Nat.reduceAdd]
 first|refine k_A rfl rfl ty_size_29 ?_|refine k_B rfl rfl ty_size_29 ?_
 try simp only [k_ms,k_sz,k_ss,k_za,Nat.reduceAdd]
 refine k_e rfl ?_
 refine k_u [(0,_),(1,_),(2,_),(3,_),(4,_),(5,_),(6,_),(12,_),(13,_),(14,_),(15,_),(16,_),(17,_),(18,_),(19,_),(20,_),(21,_)] ?_
 refine named (S:=S4) (b:=b20) g20.1 ?_
 intro T20 hT20 kb20
 replace hp:=hp.less hT20
 replace hl:=hl.less hT20
 replace kb6:=hT20.own kb6
 replace hg:=hg.less hT20
 replace kb13:=hT20.own kb13
 replace ha:=ha.less hT20
 replace kb14:=hT20.own kb14
 replace hb:=hb.less hT20
 replace kb17:=hT20.own kb17
 replace hc:=hc.less hT20
 refine k_a ?_
 refine k_9 ty_agg_29 ty_size_29 rfl ?_
 refine k_m rfl ?_
 refine ARun.call (lit_lt rfl) go_9 rfl (e2 _ _ _ hp hl) ?_
 rintro _ S5 ⟨v,rfl,hS5,hd⟩
 obtain ⟨pd,qd,rd,sd,td,ud,rfl,hEd,hWd,hFd⟩:=id hd
 replace hp:=hp.less hS5
 replace hl:=hl.less hS5
 replace kb6:=hS5.own kb6
 replace hg:=hg.less hS5
 replace kb13:=hS5.own kb13
 replace ha:=ha.less hS5
 replace kb14:=hS5.own kb14
 replace hb:=hb.less hS5
 replace kb17:=hS5.own kb17
 replace hc:=hc.less hS5
 replace kb20:=hS5.own kb20
 refine k_m rfl ?_
 refine rC (Calm.extract rfl rfl) ?_
 refine rC (Calm.extract rfl rfl) ?_
 refine ARun.alloc (lit_lt rfl) ty_zero_29 ?_
 intro b22 f22
 have g22:=f22
 repeat ((with_reducible replace g22:=fresh_set g22);obtain ⟨g22,_⟩:=g22)
 have:=g22.ne kb6;have:=g22.ne' kb6
 have:=g22.ne kb13;have:=g22.ne' kb13
 have:=g22.ne kb14;have:=g22.ne' kb14
 have:=g22.ne kb17;have:=g22.ne' kb17
 have:=g22.ne kb20;have:=g22.ne' kb20
 try simp only [k_l1,k_l0,k_za,Nat.reduceAdd]
 first|refine k_A rfl rfl ty_size_29 ?_|refine k_B rfl rfl ty_size_29 ?_
 try simp only [k_ms,k_sz,k_ss,k_za,Nat.reduceAdd]
 refine k_e rfl ?_
 refine k_u [(0,_),(1,_),(2,_),(3,_),(4,_),(5,_),(6,_),(12,_),(13,_),(14,_),(15,_),(16,_),(17,_),(18,_),(19,_),(20,_),(21,_),(22,_),(23,_)] ?_
 refine named (S:=S5) (b:=b22) g22.1 ?_
 intro T22 hT22 kb22
 replace hp:=hp.less hT22
 replace hl:=hl.less hT22
 replace kb6:=hT22.own kb6
 replace hg:=hg.less hT22
 replace kb13:=hT22.own kb13
 replace ha:=ha.less hT22
 replace kb14:=hT22.own kb14
 replace hb:=hb.less hT22
 replace kb17:=hT22.own kb17
 replace hc:=hc.less hT22
 replace kb20:=hT22.own kb20
 replace hd:=hd.less hT22
 refine k_a ?_
 refine k_9 ty_agg_29 ty_size_29 rfl ?_
 refine k_m rfl ?_
 refine ARun.call (lit_lt rfl) go_10 rfl (c3 _ _ hg) ?_
 rintro _ Sx ⟨rfl,h1⟩
 rw [h1];clear h1 Sx
 refine k_m rfl ?_
 refine rC (Calm.extract rfl rfl) ?_
 refine rC (Calm.extract rfl rfl) ?_
 refine k_s rfl (k_e rfl ?_)
 refine k_u [(0,_),(1,_),(2,_),(3,_),(4,_),(5,_),(6,_),(12,_),(13,_),(14,_),(15,_),(16,_),(17,_),(18,_),(19,_),(20,_),(21,_),(22,_),(23,_),(24,_),(25,_)] ?_
 refine k_a ?_
 refine k_9 ty_agg_29 ty_size_29 rfl ?_
 refine k_m rfl ?_
 refine ARun.call (lit_lt rfl) go_11 rfl (e3 _ _ hp) ?_
 rintro _ Sx ⟨rfl,h1⟩
 rw [h1];clear h1 Sx
 refine k_m rfl ?_
 refine rC (Calm.extract rfl rfl) ?_
 refine rC (Calm.extract rfl rfl) ?_
 refine k_s rfl (k_e rfl ?_)
 refine k_u [(0,_),(1,_),(2,_),(3,_),(4,_),(5,_),(6,_),(12,_),(13,_),(14,_),(15,_),(16,_),(17,_),(18,_),(19,_),(20,_),(21,_),(22,_),(23,_),(24,_),(25,_),(26,_),(27,_)] ?_
 refine k_a ?_
 refine k_9 ty_agg_29 ty_size_29 rfl ?_
 refine k_m rfl (k_m rfl (k_m rfl ?_))
 refine ARun.call (lit_lt rfl) go_12 rfl (c4 _ _ hg) ?_
 rintro _ S8 ⟨v,rfl,hS8,he⟩
 obtain ⟨pe,qe,re,se,te,ue,rfl,hEe,hWe,hFe⟩:=id he
 replace hp:=hp.less hS8
 replace hl:=hl.less hS8
 replace kb6:=hS8.own kb6
 replace hg:=hg.less hS8
 replace kb13:=hS8.own kb13
 replace ha:=ha.less hS8
 replace kb14:=hS8.own kb14
 replace hb:=hb.less hS8
 replace kb17:=hS8.own kb17
 replace hc:=hc.less hS8
 replace kb20:=hS8.own kb20
 replace hd:=hd.less hS8
 replace kb22:=hS8.own kb22
 refine k_m rfl ?_
 refine rC (Calm.extract rfl rfl) ?_
 refine rC (Calm.extract rfl rfl) ?_
 refine ARun.alloc (lit_lt rfl) ty_zero_29 ?_
 intro b28 f28
 have g28:=f28
 repeat ((with_reducible replace g28:=fresh_set g28);obtain ⟨g28,_⟩:=g28)
 have:=g28.ne kb6;have:=g28.ne' kb6
 have:=g28.ne kb13;have:=g28.ne' kb13
 have:=g28.ne kb14;have:=g28.ne' kb14
 have:=g28.ne kb17;have:=g28.ne' kb17
 have:=g28.ne kb20;have:=g28.ne' kb20
 have:=g28.ne kb22;have:=g28.ne' kb22
 try simp only [k_l1,k_l0,k_za,Nat.reduceAdd]
 first|refine k_A rfl rfl ty_size_29 ?_|refine k_B rfl rfl ty_size_29 ?_
 try simp only [k_ms,k_sz,k_ss,k_za,Nat.reduceAdd]
 refine k_e rfl ?_
 refine k_u [(0,_),(1,_),(2,_),(3,_),(4,_),(5,_),(6,_),(12,_),(13,_),(14,_),(15,_),(16,_),(17,_),(18,_),(19,_),(20,_),(21,_),(22,_),(23,_),(24,_),(25,_),(26,_),(27,_),(28,_),(29,_)] ?_
 refine named (S:=S8) (b:=b28) g28.1 ?_
 intro T28 hT28 kb28
 replace hp:=hp.less hT28
 replace hl:=hl.less hT28
 replace kb6:=hT28.own kb6
 replace hg:=hg.less hT28
 replace kb13:=hT28.own kb13
 replace ha:=ha.less hT28
 replace kb14:=hT28.own kb14
 replace hb:=hb.less hT28
 replace kb17:=hT28.own kb17
 replace hc:=hc.less hT28
 replace kb20:=hT28.own kb20
 replace hd:=hd.less hT28
 replace kb22:=hT28.own kb22
 replace he:=he.less hT28
 refine k_a ?_
 refine k_9 ty_agg_29 ty_size_29 rfl ?_
 refine k_m rfl (k_m rfl (k_m rfl ?_))
 refine ARun.call (lit_lt rfl) go_13 rfl (e4 _ _ hp) ?_
 rintro _ S9 ⟨v,rfl,hS9,hf'⟩
 obtain ⟨pf,qf,rf,sf,tf,uf,rfl,hEf,hWf,hFf⟩:=id hf'
 replace hp:=hp.less hS9
 replace hl:=hl.less hS9
 replace kb6:=hS9.own kb6
 replace hg:=hg.less hS9
 replace kb13:=hS9.own kb13
 replace ha:=ha.less hS9
 replace kb14:=hS9.own kb14
 replace hb:=hb.less hS9
 replace kb17:=hS9.own kb17
 replace hc:=hc.less hS9
 replace kb20:=hS9.own kb20
 replace hd:=hd.less hS9
 replace kb22:=hS9.own kb22
 replace he:=he.less hS9
 replace kb28:=hS9.own kb28
 refine k_m rfl ?_
 refine rC (Calm.extract rfl rfl) ?_
 refine rC (Calm.extract rfl rfl) ?_
 refine ARun.alloc (lit_lt rfl) ty_zero_29 ?_
 intro b30 f30
 have g30:=f30
 repeat ((with_reducible replace g30:=fresh_set g30);obtain ⟨g30,_⟩:=g30)
 have:=g30.ne kb6;have:=g30.ne' kb6
 have:=g30.ne kb13;have:=g30.ne' kb13
 have:=g30.ne kb14;have:=g30.ne' kb14
 have:=g30.ne kb17;have:=g30.ne' kb17
 have:=g30.ne kb20;have:=g30.ne' kb20
 have:=g30.ne kb22;have:=g30.ne' kb22
 have:=g30.ne kb28;have:=g30.ne' kb28
 try simp only [k_l1,k_l0,k_za,Nat.reduceAdd]
 first|refine k_A rfl rfl ty_size_29 ?_|refine k_B rfl rfl ty_size_29 ?_
 try simp only [k_ms,k_sz,k_ss,k_za,Nat.reduceAdd]
 refine k_e rfl ?_
 refine k_u [(0,_),(1,_),(2,_),(3,_),(4,_),(5,_),(6,_),(12,_),(13,_),(14,_),(15,_),(16,_),(17,_),(18,_),(19,_),(20,_),(21,_),(22,_),(23,_),(24,_),(25,_),(26,_),(27,_),(28,_),(29,_),(30,_),(31,_)] ?_
 refine named (S:=S9) (b:=b30) g30.1 ?_
 intro T30 hT30 kb30
 replace hp:=hp.less hT30
 replace hl:=hl.less hT30
 replace kb6:=hT30.own kb6
 replace hg:=hg.less hT30
 replace kb13:=hT30.own kb13
 replace ha:=ha.less hT30
 replace kb14:=hT30.own kb14
 replace hb:=hb.less hT30
 replace kb17:=hT30.own kb17
 replace hc:=hc.less hT30
 replace kb20:=hT30.own kb20
 replace hd:=hd.less hT30
 replace kb22:=hT30.own kb22
 replace he:=he.less hT30
 replace kb28:=hT30.own kb28
 replace hf':=hf'.less hT30
 refine AWP.seq ?_
 refine AWP.draw [(0,false),(1,true),(2,true),(3,true),(4,false),(5,true),(6,true),(7,true),(8,true),(9,true),(10,true),(11,true),(12,true),(13,true),(14,true),(15,true),(16,true),(17,true),(18,true),(19,false),(20,true),(21,true),(22,true),(23,true),(24,true),(25,true),(26,true),(27,true),(28,true),(29,true),(30,true),(31,true),(32,true),(33,true),(34,true),(35,true),(36,true),(37,true),(38,true),(39,false),(40,true),(41,true),(42,true),(43,true),(44,true),(45,true),(46,true),(47,true),(49,true),(48,false),(50,false),(51,true),(52,true),(53,true),(54,true),(55,true),(56,false),(57,true),(58,true)] [] mixed (by kernel_rfl) ?_
 refine draw_only rfl ?_
 refine ARun.call (lit_lt rfl) go_14 rfl (pv_lives _) ?_
 rintro _ Sx ⟨rfl,h1⟩
 rw [h1];clear h1 Sx
 refine arun_nil ⟨fun _=>less_,?_⟩
 refine dP (hc:=fun _=>Calm.move rfl) (h:=?_)
 first|refine k_d ?_|refine dL (hc:=ldA_ (cs:=[_,_,_,_,_,_,_,_,_]) ty_agg_29 ty_size_29 rfl) (h:=?_)
 first|refine k_d ?_|refine dL (hc:=ldA_ (cs:=[_,_,_,_,_,_,_,_,_]) ty_agg_29 ty_size_29 rfl) (h:=?_)
 refine draw_only rfl ?_
 refine ARun.callG 1 true 91 rfl (lit_lt rfl) rfl (lit_lt rfl) go_15 rfl (rp_Same _ _ u1.1 _ ha hb) ?_
 rintro _ Sx ⟨rfl,h1⟩
 rw [h1];clear h1 Sx
 refine arun_nil ⟨fun _=>less_,?_⟩
 refine dP (hc:=fun _=>(by first | exact Calm.pickT rfl rfl | exact Calm.pickF rfl rfl)) (h:=?_)
 refine dP (hc:=fun _=>Calm.move rfl) (h:=?_)
 first|refine k_d ?_|refine dG (hc:=fun _=>Calm.move rfl) (h:=?_)
 first|refine k_d ?_|refine dG (hc:=fun _=>Calm.move rfl) (h:=?_)
 first|refine k_d ?_|refine dG (hc:=fun _=>Calm.bin rfl rfl (bin_bool b_eql (decide_eq_true rfl))) (h:=?_)
 refine dP (hc:=fun _=>(by first | exact Calm.pickT rfl rfl | exact Calm.pickF rfl rfl)) (h:=?_)
 refine dP (hc:=fun _=>Calm.move rfl) (h:=?_)
 first|refine k_d ?_|refine dG (hc:=fun _=>Calm.move rfl) (h:=?_)
 first|refine k_d ?_|refine dG (hc:=fun _=>Calm.move rfl) (h:=?_)
 first|refine k_d ?_|refine dG (hc:=fun _=>Calm.bin rfl rfl (bin_bool b_eql (decide_eq_true rfl))) (h:=?_)
 refine dP (hc:=fun _=>(by first | exact Calm.pickT rfl rfl | exact Calm.pickF rfl rfl)) (h:=?_)
 refine dP (hc:=fun _=>Calm.move rfl) (h:=?_)
 first|refine k_d ?_|refine dL (hc:=ldA_ (cs:=[_,_,_,_,_,_,_,_,_]) ty_agg_29 ty_size_29 rfl) (h:=?_)
 first|refine k_d ?_|refine dL (hc:=ldA_ (cs:=[_,_,_,_,_,_,_,_,_]) ty_agg_29 ty_size_29 rfl) (h:=?_)
 refine draw_only rfl ?_
 refine ARun.callG 16 true 106 rfl (lit_lt rfl) rfl (lit_lt rfl) go_15 rfl (rp_Same _ _ u2.1 _ hc hd) ?_
 rintro _ Sx ⟨rfl,h1⟩
 rw [h1];clear h1 Sx
 refine arun_nil ⟨fun _=>less_,?_⟩
 refine dP (hc:=fun _=>(by first | exact Calm.pickT rfl rfl | exact Calm.pickF rfl rfl)) (h:=?_)
 refine dP (hc:=fun _=>Calm.move rfl) (h:=?_)
 first|refine k_d ?_|refine dG (hc:=fun _=>Calm.move rfl) (h:=?_)
 first|refine k_d ?_|refine dG (hc:=fun _=>Calm.move rfl) (h:=?_)
 first|refine k_d ?_|refine dG (hc:=fun _=>Calm.bin rfl rfl (bin_bool b_eql (decide_eq_true rfl))) (h:=?_)
 refine dP (hc:=fun _=>(by first | exact Calm.pickT rfl rfl | exact Calm.pickF rfl rfl)) (h:=?_)
 refine dP (hc:=fun _=>Calm.move rfl) (h:=?_)
 first|refine k_d ?_|refine dG (hc:=fun _=>Calm.move rfl) (h:=?_)
 first|refine k_d ?_|refine dG (hc:=fun _=>Calm.move rfl) (h:=?_)
 first|refine k_d ?_|refine dG (hc:=fun _=>Calm.bin rfl rfl (bin_bool (bin_str_eql _ _) (decide_eq_true rfl))) (h:=?_)
 refine dP (hc:=fun _=>(by first | exact Calm.pickT rfl rfl | exact Calm.pickF rfl rfl)) (h:=?_)
 refine dP (hc:=fun _=>Calm.move rfl) (h:=?_)
 first|refine k_d ?_|refine dG (hc:=fun _=>Calm.move rfl) (h:=?_)
 first|refine k_d ?_|refine dG (hc:=fun _=>Calm.move rfl) (h:=?_)
 first|refine k_d ?_|refine dG (hc:=fun _=>Calm.bin rfl rfl (bin_bool b_eql (decide_eq_true rfl))) (h:=?_)
 refine dP (hc:=fun _=>(by first | exact Calm.pickT rfl rfl | exact Calm.pickF rfl rfl)) (h:=?_)
 refine dP (hc:=fun _=>Calm.move rfl) (h:=?_)
 first|refine k_d ?_|refine dL (hc:=ldA_ (cs:=[_,_,_,_,_,_,_,_,_]) ty_agg_29 ty_size_29 rfl) (h:=?_)
 first|refine k_d ?_|refine dL (hc:=ldA_ (cs:=[_,_,_,_,_,_,_,_,_]) ty_agg_29 ty_size_29 rfl) (h:=?_)
 refine draw_only rfl ?_
 refine ARun.callG 36 true 126 rfl (lit_lt rfl) rfl (lit_lt rfl) go_15 rfl (rp_Same _ _ u4.1 _ he hf') ?_
 rintro _ Sx ⟨rfl,h1⟩
 rw [h1];clear h1 Sx
 refine arun_nil ⟨fun _=>less_,?_⟩
 refine dP (hc:=fun _=>(by first | exact Calm.pickT rfl rfl | exact Calm.pickF rfl rfl)) (h:=?_)
 refine dP (hc:=fun _=>Calm.move rfl) (h:=?_)
 first|refine k_d ?_|refine dG (hc:=fun _=>Calm.move rfl) (h:=?_)
 first|refine k_d ?_|refine dG (hc:=fun _=>Calm.move rfl) (h:=?_)
 first|refine k_d ?_|refine dG (hc:=fun _=>Calm.bin rfl rfl (bin_bool b_eql (decide_eq_true rfl))) (h:=?_)
 refine dP (hc:=fun _=>(by first | exact Calm.pickT rfl rfl | exact Calm.pickF rfl rfl)) (h:=?_)
 refine dP (hc:=fun _=>Calm.move rfl) (h:=?_)
 first|refine k_d ?_|refine dL (hc:=ldA_ (cs:=[_,_,_,_,_,_,_,_,_]) ty_agg_29 ty_size_29 rfl) (h:=?_)
 first|refine k_d ?_|refine dL (hc:=ldA_ (cs:=[_,_,_,_,_,_,_,_,_]) ty_agg_29 ty_size_29 rfl) (h:=?_)
 refine draw_only rfl ?_
 refine ARun.callG 46 true 136 rfl (lit_lt rfl) rfl (lit_lt rfl) go_16 rfl (c5 _ _ hg) ?_
 rintro _ Sx ⟨rfl,h1⟩
 rw [h1];clear h1 Sx
 refine arun_nil ⟨fun _=>less_,?_⟩
 refine draw_only rfl ?_
 refine ARun.callG 46 true 136 rfl (lit_lt rfl) rfl (lit_lt rfl) go_17 rfl (e5 _ _ hp) ?_
 rintro _ Sx ⟨rfl,h1⟩
 rw [h1];clear h1 Sx
 refine arun_nil ⟨fun _=>less_,?_⟩
 first|refine k_d ?_|refine dG (hc:=fun _=>Calm.bin rfl rfl (bin_bool b_eql (decide_eq_true rfl))) (h:=?_)
 refine dP (hc:=fun _=>(by first | exact Calm.pickT rfl rfl | exact Calm.pickF rfl rfl)) (h:=?_)
 refine dP (hc:=fun _=>Calm.move rfl) (h:=?_)
 first|refine k_d ?_|refine dL (hc:=ldA_ (cs:=[_,_,_,_,_,_,_,_,_]) ty_agg_29 ty_size_29 rfl) (h:=?_)
 first|refine k_d ?_|refine dL (hc:=ldA_ (cs:=[_,_,_,_,_,_,_,_,_]) ty_agg_29 ty_size_29 rfl) (h:=?_)
 refine draw_only rfl ?_
 refine ARun.callG 53 true 143 rfl (lit_lt rfl) rfl (lit_lt rfl) go_15 rfl (rp_Same _ _ p _ hg hp) ?_
 rintro _ Sx ⟨rfl,h1⟩
 rw [h1];clear h1 Sx
 refine arun_nil ⟨fun _=>less_,?_⟩
 refine dP (hc:=fun _=>(by first | exact Calm.pickT rfl rfl | exact Calm.pickF rfl rfl)) (h:=?_)
 refine dP (hc:=fun _=>Calm.assign rfl) (h:=?_)
 refine draw_nil ?_
 refine athen_n ?_
 refine k_u [(0,_),(1,_),(2,_),(3,_),(4,_),(5,_),(6,_),(12,_),(13,_),(14,_),(15,_),(16,_),(17,_),(18,_),(19,_),(20,_),(21,_),(22,_),(23,_),(24,_),(25,_),(26,_),(27,_),(28,_),(29,_),(30,_),(31,_)] ?_
 refine AWP.ret ?_
 refine ⟨_,_,⟨_,_,rfl,rfl,rfl⟩,less_,?_⟩
 rfl
theorem walk_PoolPins (cs : List Value) (y : Pl) (a1 : ByteArray) (a2 a3 : Int) (a4 : ByteArray) (b5 : Option Addr) (len5 cap5 : Nat) (zs5 : List Int) (W : World) (h0 : PlV (roM W) cs y) (w1 : a1.size ≤ maxLen) (z1 : a1.size < 140737488355328) (w2 : (Lit.int .i64 a2).wf = true) (w3 : (Lit.int .i64 a3).wf = true) (w4 : a4.size ≤ maxLen) (z4 : a4.size < 140737488355328)
  (w5 : Sl 1 (fun x=>[Value.int .i64 x]) (roM W) (.slice b5 len5 cap5) zs5) (wb5 : ∀ x ∈ zs5,(Lit.int .i64 x).wf = true) (zl5 : zs5.length ≤ 17592186043904) :
  Calls Tryz.prog 3 #[.agg cs.toArray,.string a1,.int .i64 a2,.int .i64 a3,.string a4,.slice b5 len5 cap5] W fun e w'=>e = .returned (.bool true) ∧ Below W.heap.size W w' :=
 ACall.callsW (law_PoolPins _ _ y a1 a4 a2 a3 zs5 _ h0.1 h0.2.1 h0.2.2 w5)
end Go.Proofs.YtkeiphkccnfhoaaGreat
