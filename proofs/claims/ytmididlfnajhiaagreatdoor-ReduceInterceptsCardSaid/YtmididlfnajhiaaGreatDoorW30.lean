/-
  Chapter 30: the walks over slices of solutions: directions, Meet, All, Best.
-/
import Derived.Test.YtmididlfnajhiaaGreatDoorU6
import Derived.Test.YtmididlfnajhiaaGreatDoorU13
import Derived.WalkKit
import Derived.Lib.Hide
import Derived.Deep.Draws
import Derived.Deep.AppendLies
import Derived.Deep.QuietTactic
import Derived.BigQuiet
import Derived.WalkSpells
import Derived.Laws.OwnMore
import Derived.Deep.RegionHeld3
import Derived.Deep.RegionWith
import Derived.Deep.CutRange
set_option maxRecDepth 100000
set_option maxHeartbeats 4000000
open Go.RowKit.Below renaming heap_alloc→anX,refl→acQ
open Go.Lib renaming hid→aaQ
open _root_.Nat renaming add_assoc→avX,add_zero→atX,le_refl→aaX,le_trans→alQ,lt_of_lt_of_le→ahQ,zero_le→adX,zero_mul→ayX
open Go.World renaming setCell→axJ
namespace Go.Proofs.YtmididlfnajhiaaGreatDoor
open Go.RowKit
open Ev (gF aH)
theorem Ev.gF.below {w w':World} (h:Ev.gF w) (hb:Below w.heap.size w w'):Ev.gF w':=h.of fun g hg _=>hb.block g hg
def GP (V:Value) (w:World) (e:Ending) (w':World):Prop:=e=.returned V∧Below w.heap.size w w'
theorem at0 {P:Program} {g:FuncId} {V:Value} (h:aH P g [] V) {w:World} (hg:gF w):Calls P g #[] w (GP V w):=h w hg
theorem at1 {P:Program} {g:FuncId} {a V:Value} (h:aH P g [a] V) {w:World} (hg:gF w):Calls P g #[a] w (GP V w):=h w hg
theorem at2 {P:Program} {g:FuncId} {a b V:Value} (h:aH P g [a,b] V) {w:World} (hg:gF w):Calls P g #[a,b] w (GP V w):=h w hg
def solC (s:gR):Value:=.agg #[.int .i64 s.1,.int .i64 s.2.1,.int .i64 s.2.2.1,.int .i64 s.2.2.2]
structure Sols (w:World) (A:Option Addr) (n:Nat) (l:List gR):Prop where
 len:l.length=n
 le:n≤9223372036854775807
 cells:0<n→∃b off,A=some ⟨b,off,none⟩∧b<w.heap.size∧∀i,i<n→w.cell? ⟨b,off+i*4,none⟩=some (.int .i64 (l.getD i qO).1)∧w.cell? ⟨b,off+i*4+1,none⟩=some (.int .i64 (l.getD i qO).2.1)∧w.cell? ⟨b,off+i*4+2,none⟩=some (.int .i64 (l.getD i qO).2.2.1)∧w.cell? ⟨b,off+i*4+3,none⟩=some (.int .i64 (l.getD i qO).2.2.2)
theorem Sols.below {w w':World} {A:Option Addr} {n:Nat} {l:List gR} {B:Nat} (h:Sols w A n l) (hb:Below B w w') (hB:w.heap.size≤B):Sols w' A n l:=
 ⟨h.len,h.le,fun hn=>by
  obtain ⟨b,off,e,hlt,hc⟩:=h.cells hn;have k:∀o,w'.cell? ⟨b,o,none⟩=w.cell? ⟨b,o,none⟩:=fun o=>hb.cell (p:=⟨b,o,none⟩) (ahQ hlt hB);exact ⟨b,off,e,ahQ hlt hb.size,fun i hi=>by rw [k,k,k,k];exact hc i hi⟩⟩
theorem Sols.at_ {w w':World} {A:Option Addr} {n:Nat} {l:List gR} {k:Nat} (h:Sols w A n l) (hk:k<n) (hb:Below w.heap.size w w'):∃b off a1 a2 a3 a4,A=some ⟨b,off,none⟩∧b<w.heap.size∧l.getD k qO=(a1,a2,a3,a4)∧
  w'.cell? ⟨b,off+k*4,none⟩=some (.int .i64 a1)∧w'.cell? ⟨b,off+k*4+1,none⟩=some (.int .i64 a2)∧w'.cell? ⟨b,off+k*4+2,none⟩=some (.int .i64 a3)∧w'.cell? ⟨b,off+k*4+3,none⟩=some (.int .i64 a4):=by
 obtain ⟨b,off,e,hlt,hc⟩:=h.cells (by omega);have q:∀o,w'.cell? ⟨b,o,none⟩=w.cell? ⟨b,o,none⟩:=fun o=>hb.cell (p:=⟨b,o,none⟩) hlt;refine ⟨b,off,_,_,_,_,e,hlt,rfl,?_⟩;rw [q,q,q,q];exact hc k hk
theorem BK {l:List gR} {k:Nat} (h:k<l.length):l.getD k qO∈l:=by
 rw [List.getD_eq_getElem?_getD,List.getElem?_eq_getElem h];exact List.getElem_mem _
def QY (vS:gR→Bool) (l:List gR) (w:World) (e:Ending) (w':World):Prop:=(∃r:Int,e=.returned (.int .i64 r)∧decide (0≤r)=l.any (fun s=> !vS s)∧-1≤r∧r<9223372036854775807)∧Below w.heap.size w w'
theorem index_50 {vS:gR→Bool} (hv:∀a b c d:Int,aH Tryz.prog 50 [.agg #[.int .i64 a,.int .i64 b,.int .i64 c,.int .i64 d]] (.bool (!vS (a,b,c,d))))
  (A:Option Addr) (n c:Nat) (l:List gR) (w:World) (hg:gF w) (h:Sols w A n l):
  Calls Tryz.prog 53 #[.slice A n c,.func (.func 50) #[] #[]] w (QY vS l w):=by
 have hn:=h.le;have HS:=aaQ h;have HL:=aaQ h.len;have HV:=aaQ hv;have HG:=aaQ hg;clear h hv hg;go_enter Tryz.func53,Tryz.ntmps53;go_wp2;go_loopw [8] (fun i wr=>∃k:Nat,k≤n∧i=.int .i64 k∧(∀j,j<k→vS (l.getD j qO)=true)∧Below w.heap.size w wr) (fun i _=>n-(intOf i).toNat)
 case atStart=>exact ⟨0,adX _,rfl,fun j hj=>absurd hj (by omega),acQ _ _⟩
 case round=>
  obtain ⟨k,hk,rfl,hno,hbel⟩:=hrel;have HN:=aaQ hno;have HB:=aaQ hbel;clear hno;by_cases hlt:k<n
  ·obtain ⟨b,off,a1,a2,a3,a4,rfl,hb,hy,d0,d1,d2,d3⟩:=HS.out.at_ hlt hbel;have HY:=aaQ hy;clear hbel hy;go_wp2_with fail
   refine (at1 (HV.out a1 a2 a3 a4) (HG.out.below HB.out)).mono ?_;rintro e w1 ⟨rfl,hb1⟩;have HB1:=aaQ (HB.out.trans (hb1.mono HB.out.size));clear hb1;cases hs:vS (a1,a2,a3,a4) with
   | false=>
    have HF:=aaQ (show QY vS l w (.returned (.int .i64 (k:Int))) w1 from ⟨⟨k,rfl,by
     rw [decide_eq_true (by omega)];exact (List.any_eq_true.2 ⟨_,BK (l:=l) (k:=k) (by rw [HL.out];exact hlt),by rw [HY.out,hs];rfl⟩).symm,by omega,by omega⟩,HB1.out⟩)
    clear hs;go_wp2;go_ret;exact HF.out
   | true=>
    have HST:=aaQ (show ∀j,j<k+1→vS (l.getD j qO)=true from fun j hj=>by
     by_cases e:j=k
     ·rw [e,HY.out];exact hs
     ·exact HN.out j (by omega))
    clear hs;go_wp2;go_roundw
    case rel=>exact ⟨k+1,by omega,by go_num,HST.out,HB1.out⟩
    case measure=>simp [intOf];omega
  ·have hno:l.any (fun s=> !vS s)=false:=by
    rw [List.any_eq_false];intro x hx;obtain ⟨i,hi,he⟩:=List.getElem_of_mem hx;have:=HN.out i (by have:=HL.out;omega);rw [List.getD_eq_getElem?_getD,List.getElem?_eq_getElem hi] at this;simp only [Option.getD_some,he] at this;rw [this];simp
   have HF:=aaQ (show QY vS l w (.returned (.int .i64 (-1:Int))) wr from ⟨⟨-1,rfl,by rw [hno];rfl,by omega,by omega⟩,hbel⟩);clear hno hbel;go_wp2;go_ret;exact HF.out
theorem EZ {vS:gR→Bool} (hv:∀a b c d:Int,aH Tryz.prog 50 [.agg #[.int .i64 a,.int .i64 b,.int .i64 c,.int .i64 d]] (.bool (!vS (a,b,c,d))))
  (A:Option Addr) (n c:Nat) (l:List gR) (w:World) (hg:gF w) (h:Sols w A n l):
  Calls Tryz.prog 20 #[.slice A n c,.func (.func 50) #[] #[]] w fun e w'=>e=.returned (.bool (l.any fun s=> !vS s))∧Below w.heap.size w w':=by
 have HI:=aaQ (index_50 hv A n c l w hg h);clear h hv hg;go_enter Tryz.func20,Tryz.ntmps20;go_wp2_with fail
 refine HI.out.mono ?_;rintro e w' ⟨⟨r,rfl,hr,_,_⟩,hb⟩;have HR:=aaQ hr;have HB:=aaQ hb;clear hr hb;go_wp2;go_ret;rw [←HR.out];exact ⟨rfl,HB.out⟩
def flatA (l:List (Int×Int)):List Value:=l.flatMap fun p=>[.int .i64 p.1,.int .i64 p.2]
theorem flatA_snoc (l:List (Int×Int)) (p:Int×Int):flatA (l++[p])=flatA l++[.int .i64 p.1,.int .i64 p.2]:=by simp [flatA]
theorem DE {w w1:World} {x y:Value} {t:TypeId} {B b:Nat} (hb:Below B w w1) (hB:b<B) (h:w.heap[b]? =some (.cells #[x,y] t (0,0))):
  (w1.cell? ⟨b,0,none⟩=some x∧w1.cell? ⟨b,1,none⟩=some y)∧w1.frozen? ⟨b,0,none⟩=false∧w1.frozen? ⟨b,1,none⟩=false:=by
 have h1:w1.heap[b]? =some (.cells #[x,y] t (0,0)):=(hb.block b hB).trans h;refine ⟨⟨?_,?_⟩,?_,?_⟩
 ·rw [cell_of_row w1 b 0 _ _ _ h1];rfl
 ·rw [cell_of_row w1 b 1 _ _ _ h1];rfl
 ·simp [World.frozen?,h1]
 ·simp [World.frozen?,h1]
theorem arc_info:(Tryz.prog.info? 23).map (fun i=>(i.zero,i.size,i.bytes))=some (some (.agg #[.int .i64 0,.int .i64 0]),2,16):=by kernel_rfl
theorem dir_boxes (w:World) (a b c d:Int):let W:=(((w.alloc (.cells ⟨[.int .i64 a,.int .i64 b]⟩ 23)).alloc (.cells ⟨[.int .i64 c,.int .i64 d]⟩ 23)).alloc (.cells #[.int .i64 0,.int .i64 0] 23))
  W.heap[w.heap.size]? =some (.cells #[.int .i64 a,.int .i64 b] 23 (0,0))∧W.heap[w.heap.size+ 1]? =some (.cells #[.int .i64 c,.int .i64 d] 23 (0,0))∧W.heap[w.heap.size+2]? =some (.cells #[.int .i64 0,.int .i64 0] 23 (0,0))∧W.heap.size=w.heap.size+3∧Below w.heap.size w W:=by
 refine ⟨?_,?_,?_,by simp,((((acQ _ _).alloc (aaX _) _).alloc (by simp) _).alloc (by simp;omega) _)⟩
 ·rw [anX _ _ _ (by simp;omega),anX _ _ _ (by simp),heap_alloc_new]
 ·rw [anX _ _ _ (by simp)];have:=heap_alloc_new (w.alloc (.cells ⟨[.int .i64 a,.int .i64 b]⟩ 23)) (.cells ⟨[.int .i64 c,.int .i64 d]⟩ 23);simpa using this
 ·have:=heap_alloc_new ((w.alloc (.cells ⟨[.int .i64 a,.int .i64 b]⟩ 23)).alloc (.cells ⟨[.int .i64 c,.int .i64 d]⟩ 23)) (.cells #[.int .i64 0,.int .i64 0] 23);simpa using this
theorem pM {w w':World} {B n e size:Nat} {v:Value} {xs:List Value} (h:w.ownsRow B e size v n xs) (hb:Below w.heap.size w w'):w'.ownsRow B e size v n xs:=
 h.kept (row:=none) ⟨hb.os,hb.tape,hb.output,hb.size,fun k hk _=>hb.block k hk⟩ (by cases v.ownBlock<;>simp)
theorem gJ {P:Program} {e:TypeId} {z:Option Value} {s b:Nat} (h:(P.info? e).map (fun i=>(i.zero,i.size,i.bytes))=some (z,s,b)):∃i,P.info? e=some i∧i.zero=z∧i.size=s∧i.bytes=b:=by
 cases hi:P.info? e with
 | none=>rw [hi] at h;cases h
 | some i=>
  rw [hi] at h;simp only [Option.map_some,Option.some.injEq,Prod.mk.injEq] at h;exact ⟨i,rfl,h.1,h.2.1,h.2.2⟩
theorem two_new (w:World) (o:Obj) (x y:Int):∀j u,[Value.int .i64 x,.int .i64 y][j]? =some u→((w.alloc o).alloc (.cells #[.int .i64 x,.int .i64 y] 23)).cell? ((⟨w.heap.size+1,0,none⟩:Addr).add j)=some u:=by
 have hb:((w.alloc o).alloc (.cells #[.int .i64 x,.int .i64 y] 23)).heap[w.heap.size+ 1]? =some (.cells #[.int .i64 x,.int .i64 y] 23):=by
  have:=heap_alloc_new (w.alloc o) (.cells #[.int .i64 x,.int .i64 y] 23);simpa using this
 exact World.news_of_block hb
theorem tE {w:World} {B:Nat} {e:TypeId} {size n:Nat} {v:Value} {xs:List Value} (h:w.ownsRow B e size v n xs):∃A c,v=.slice A n c:=by
 rcases h.2 with ⟨rfl,rfl⟩ | ⟨g,cap,cur,rfl,_⟩
 ·exact ⟨_,_,rfl⟩
 ·exact ⟨_,_,rfl⟩
structure DirRel (a b c d:Int) (w0 wr:World) (B:Nat) (v6 v7:Value) (i:Nat):Prop where
 le:i≤3
 turn:v7=.int .i64 (-21600000+21600000*(i:Int))
 own:wr.ownsRow B 23 2 v6 (rA a b c d i).length (flatA (rA a b c d i))
 below:Below B w0 wr
theorem JW (hm:∀a b c d,aH Tryz.prog 28 [aD a b,aD c d] (aL (dF a b c d))) (ht:∀a b,aH Tryz.prog 78 [aD a b] (aL (cD a b))) (hq:aH Tryz.prog 120 [] (aD 0 21600000))
  (heq:∀(a b c d:Int) (w:World),(Op.equalIn 10000 23 (.agg #[.int .i64 a,.int .i64 b]) (.agg #[.int .i64 c,.int .i64 d])).run Tryz.prog w=.ok (a==c&&b==d) w)
  (a b c d:Int) (hv:aF a b=true) (hv':aF c d=true) (hb:-500000000000≤c∧d≤500000000000) (w:World) (hg:gF w):Calls Tryz.prog 52 #[aD a b,aD c d] w (GP (aL (dD a b c d)) w):=by
 have HM:=aaQ hm;have HT:=aaQ ht;have HQ:=aaQ hq;have bd:=dG hv;have bd':=dG hv';have HV:=aaQ hv;have HV':=aaQ hv';have HG:=aaQ hg;clear hm ht hq hv hv' hg;have HW:=aaQ (dir_boxes w a b c d);have H0:=aaQ (at0 HQ.out (HG.out.below HW.out.2.2.2.2));unfold aD;go_enter Tryz.func52,Tryz.ntmps52;go_wp2_with fail
 refine H0.out.mono ?_;rintro e w1 ⟨rfl,hb1⟩;obtain ⟨k1,k2,k3,k4,k5⟩:=HW.out;generalize (((w.alloc (.cells ⟨[.int .i64 a,.int .i64 b]⟩ 23)).alloc (.cells ⟨[.int .i64 c,.int .i64 d]⟩ 23)).alloc (.cells #[.int .i64 0,.int .i64 0] 23))=W at*;rw [k4] at hb1;have hs1:=hb1.size;rw [k4] at hs1;obtain ⟨⟨p0,p1⟩,f0,f1⟩:=DE hb1 (b:=w.heap.size) (by omega) k1;obtain ⟨⟨q0,q1⟩,g0,g1⟩:=DE hb1 (b:=w.heap.size+1) (by omega) k2;obtain ⟨⟨r0,r1⟩,l0,l1⟩:=DE hb1 (b:=w.heap.size+2) (by omega) k3;have HB1:=aaQ hb1;have HK:=aaQ (And.intro k1 (And.intro k2 (And.intro k3 (And.intro k4 k5))));clear k1 k2 k3 k4 k5 hb1 HW H0;unfold aD;by_cases h1:a=0∧b=21600000
 ·have e1:(0==a&&21600000==b)=true:=by simp [h1]
  have HF:=aaQ (show ∀w',Below w.heap.size w w'→GP (aL (dD a b c d)) w (.returned (.tuple #[.agg #[.int .i64 c,.int .i64 d],.int .i64 0])) w' from fun w' hb=>⟨by unfold dD;rw [if_pos h1];rfl,hb⟩);have HB:=aaQ (HK.out.2.2.2.2.trans (HB1.out.mono (by omega)));clear h1;go_wp2;refine bodyPost_ret (v:=.tuple #[.agg #[.int .i64 c,.int .i64 d],.int .i64 0]) (by simp [results,Tryz.results52,go_sem,r0,r1]) rfl (HF.out _ ?_);exact (HB.out.setCell (by simp;omega) _).setCell (by simp;omega) _
 have e1:(0==a&&21600000==b)=false:=by
  rw [Bool.and_eq_false_iff,beq_eq_false_iff_ne,beq_eq_false_iff_ne];omega
 by_cases h2:c=0∧d=21600000
 ·have e2:(0==c&&21600000==d)=true:=by simp [h2]
  have HF:=aaQ (show ∀w',Below w.heap.size w w'→GP (aL (dD a b c d)) w (.returned (.tuple #[.agg #[.int .i64 a,.int .i64 b],.int .i64 0])) w' from fun w' hb=>⟨by unfold dD;rw [if_neg h1,if_pos h2];rfl,hb⟩);have HB:=aaQ (HK.out.2.2.2.2.trans (HB1.out.mono (by omega)));clear h1 h2;go_wp2;refine bodyPost_ret (v:=.tuple #[.agg #[.int .i64 a,.int .i64 b],.int .i64 0]) (by simp [results,Tryz.results52,go_sem,r0,r1]) rfl (HF.out _ ?_);exact (HB.out.setCell (by simp;omega) _).setCell (by simp;omega) _
 have e2:(0==c&&21600000==d)=false:=by
  rw [Bool.and_eq_false_iff,beq_eq_false_iff_ne,beq_eq_false_iff_ne];omega
 have HD:=aaQ (show dD a b c d=zL a b c d (rA a b c d 3) by unfold dD;rw [if_neg h1,if_neg h2]);have HST:=aaQ (show DirRel a b c d W w1 (w.heap.size+3) (.slice none 0 0) (.int .i64 (-21600000)) 0 from ⟨by omega,rfl,World.ownsRow_nil _ _ _ _,HB1.out⟩);clear h1 h2;go_wp2_with fail
 go_loopw [6,7] (fun v6 v7 wr=>∃i,DirRel a b c d W wr (w.heap.size+3) v6 v7 i) (fun _ v7 _=>(43200000-intOf v7).toNat)
 case atStart=>exact ⟨_,HST.out⟩
 case round=>
  clear HST p0 p1 f0 f1 q0 q1 g0 g1 r0 r1 l0 l1;obtain ⟨i,hi,rfl,hown,hbel⟩:=hrel;obtain ⟨k1,k2,k3,k4,k5⟩:=HK.out;have hsr:=hbel.size;rw [k4] at hsr;obtain ⟨⟨p0,p1⟩,f0,f1⟩:=DE hbel (b:=w.heap.size) (by omega) k1;obtain ⟨⟨q0,q1⟩,g0,g1⟩:=DE hbel (b:=w.heap.size+1) (by omega) k2;obtain ⟨⟨r0,r1⟩,l0,l1⟩:=DE hbel (b:=w.heap.size+2) (by omega) k3;have HB:=aaQ hbel;have HO:=aaQ hown;clear k1 k2 k3 k4 k5 hbel hown;by_cases hlt:i<3
  ·have HS:=aaQ (xG a b c d i hlt);have hk:-21600000+21600000*(i:Int)≤21600000:=by omega
   have hk0:-21600000≤-21600000+21600000*(i:Int):=by omega
   have HI:=aaQ (show -21600000+21600000*(i:Int)+21600000=-21600000+21600000*((i+1:Nat):Int) by omega);generalize -21600000+21600000*(i:Int)=k at*;have HC:=aaQ (at2 (HM.out a b (c+k) (d+k)) (HG.out.below (HK.out.2.2.2.2.trans (HB.out.mono (by omega)))));unfold aD at HC;go_wp2_with fail
   refine HC.out.mono ?_;rintro e w2 ⟨rfl,hb2⟩;have hs2:=hb2.size;have HB2:=aaQ (HB.out.trans (hb2.mono (by omega)));have HO2:=aaQ (pM HO.out hb2);have av:aF (c+k) (d+k)=true:=by unfold aF;simp;omega
   obtain ⟨⟨p0',p1'⟩,f0',f1'⟩:=DE HB2.out (b:=w.heap.size) (by omega) HK.out.1;clear p0 p1 f0 f1 q0 q1 g0 g1 r0 r1 l0 l1 hb2;by_cases hx:mx a (c+k)>mn b (d+k)
   ·have hr:dF a b (c+k) (d+k)=(0,0,23):=by unfold dF;rw [if_pos ⟨HV.out,av⟩,if_pos hx]
    have hp:DJ a b c d k=none:=by unfold DJ;rw [if_pos hx]
    rw [hr];rw [hp] at HS;have HO3:=aaQ (pM HO2.out ((acQ _ _).alloc (aaX _) (.cells #[.int .i64 0,.int .i64 0] 23)));have HB3:=aaQ (HB2.out.alloc (by omega) (.cells #[.int .i64 0,.int .i64 0] 23));have HST:=aaQ (show DirRel a b c d W (w2.alloc (.cells #[.int .i64 0,.int .i64 0] 23)) (w.heap.size+3) u6 (.int .i64 (k+21600000)) (i+1) from ⟨hlt,by rw [HI.out],by rw [HS.out];simpa using HO3.out,HB3.out⟩);clear hr hp hx;unfold aL aD;go_wp2;go_roundw
    case rel=>exact ⟨_,HST.out⟩
    case measure=>simp [intOf];omega
   ·have hr:dF a b (c+k) (d+k)=(mx a (c+k),mn b (d+k),0):=by unfold dF;rw [if_pos ⟨HV.out,av⟩,if_neg hx]
    have hp:DJ a b c d k=some (mx a (c+k),mn b (d+k)):=by unfold DJ;rw [if_neg hx]
    rw [hr];rw [hp] at HS;generalize mx a (c+k)=x at*;generalize mn b (d+k)=y at*;have HO3:=aaQ (pM HO2.out (((acQ _ _).alloc (aaX _) (.cells #[.int .i64 x,.int .i64 y] 23)).alloc (by simp) (.cells #[.int .i64 x,.int .i64 y] 23)));have HB3:=aaQ ((HB2.out.alloc (by omega) (.cells #[.int .i64 x,.int .i64 y] 23)).alloc (by simp;omega) (.cells #[.int .i64 x,.int .i64 y] 23));clear hr hp hx;obtain ⟨i0,hi,hz0,hz1,hz2⟩:=gJ arc_info;unfold aL aD;go_wp2_with (at_builtin;refine wpList_append_own _ rfl (.tmp 39) (.tmp 41) 122 rfl (w.heap.size+3) 23 i0 (.agg #[.int .i64 0,.int .i64 0]) 2 16 Tryz.underlying122 hi hz0 hz1 hz2 rfl (by decide) u6 (rA a b c d i).length _ rfl HO3.out ⟨w2.heap.size+1,0,none⟩ 1 1 [.int .i64 x,.int .i64 y] rfl rfl ?c1 ?c2 ?c3 ?c4 ?c5 ?_)
    case c1=>exact two_new w2 _ x y
    case c2=>intro u hu;simp at hu;rcases hu with rfl | rfl<;>rfl
    case c3=>have:=JV a b c d i;unfold maxLen;omega
    case c4=>have:=JV a b c d i;omega
    case c5=>simp;omega
    intro v' w4 hown4 hg _;rw [←flatA_snoc _ (x,y)] at hown4;have HB4:=aaQ (HB3.out.grown hg (by simp;omega) (fun q hq=>(HO3.out.lt q hq).1));have HST:=aaQ (show DirRel a b c d W w4 (w.heap.size+3) v' (.int .i64 (k+21600000)) (i+1) from ⟨hlt,by rw [HI.out],by rw [HS.out];simpa using hown4,HB4.out⟩);clear hg hown4;go_wp2;go_roundw
    case rel=>exact ⟨_,HST.out⟩
    case measure=>simp [intOf];omega
  ·have hi3:i=3:=by omega
   subst hi3;have bz:=HB.out;cases hL:rA a b c d 3 with
   | nil=>
    rw [hL] at HO;obtain ⟨A,cp,rfl⟩:=tE HO.out;have HF:=aaQ (show ∀w',Below w.heap.size w w'→GP (aL (dD a b c d)) w (.returned (.tuple #[.agg #[.int .i64 0,.int .i64 0],.int .i64 23])) w' from fun w' hb=>⟨by rw [HD.out,hL];rfl,hb⟩);have HBB:=aaQ (HK.out.2.2.2.2.trans (HB.out.mono (by omega)));clear hL bz;go_wp2;refine bodyPost_ret (v:=.tuple #[.agg #[.int .i64 0,.int .i64 0],.int .i64 23]) (by simp [results,Tryz.results52,go_sem,r0,r1]) rfl (HF.out _ ?_);exact (HBB.out.setCell (by simp;omega) _).setCell (by simp;omega) _
   | cons p L=>
    cases L with
    | nil=>
     rw [hL] at HO;obtain ⟨g,cp,rfl,hg1,hg2⟩:=HO.out.form (by simp);have cg:=HO.out.cells (g:=g) rfl;have x0:=cg 0 (.int .i64 p.1) rfl;have x1:=cg 1 (.int .i64 p.2) rfl;have HD':=aaQ (show dD a b c d=cD p.1 p.2 by rw [HD.out,hL];rfl);have HBB:=aaQ (HK.out.2.2.2.2.trans (HB.out.mono (by omega)));obtain ⟨x,y⟩:=p;have HC:=aaQ (at1 (HT.out x y) (HG.out.below HBB.out));simp only [Addr.add] at x0 x1;simp at x0 x1;unfold aD at HC;clear hL bz cg;go_wp2_with fail
     refine HC.out.mono ?_;rintro e w2 ⟨rfl,hb2⟩;have HB2:=aaQ (HB.out.trans (hb2.mono (by omega)));have hs2:=hb2.size;obtain ⟨⟨r0,r1⟩,l0,l1⟩:=DE HB2.out (b:=w.heap.size+2) (by omega) HK.out.2.2.1;have HBB:=aaQ (HK.out.2.2.2.2.trans (HB2.out.mono (by omega)));have HF:=aaQ (show ∀w',Below w.heap.size w w'→GP (aL (dD a b c d)) w (.returned (.tuple #[.agg #[.int .i64 (cD x y).1,.int .i64 (cD x y).2.1],.int .i64 (cD x y).2.2])) w' from fun w' hb=>⟨by rw [HD'.out];rfl,hb⟩);clear hb2 HC;unfold aL aD;go_wp2;refine bodyPost_ret (v:=.tuple #[.agg #[.int .i64 (cD x y).1,.int .i64 (cD x y).2.1],.int .i64 (cD x y).2.2]) (by simp [results,Tryz.results52,go_sem,r0,r1]) rfl (HF.out _ ?_);exact (HBB.out.setCell (by simp;omega) _).setCell (by simp;omega) _
    | cons q L=>
     rw [hL] at HO;obtain ⟨A,cp,rfl⟩:=tE HO.out;have hN:2≤(p::q::L).length:=by simp
     have hN3:(p::q::L).length≤3:=by rw [←hL];exact JV a b c d 3
     have HD':=aaQ (show dD a b c d=if d-c<b-a then (c,d,0) else (a,b,0) by rw [HD.out,hL];rfl);have HBB:=aaQ (HK.out.2.2.2.2.trans (HB.out.mono (by omega)));clear HO hL bz;generalize (p::q::L).length=N at*;have e3:((N:Int)==0)=false:=beq_eq_false_iff_ne.2 (by omega);have e4:((N:Int)==1)=false:=beq_eq_false_iff_ne.2 (by omega);have e5:IntKind.i64.wrap (d-c)=d-c:=IntWalk.i64_in _ (by omega);have e6:IntKind.i64.wrap (b-a)=b-a:=IntWalk.i64_in _ (by omega);by_cases hw:d-c<b-a
     ·rw [if_pos hw] at HD';have HF:=aaQ (show ∀w',Below w.heap.size w w'→GP (aL (dD a b c d)) w (.returned (.tuple #[.agg #[.int .i64 c,.int .i64 d],.int .i64 0])) w' from fun w' hb=>⟨by rw [HD'.out];rfl,hb⟩);go_wp2;refine bodyPost_ret (v:=.tuple #[.agg #[.int .i64 c,.int .i64 d],.int .i64 0]) (by simp [results,Tryz.results52,go_sem,r0,r1]) rfl (HF.out _ ?_);exact (HBB.out.setCell (by simp;omega) _).setCell (by simp;omega) _
     ·rw [if_neg hw] at HD';have HF:=aaQ (show ∀w',Below w.heap.size w w'→GP (aL (dD a b c d)) w (.returned (.tuple #[.agg #[.int .i64 a,.int .i64 b],.int .i64 0])) w' from fun w' hb=>⟨by rw [HD'.out];rfl,hb⟩);go_wp2;refine bodyPost_ret (v:=.tuple #[.agg #[.int .i64 a,.int .i64 b],.int .i64 0]) (by simp [results,Tryz.results52,go_sem,r0,r1]) rfl (HF.out _ ?_);exact (HBB.out.setCell (by simp;omega) _).setCell (by simp;omega) _
def Bk (w:World) (b:Nat) (s:gR):Prop:=w.heap[b]? =some (.cells #[.int .i64 s.1,.int .i64 s.2.1,.int .i64 s.2.2.1,.int .i64 s.2.2.2] 28 (0,0))
theorem Bk.lt {w:World} {b:Nat} {s:gR} (h:Bk w b s):b<w.heap.size:=(Array.getElem?_eq_some_iff.1 h).1
theorem Bk.below {w w':World} {b B:Nat} {s:gR} (h:Bk w b s) (hb:Below B w w') (hB:b<B):Bk w' b s:=(hb.block b hB).trans h
theorem Bk.next {w w':World} {b:Nat} {s:gR} (h:Bk w b s) (hb:Below w.heap.size w w'):Bk w' b s:=h.below hb h.lt
theorem Bk.new (w:World) (s:gR):Bk (w.alloc (.cells #[.int .i64 s.1,.int .i64 s.2.1,.int .i64 s.2.2.1,.int .i64 s.2.2.2] 28)) w.heap.size s:=heap_alloc_new w _
theorem Bk.write {w:World} {b:Nat} {s:gR} (h:Bk w b s) (v:gR):
  Bk ((((w.setCell ⟨b,0,none⟩ (.int .i64 v.1)).setCell ⟨b,1,none⟩ (.int .i64 v.2.1)).setCell ⟨b,2,none⟩ (.int .i64 v.2.2.1)).setCell ⟨b,3,none⟩ (.int .i64 v.2.2.2)) b v:=by
 unfold Bk at*;simp [axJ,h,Array.getElem?_modify]
theorem Bk.other {w:World} {b b':Nat} {s:gR} (h:Bk w b s) (hb:b≠b') (v0 v1 v2 v3:Value):
  Bk ((((w.setCell ⟨b',0,none⟩ v0).setCell ⟨b',1,none⟩ v1).setCell ⟨b',2,none⟩ v2).setCell ⟨b',3,none⟩ v3) b s:=by
 unfold Bk at*;have hb':b'≠b:=fun e=>hb e.symm;simp [axJ,h,Array.getElem?_modify,hb']
theorem Bk.keep {w:World} {b:Nat} {s:gR} (h:Bk w b s):
  (w.cell? ⟨b,0,none⟩=some (.int .i64 s.1)∧w.cell? ⟨b,1,none⟩=some (.int .i64 s.2.1)∧w.cell? ⟨b,2,none⟩=some (.int .i64 s.2.2.1)∧w.cell? ⟨b,3,none⟩=some (.int .i64 s.2.2.2))∧
  w.frozen? ⟨b,0,none⟩=false∧w.frozen? ⟨b,1,none⟩=false∧w.frozen? ⟨b,2,none⟩=false∧w.frozen? ⟨b,3,none⟩=false:=by
 unfold Bk at h;refine ⟨⟨?_,?_,?_,?_⟩,?_,?_,?_,?_⟩<;>simp [World.cell?,World.frozen?,h]
theorem Below.set4 {B:Nat} {a w:World} (h:Below B a w) {b:Nat} (hb:B≤b) (v0 v1 v2 v3:Value):Below B a ((((w.setCell ⟨b,0,none⟩ v0).setCell ⟨b,1,none⟩ v1).setCell ⟨b,2,none⟩ v2).setCell ⟨b,3,none⟩ v3):=
 (((h.setCell (by simpa using hb) _).setCell (by simpa using hb) _).setCell (by simpa using hb) _).setCell (by simpa using hb) _
theorem meet_early (A:Option Addr) (n c:Nat) (l:List gR) (w:World) (h:Sols w A n l) (hn:n=0∨1000<n):
  Calls Tryz.prog 19 #[.slice A n c] w (GP (dV (iL l)) w):=by
 have HL:=aaQ h.len;have hle:=h.le;have HBB:=aaQ ((acQ w.heap.size w).alloc (aaX _) (.cells #[.int .i64 0,.int .i64 0,.int .i64 0,.int .i64 0] 28));have HK:=(Bk.new w (0,0,0,0)).keep;dsimp only at HK;obtain ⟨⟨r0,r1,r2,r3⟩,l0,l1,l2,l3⟩:=HK;clear h;rcases hn with hn | hn
 ·subst hn;have HF:=aaQ (show ∀w',Below w.heap.size w w'→GP (dV (iL l)) w (.returned (.tuple #[.agg #[.int .i64 0,.int .i64 0,.int .i64 0,.int .i64 0],.int .i64 14])) w' from fun w' hb=>⟨by
   have:l=[]:=List.eq_nil_of_length_eq_zero HL.out;rw [this];rfl,hb⟩)
  go_enter Tryz.func19,Tryz.ntmps19;go_wp2;refine bodyPost_ret (v:=.tuple #[.agg #[.int .i64 0,.int .i64 0,.int .i64 0,.int .i64 0],.int .i64 14]) (by simp [results,Tryz.results19,go_sem]) rfl (HF.out _ ?_);exact HBB.out
 ·have e1:((n:Int)==0)=false:=beq_eq_false_iff_ne.2 (by omega);have e2:(1000:Int)<(n:Int):=by omega
  have HF:=aaQ (show ∀w',Below w.heap.size w w'→GP (dV (iL l)) w (.returned (.tuple #[.agg #[.int .i64 0,.int .i64 0,.int .i64 0,.int .i64 0],.int .i64 4])) w' from fun w' hb=>⟨by
   have:=HL.out;cases l with
   | nil=>simp at this;omega
   | cons s r=>rw [meetR_many (by omega)];rfl,hb⟩)
  go_enter Tryz.func19,Tryz.ntmps19;go_wp2;refine bodyPost_ret (v:=.tuple #[.agg #[.int .i64 0,.int .i64 0,.int .i64 0,.int .i64 0],.int .i64 4]) (by simp [results,Tryz.results19,go_sem]) rfl (HF.out _ ?_);exact HBB.out
theorem Sols.tail {w:World} {A:Option Addr} {n c:Nat} {l:List gR} (h:Sols w A n l) (hn:0<n) (hc:n≤c):Sols w (if c=1 then A else A.map (·.add 4)) (n-1) (l.drop 1):=by
 refine ⟨by rw [List.length_drop,h.len],by have:=h.le;omega,fun h1=>?_⟩;obtain ⟨b,off,rfl,hb,hcell⟩:=h.cells hn;rw [if_neg (by omega)];refine ⟨b,off+4,by simp [Addr.add],hb,fun i hi=>?_⟩;have:=hcell (i+1) (by omega);rw [show (l.drop 1).getD i qO=l.getD (i+1) qO by rw [List.getD_eq_getElem?_getD,List.getD_eq_getElem?_getD,List.getElem?_drop,Nat.add_comm]];rw [show off+4+i*4=off+(i+1)*4 by omega];exact this
structure MeetRel (l:List gR) (w wr:World) (Bo:Nat) (v:Value) (o:gR) (k:Nat):Prop where
 le:k+1≤l.length
 num:v=.int .i64 (k:Int)
 out:Bk wr Bo o
 res:Bk wr w.heap.size qO
 val:aF o.2.2.1 o.2.2.2=true
 eq:qB (l.getD 0 qO) (l.drop 1)=qB o (l.drop (k+1))
 below:Below w.heap.size w wr
theorem meet_main (hm:∀a b c d,aH Tryz.prog 28 [aD a b,aD c d] (aL (dF a b c d))) (hf:∀a b c d:Int,aH Tryz.prog 50 [.agg #[.int .i64 a,.int .i64 b,.int .i64 c,.int .i64 d]] (.bool (!gB (a,b,c,d))))
  (hd:∀a b c d,aF a b=true→aF c d=true→(-500000000000≤c∧d≤500000000000)→aH Tryz.prog 52 [aD a b,aD c d] (aL (dD a b c d)))
  (htv:∀a b,aF a b=true→(cD a b).2.2=0→aF (cD a b).1 (cD a b).2.1=true)
  (A:Option Addr) (n c:Nat) (l:List gR) (w:World) (hg:gF w) (h:Sols w A n l) (hc:n≤c) (_hc':c≤9223372036854775807) (h0:0<n) (h1:¬1000<n) (hc1:c≠1):
  Calls Tryz.prog 19 #[.slice A n c] w (GP (dV (iL l)) w):=by
 have HL:=aaQ h.len;have HS:=aaQ h;have HM:=aaQ hm;have HD:=aaQ hd;have HTV:=aaQ htv;have HB0:=aaQ ((acQ w.heap.size w).alloc (aaX _) (.cells #[.int .i64 0,.int .i64 0,.int .i64 0,.int .i64 0] 28));have HK0:=aaQ (Bk.new w qO);have HG:=aaQ hg;have HC:=aaQ (EZ hf A n c l _ (hg.below HB0.out) (h.below HB0.out (aaX _)));have e1:((n:Int)==0)=false:=beq_eq_false_iff_ne.2 (by omega);have e2:¬(1000:Int)<(n:Int):=by omega
 clear h hm hd htv hf hg;go_enter Tryz.func19,Tryz.ntmps19;go_wp2_with fail
 refine HC.out.mono ?_;rintro e w1 ⟨rfl,hb1⟩;have HB1:=aaQ (HB0.out.trans (hb1.mono (by simp)));have HK1:=aaQ (HK0.out.next hb1);have hs1:=hb1.size;simp at hs1;clear hb1;cases hA:l.any (fun s=> !gB s) with
 | true=>
  have HF:=aaQ (show ∀w',Below w.heap.size w w'→GP (dV (iL l)) w (.returned (.tuple #[.agg #[.int .i64 0,.int .i64 0,.int .i64 0,.int .i64 0],.int .i64 1])) w' from fun w' hb=>⟨by
   have:=HL.out;cases l with
   | nil=>simp at this;omega
   | cons s r=>rw [PL (by omega) hA];rfl,hb⟩)
  obtain ⟨⟨r0,r1,r2,r3⟩,l0,l1,l2,l3⟩:=HK1.out.keep;clear hA;go_wp2;refine bodyPost_ret (v:=.tuple #[.agg #[.int .i64 0,.int .i64 0,.int .i64 0,.int .i64 0],.int .i64 1]) (by simp [results,Tryz.results19,go_sem,r0,r1,r2,r3]) rfl (HF.out _ ?_);exact Below.set4 HB1.out (aaX _) _ _ _ _
 | false=>
  have HV:=aaQ (show ∀s∈l,gB s=true from fun s hs=>by
   rw [List.any_eq_false] at hA;have:=hA s hs;simpa using this)
  have HR:=aaQ (show iL l=match qB (l.getD 0 qO) (l.drop 1) with
   | none=>(0,0,0,0,23)
   | some x=>(x.1,x.2.1,x.2.2.1,x.2.2.2,0) by
   have:=HL.out;cases l with
   | nil=>simp at this;omega
   | cons s r=>rw [BS (by omega) hA];rfl)
  obtain ⟨b,off,a1,a2,a3,a4,rfl,hb,hy,d0,d1,d2,d3⟩:=HS.out.at_ h0 HB1.out;have HY:=aaQ hy;have HT:=aaQ (HS.out.tail h0 hc);clear hA hy;simp only [ayX,atX] at d0 d1 d2 d3;have HO1:=aaQ (show Bk (w1.alloc (.cells #[.int .i64 a1,.int .i64 a2,.int .i64 a3,.int .i64 a4] 28)) w1.heap.size (a1,a2,a3,a4) from Bk.new w1 (a1,a2,a3,a4));have HK2:=aaQ (HK1.out.next ((acQ _ _).alloc (aaX _) (.cells #[.int .i64 a1,.int .i64 a2,.int .i64 a3,.int .i64 a4] 28)));have HB2:=aaQ (HB1.out.alloc (by omega) (.cells #[.int .i64 a1,.int .i64 a2,.int .i64 a3,.int .i64 a4] 28));have hv0:=(jL (HV.out _ (BK (l:=l) (k:=0) (by rw [HL.out];exact h0)))).2.1;rw [HY.out] at hv0;have HST:=aaQ (show MeetRel l w (w1.alloc (.cells #[.int .i64 a1,.int .i64 a2,.int .i64 a3,.int .i64 a4] 28)) w1.heap.size (.int .i64 0) (a1,a2,a3,a4) 0 from ⟨by rw [HL.out];omega,rfl,HO1.out,HK2.out,hv0,by rw [HY.out],HB2.out⟩);go_wp2_with fail
  obtain ⟨m,hm⟩:∃m,n-1=m:=⟨_,rfl⟩;rw [hm];clear hv0 HO1 HK2 HB2;go_loopw [31] (fun v wr=>∃k o,MeetRel l w wr w1.heap.size v o k) (fun v _=>m-(intOf v).toNat)
  case atStart=>exact ⟨_,_,HST.out⟩
  case round=>
   clear HST d0 d1 d2 d3;obtain ⟨k,o,hk,rfl,hout,hres,hval,heq,hbel⟩:=hrel;rw [HL.out] at hk;have HB:=aaQ hbel;have HRS:=aaQ hres;have HOU:=aaQ hout;have HVL:=aaQ hval;have HE:=aaQ heq;have hsr:=hbel.size;have hol:=hout.lt;clear hres hout hval heq;by_cases hlt:k<m
   ·obtain ⟨b',off',x1,x2,x3,x4,hbo,hb',hy',d0,d1,d2,d3⟩:=HS.out.at_ (k:=k+1) (by omega) hbel;injection hbo with hbo;injection hbo with hbo1 hbo2;subst hbo1 hbo2;rw [show off+(k+1)*4=off+4+k*4 by omega] at d0 d1 d2 d3;have HY':=aaQ hy';have hvx:=HV.out _ (BK (l:=l) (k:=k+1) (by rw [HL.out];omega));rw [hy'] at hvx;have HVX:=aaQ hvx;obtain ⟨o1,o2,o3,o4⟩:=o;have HX1:=aaQ (show Bk (wr.alloc (.cells #[.int .i64 x1,.int .i64 x2,.int .i64 x3,.int .i64 x4] 28)) wr.heap.size (x1,x2,x3,x4) from Bk.new wr (x1,x2,x3,x4));have HA1:=aaQ ((acQ wr.heap.size wr).alloc (aaX _) (.cells #[.int .i64 x1,.int .i64 x2,.int .i64 x3,.int .i64 x4] 28));have HC1:=aaQ (at2 (HM.out o1 o2 x1 x2) (HG.out.below (HB.out.trans (HA1.out.mono hsr))));obtain ⟨⟨p0,p1,p2,p3⟩,f0,f1,f2,f3⟩:=HOU.out.keep;clear hbel hy' hvx;unfold aD at HC1;go_wp2_with fail
    refine HC1.out.mono ?_;rintro e w2 ⟨rfl,hb2⟩;obtain ⟨h1',h2',he',hh⟩:∃h1 h2 he,dF o1 o2 x1 x2=(h1,h2,he):=⟨_,_,_,rfl⟩;have HH:=aaQ hh;rw [hh];have HA3:=aaQ ((HA1.out.trans (hb2.mono (by simp))).alloc (alQ (by simp) hb2.size) (.cells #[.int .i64 h1',.int .i64 h2'] 23));have hs3:=HA3.out.size;have hs2:=hb2.size;simp at hs2 hs3;have HX3:=aaQ ((HX1.out.next hb2).next ((acQ _ _).alloc (aaX _) (.cells #[.int .i64 h1',.int .i64 h2'] 23)));have hAr:(w2.alloc (.cells #[.int .i64 h1',.int .i64 h2'] 23)).heap[w2.heap.size]? =some (.cells #[.int .i64 h1',.int .i64 h2'] 23 (0,0)):=heap_alloc_new w2 _;have HAr:=aaQ hAr;have HC3:=aaQ (at2 (HD.out o3 o4 x3 x4 HVL.out (jL HVX.out).2.1 (by have:=jL HVX.out;dsimp only at this;omega)) (HG.out.below (HB.out.trans (HA3.out.mono hsr))));obtain ⟨⟨p0,p1,p2,p3⟩,f0,f1,f2,f3⟩:=(HOU.out.next HA3.out).keep;obtain ⟨⟨q0,q1,q2,q3⟩,g0,g1,g2,g3⟩:=HX3.out.keep;clear hb2 hh hAr HC1;unfold aD at HC3;unfold aL aD;go_wp2_with fail
    refine HC3.out.mono ?_;rintro e w4 ⟨rfl,hb4⟩;obtain ⟨z1,z2,ze,hz⟩:∃z1 z2 ze,dD o3 o4 x3 x4=(z1,z2,ze):=⟨_,_,_,rfl⟩;have HZ:=aaQ hz;rw [hz];have hs4:=hb4.size;simp at hs4;have HA5:=aaQ ((HA3.out.trans (hb4.mono (by simp;omega))).alloc (by omega) (.cells #[.int .i64 z1,.int .i64 z2] 23));have HAZ:=aaQ (show (w4.alloc (.cells #[.int .i64 z1,.int .i64 z2] 23)).heap[w4.heap.size]? =some (.cells #[.int .i64 z1,.int .i64 z2] 23 (0,0)) from heap_alloc_new w4 _);have HAR5:=aaQ (show (w4.alloc (.cells #[.int .i64 z1,.int .i64 z2] 23)).heap[w2.heap.size]? =some (.cells #[.int .i64 h1',.int .i64 h2'] 23 (0,0)) from ((hb4.alloc (by simp;omega) (.cells #[.int .i64 z1,.int .i64 z2] 23)).block _ (by simp)).trans HAr.out);have HOU5:=aaQ (HOU.out.next HA5.out);have HRS5:=aaQ (HRS.out.next HA5.out);have HB5:=aaQ (HB.out.trans (HA5.out.mono (by omega)));clear hb4 hz HC3 p0 p1 p2 p3 f0 f1 f2 f3 q0 q1 q2 q3 g0 g1 g2 g3 d0 d1 d2 d3;obtain ⟨⟨p0,p1⟩,f0,f1⟩:=DE (acQ (w4.heap.size+1) _) (b:=w4.heap.size) (by omega) HAZ.out;obtain ⟨⟨q0,q1⟩,g0,g1⟩:=DE (acQ (w4.heap.size+1) _) (b:=w2.heap.size) (by omega) HAR5.out;have HDR:=aaQ (show l.drop (k+1)=(x1,x2,x3,x4)::l.drop (k+2) by
     rw [List.drop_eq_getElem_cons (by rw [HL.out];omega)];congr 1;have:=HY'.out;rw [List.getD_eq_getElem?_getD,List.getElem?_eq_getElem (by rw [HL.out];omega)] at this;exact this)
    by_cases hok:he'=0∧ze=0
    ·obtain ⟨rfl,rfl⟩:=hok;have hmo:qC (o1,o2,o3,o4) (x1,x2,x3,x4)=some (h1',h2',z1,z2):=by
      unfold qC;dsimp only;rw [HH.out,HZ.out];rfl
     have HST:=aaQ (show ∀wf,Bk wf w1.heap.size (h1',h2',z1,z2)→Bk wf w.heap.size qO→Below w.heap.size w wf→MeetRel l w wf w1.heap.size (.int .i64 ((k:Int)+1)) (h1',h2',z1,z2) (k+1) from fun wf i1 i2 i3=>⟨by rw [HL.out];omega,rfl,i1,i2,ZC HTV.out HVL.out HVX.out hmo,by rw [HE.out,HDR.out];simp only [qB];rw [hmo],i3⟩);obtain ⟨⟨r0,r1,r2,r3⟩,l0,l1,l2,l3⟩:=HOU5.out.keep;have HF1:=aaQ (HOU5.out.write (h1',h2',z1,z2));have HF2:=aaQ (HRS5.out.other (b':=w1.heap.size) (by omega) (.int .i64 h1') (.int .i64 h2') (.int .i64 z1) (.int .i64 z2));have HF3:=aaQ (Below.set4 HB5.out (b:=w1.heap.size) (by omega) (.int .i64 h1') (.int .i64 h2') (.int .i64 z1) (.int .i64 z2));clear hmo;unfold aL aD;go_wp2;go_roundw
     case rel=>exact ⟨_,_,HST.out _ HF1.out HF2.out HF3.out⟩
     case measure=>simp [intOf];omega
    ·have hmo:qC (o1,o2,o3,o4) (x1,x2,x3,x4)=none:=by
      unfold qC;dsimp only;rw [HH.out,HZ.out];exact if_neg hok
     have HF:=aaQ (show ∀w',Below w.heap.size w w'→GP (dV (iL l)) w (.returned (.tuple #[.agg #[.int .i64 0,.int .i64 0,.int .i64 0,.int .i64 0],.int .i64 23])) w' from fun w' hb=>⟨by
      rw [HR.out,HE.out,HDR.out];simp only [qB];rw [hmo];rfl,hb⟩)
     obtain ⟨⟨r0,r1,r2,r3⟩,l0,l1,l2,l3⟩:=HRS5.out.keep;have hbn:(he' != 0||ze != 0)=true:=by
      by_cases e:he'=0
      ·have:ze≠0:=fun e2=>hok ⟨e,e2⟩;simp [e,this]
      ·simp [e]
     clear hmo;unfold aL aD;by_cases e:he'=0
     ·have hz0:(ze != 0)=true:=by simpa [e] using hbn
      subst e;clear hbn hok;go_wp2;refine bodyPost_ret (v:=.tuple #[.agg #[.int .i64 0,.int .i64 0,.int .i64 0,.int .i64 0],.int .i64 23]) (by simp [results,Tryz.results19,go_sem,r0,r1,r2,r3]) rfl (HF.out _ ?_);exact Below.set4 HB5.out (aaX _) _ _ _ _
     ·have hz0:(he' != 0)=true:=by simpa using e
      clear hbn hok;go_wp2;refine bodyPost_ret (v:=.tuple #[.agg #[.int .i64 0,.int .i64 0,.int .i64 0,.int .i64 0],.int .i64 23]) (by simp [results,Tryz.results19,go_sem,r0,r1,r2,r3]) rfl (HF.out _ ?_);exact Below.set4 HB5.out (aaX _) _ _ _ _
   ·have hkm:k=m:=by omega
    subst hkm;have HDR:=aaQ (show l.drop (k+1)=[] from List.drop_eq_nil_of_le (by rw [HL.out];omega));obtain ⟨o1,o2,o3,o4⟩:=o;have HF:=aaQ (show ∀w',Below w.heap.size w w'→GP (dV (iL l)) w (.returned (.tuple #[.agg #[.int .i64 o1,.int .i64 o2,.int .i64 o3,.int .i64 o4],.int .i64 0])) w' from fun w' hb=>⟨by
     rw [HR.out,HE.out,HDR.out];rfl,hb⟩)
    obtain ⟨⟨p0,p1,p2,p3⟩,f0,f1,f2,f3⟩:=HOU.out.keep;obtain ⟨⟨r0,r1,r2,r3⟩,l0,l1,l2,l3⟩:=HRS.out.keep;dsimp only at p0 p1 p2 p3;go_wp2;refine bodyPost_ret (v:=.tuple #[.agg #[.int .i64 o1,.int .i64 o2,.int .i64 o3,.int .i64 o4],.int .i64 0]) (by simp [results,Tryz.results19,go_sem,r0,r1,r2,r3]) rfl (HF.out _ ?_);exact Below.set4 HB.out (aaX _) _ _ _ _
theorem meet_one (hm:∀a b c d,aH Tryz.prog 28 [aD a b,aD c d] (aL (dF a b c d))) (hf:∀a b c d:Int,aH Tryz.prog 50 [.agg #[.int .i64 a,.int .i64 b,.int .i64 c,.int .i64 d]] (.bool (!gB (a,b,c,d))))
  (hd:∀a b c d,aF a b=true→aF c d=true→(-500000000000≤c∧d≤500000000000)→aH Tryz.prog 52 [aD a b,aD c d] (aL (dD a b c d)))
  (htv:∀a b,aF a b=true→(cD a b).2.2=0→aF (cD a b).1 (cD a b).2.1=true)
  (A:Option Addr) (l:List gR) (w:World) (hg:gF w) (h:Sols w A 1 l):
  Calls Tryz.prog 19 #[.slice A 1 1] w (GP (dV (iL l)) w):=by
 have HL:=aaQ h.len;have HS:=aaQ h;have HM:=aaQ hm;have HD:=aaQ hd;have HTV:=aaQ htv;have HB0:=aaQ ((acQ w.heap.size w).alloc (aaX _) (.cells #[.int .i64 0,.int .i64 0,.int .i64 0,.int .i64 0] 28));have HK0:=aaQ (Bk.new w qO);have HG:=aaQ hg;have HC:=aaQ (EZ hf A 1 1 l _ (hg.below HB0.out) (h.below HB0.out (aaX _)));have h0:0<1:=by omega
 have hc:1≤1:=by omega
 clear h hm hd htv hf hg;go_enter Tryz.func19,Tryz.ntmps19;go_wp2_with fail
 refine HC.out.mono ?_;rintro e w1 ⟨rfl,hb1⟩;have HB1:=aaQ (HB0.out.trans (hb1.mono (by simp)));have HK1:=aaQ (HK0.out.next hb1);have hs1:=hb1.size;simp at hs1;clear hb1;cases hA:l.any (fun s=> !gB s) with
 | true=>
  have HF:=aaQ (show ∀w',Below w.heap.size w w'→GP (dV (iL l)) w (.returned (.tuple #[.agg #[.int .i64 0,.int .i64 0,.int .i64 0,.int .i64 0],.int .i64 1])) w' from fun w' hb=>⟨by
   have:=HL.out;cases l with
   | nil=>simp at this
   | cons s r=>rw [PL (by omega) hA];rfl,hb⟩)
  obtain ⟨⟨r0,r1,r2,r3⟩,l0,l1,l2,l3⟩:=HK1.out.keep;clear hA;go_wp2;refine bodyPost_ret (v:=.tuple #[.agg #[.int .i64 0,.int .i64 0,.int .i64 0,.int .i64 0],.int .i64 1]) (by simp [results,Tryz.results19,go_sem,r0,r1,r2,r3]) rfl (HF.out _ ?_);exact Below.set4 HB1.out (aaX _) _ _ _ _
 | false=>
  have HV:=aaQ (show ∀s∈l,gB s=true from fun s hs=>by
   rw [List.any_eq_false] at hA;have:=hA s hs;simpa using this)
  have HR:=aaQ (show iL l=match qB (l.getD 0 qO) (l.drop 1) with
   | none=>(0,0,0,0,23)
   | some x=>(x.1,x.2.1,x.2.2.1,x.2.2.2,0) by
   have:=HL.out;cases l with
   | nil=>simp at this
   | cons s r=>rw [BS (by omega) hA];rfl)
  obtain ⟨b,off,a1,a2,a3,a4,rfl,hb,hy,d0,d1,d2,d3⟩:=HS.out.at_ h0 HB1.out;have HY:=aaQ hy;have HT:=aaQ (HS.out.tail h0 hc);clear hA hy;simp only [ayX,atX] at d0 d1 d2 d3;have HO1:=aaQ (show Bk (w1.alloc (.cells #[.int .i64 a1,.int .i64 a2,.int .i64 a3,.int .i64 a4] 28)) w1.heap.size (a1,a2,a3,a4) from Bk.new w1 (a1,a2,a3,a4));have HK2:=aaQ (HK1.out.next ((acQ _ _).alloc (aaX _) (.cells #[.int .i64 a1,.int .i64 a2,.int .i64 a3,.int .i64 a4] 28)));have HB2:=aaQ (HB1.out.alloc (by omega) (.cells #[.int .i64 a1,.int .i64 a2,.int .i64 a3,.int .i64 a4] 28));have hv0:=(jL (HV.out _ (BK (l:=l) (k:=0) (by rw [HL.out];exact h0)))).2.1;rw [HY.out] at hv0;have HST:=aaQ (show MeetRel l w (w1.alloc (.cells #[.int .i64 a1,.int .i64 a2,.int .i64 a3,.int .i64 a4] 28)) w1.heap.size (.int .i64 0) (a1,a2,a3,a4) 0 from ⟨by rw [HL.out];omega,rfl,HO1.out,HK2.out,hv0,by rw [HY.out],HB2.out⟩);go_wp2_with fail
  clear hv0 HO1 HK2 HB2;go_loopw [31] (fun v wr=>∃o,MeetRel l w wr w1.heap.size v o 0) (fun _ _=>0)
  case atStart=>exact ⟨_,HST.out⟩
  case round=>
   clear HST d0 d1 d2 d3;obtain ⟨o,hk,rfl,hout,hres,hval,heq,hbel⟩:=hrel;have HB:=aaQ hbel;have HRS:=aaQ hres;have HOU:=aaQ hout;have HVL:=aaQ hval;have HE:=aaQ heq;have hsr:=hbel.size;have hol:=hout.lt;clear hres hout hval heq;have HDR:=aaQ (show l.drop (0+1)=[] from List.drop_eq_nil_of_le (by rw [HL.out];omega));obtain ⟨o1,o2,o3,o4⟩:=o;have HF:=aaQ (show ∀w',Below w.heap.size w w'→GP (dV (iL l)) w (.returned (.tuple #[.agg #[.int .i64 o1,.int .i64 o2,.int .i64 o3,.int .i64 o4],.int .i64 0])) w' from fun w' hb=>⟨by
    rw [HR.out,HE.out,HDR.out];rfl,hb⟩)
   obtain ⟨⟨p0,p1,p2,p3⟩,f0,f1,f2,f3⟩:=HOU.out.keep;obtain ⟨⟨r0,r1,r2,r3⟩,l0,l1,l2,l3⟩:=HRS.out.keep;dsimp only at p0 p1 p2 p3;go_wp2;refine bodyPost_ret (v:=.tuple #[.agg #[.int .i64 o1,.int .i64 o2,.int .i64 o3,.int .i64 o4],.int .i64 0]) (by simp [results,Tryz.results19,go_sem,r0,r1,r2,r3]) rfl (HF.out _ ?_);exact Below.set4 HB.out (aaX _) _ _ _ _
theorem meet_any (hm:∀a b c d,aH Tryz.prog 28 [aD a b,aD c d] (aL (dF a b c d))) (hf:∀a b c d:Int,aH Tryz.prog 50 [.agg #[.int .i64 a,.int .i64 b,.int .i64 c,.int .i64 d]] (.bool (!gB (a,b,c,d))))
  (hd:∀a b c d,aF a b=true→aF c d=true→(-500000000000≤c∧d≤500000000000)→aH Tryz.prog 52 [aD a b,aD c d] (aL (dD a b c d)))
  (htv:∀a b,aF a b=true→(cD a b).2.2=0→aF (cD a b).1 (cD a b).2.1=true)
  (A:Option Addr) (n c:Nat) (l:List gR) (w:World) (hg:gF w) (h:Sols w A n l) (hc:n≤c) (hc':c≤9223372036854775807):
  Calls Tryz.prog 19 #[.slice A n c] w (GP (dV (iL l)) w):=by
 by_cases h0:n=0∨1000<n
 ·exact meet_early A n c l w h h0
 ·by_cases h1:c=1
  ·have hn1:n=1:=by omega
   subst hn1 h1;exact meet_one hm hf hd htv A l w hg h
  ·exact meet_main hm hf hd htv A n c l w hg h hc hc' (by omega) (by omega) h1
def US (w:World) (e:Ending) (w':World):Prop:=∃g,e=.returned (.slice (some ⟨g,0,none⟩) 5 5)∧w.heap.size≤g∧w'.heap[g]? =some (.cells #[.int .i64 1,.int .i64 2,.int .i64 3,.int .i64 4,.int .i64 5] 3 (0,0))∧Below w.heap.size w w'
theorem meth_any (w:World):Calls Tryz.prog 30 #[] w (US w):=by
 have HF:=aaQ (show US w (.returned (.slice (some ⟨w.heap.size,0,none⟩) 5 5)) (w.alloc (.cells #[.int .i64 1,.int .i64 2,.int .i64 3,.int .i64 4,.int .i64 5] 3)) from ⟨_,rfl,aaX _,heap_alloc_new w _,(acQ _ _).alloc (aaX _) _⟩);go_enter Tryz.func30,Tryz.ntmps30;go_wp2;go_ret;exact HF.out
def mA (l:List gR):List Value:=l.flatMap fun s=>[.int .i64 s.1,.int .i64 s.2.1,.int .i64 s.2.2.1,.int .i64 s.2.2.2]
theorem flatS_len (l:List gR):(mA l).length=l.length*4:=by
 induction l with
 | nil=>rfl
 | cons p l ih=>rw [mA,List.flatMap_cons,List.length_append];rw [mA] at ih;rw [ih];simp;omega
theorem KI (l:List gR) (s:gR):mA (l++[s])=mA l++[.int .i64 s.1,.int .i64 s.2.1,.int .i64 s.2.2.1,.int .i64 s.2.2.2]:=by simp [mA]
theorem flatS_at (l:List gR):∀(i:Nat),i<l.length→(mA l)[i*4]? =some (.int .i64 (l.getD i qO).1)∧(mA l)[i*4+ 1]? =some (.int .i64 (l.getD i qO).2.1)∧(mA l)[i*4+2]? =some (.int .i64 (l.getD i qO).2.2.1)∧(mA l)[i*4+3]? =some (.int .i64 (l.getD i qO).2.2.2):=by
 induction l with
 | nil=>intro i h;exact absurd h (by simp)
 | cons s l ih=>
  intro i h;have e:mA (s::l)=.int .i64 s.1::.int .i64 s.2.1::.int .i64 s.2.2.1::.int .i64 s.2.2.2::mA l:=by simp [mA]
  rw [e];cases i with
  | zero=>simp
  | succ i=>
   have:=ih i (by simpa using h);rw [show (i+1)*4=i*4+1+1+1+1 by omega,show i*4+1+1+1+1+1=(i*4+1)+1+1+1+1 by omega,show i*4+1+1+1+1+2=(i*4+2)+1+1+1+1 by omega,show i*4+1+1+1+1+3=(i*4+3)+1+1+1+1 by omega];simpa using this
theorem IX {w:World} {B n:Nat} {A:Option Addr} {c:Nat} {l:List gR} (h:w.ownsRow B 28 4 (.slice A n c) n (mA l)) (hn:n≤9223372036854775807):Sols w A n l:=by
 have hl:l.length=n:=by have:=h.1;rw [flatS_len] at this;omega
 refine ⟨hl,hn,fun h0=>?_⟩;obtain ⟨g,cap,hv,_,hlt⟩:=h.form h0;injection hv with hA _ _;subst hA;refine ⟨g,0,rfl,hlt,fun i hi=>?_⟩;have cc:=h.cells (g:=g) rfl;obtain ⟨f0,f1,f2,f3⟩:=flatS_at l i (by omega);have ad:∀j,(⟨g,0,none⟩:Addr).add j=⟨g,0+j,none⟩:=fun j=>by unfold Addr.add;split<;>simp_all
 have e0:=cc _ _ f0;have e1:=cc _ _ f1;have e2:=cc _ _ f2;have e3:=cc _ _ f3;rw [ad] at e0 e1 e2 e3;exact ⟨e0,by rw [avX];exact e1,by rw [avX];exact e2,by rw [avX];exact e3⟩
def kW (a b c d e f:Int):Value:=.agg ⟨[.int .i64 a,.int .i64 b,.int .i64 c,.int .i64 d,.int .i64 e,.int .i64 f]⟩
def GU (l:List gR) (w:World) (e:Ending) (w':World):Prop:=∃A c,e=.returned (.tuple #[.slice A l.length c,.int .i64 0])∧w'.ownsRow w.heap.size 28 4 (.slice A l.length c) l.length (mA l)∧Below w.heap.size w w'
def xA (w:World) (e:Ending) (w':World):Prop:=e=.returned (.tuple #[.slice none 0 0,.int .i64 1])∧Below w.heap.size w w'
theorem aAH:(Tryz.prog.info? 28).map (fun i=>(i.zero,i.size,i.bytes))=some (some (.agg #[.int .i64 0,.int .i64 0,.int .i64 0,.int .i64 0]),4,32):=by kernel_rfl
def Tk (w:World) (k:Nat) (a b c d e f:Int):Prop:=w.heap[k]? =some (.cells #[.int .i64 a,.int .i64 b,.int .i64 c,.int .i64 d,.int .i64 e,.int .i64 f] 25 (0,0))
theorem Tk.keep {w:World} {k:Nat} {a b c d e f:Int} (h:Tk w k a b c d e f):
  w.cell? ⟨k,0,none⟩=some (.int .i64 a)∧w.cell? ⟨k,1,none⟩=some (.int .i64 b)∧w.cell? ⟨k,2,none⟩=some (.int .i64 c)∧w.cell? ⟨k,3,none⟩=some (.int .i64 d)∧w.cell? ⟨k,4,none⟩=some (.int .i64 e)∧w.cell? ⟨k,5,none⟩=some (.int .i64 f):=by
 unfold Tk at h;refine ⟨?_,?_,?_,?_,?_,?_⟩<;>simp [World.cell?,h]
theorem Tk.lt {w:World} {k:Nat} {a b c d e f:Int} (h:Tk w k a b c d e f):k<w.heap.size:=(Array.getElem?_eq_some_iff.1 h).1
theorem Tk.below {w w':World} {k B:Nat} {a b c d e f:Int} (h:Tk w k a b c d e f) (hb:Below B w w') (hB:k<B):Tk w' k a b c d e f:=(hb.block k hB).trans h
theorem meth_at {w:World} {g:Nat} (h:w.heap[g]? =some (.cells #[.int .i64 1,.int .i64 2,.int .i64 3,.int .i64 4,.int .i64 5] 3 (0,0))) (i:Nat) (hi:i<5):w.cell? ⟨g,i,none⟩=some (.int .i64 ((i:Int)+1)):=by
 rw [cell_of_row w g i _ _ _ h];have:i=0∨i=1∨i=2∨i=3∨i=4:=by omega
 rcases this with rfl | rfl | rfl | rfl | rfl<;>rfl
theorem PS {w:World} {base base' e size n:Nat} {v:Value} {xs:List Value} (h:w.ownsRow base e size v n xs) (hb:base'≤base):w.ownsRow base' e size v n xs:=
 ⟨h.1,h.2.imp_right fun ⟨g,cap,cur,hv,hg,r⟩=>⟨g,cap,cur,hv,alQ hb hg,r⟩⟩
theorem XC (w:World) (o:Obj) (x1 x2 x3 x4:Int):∀j u,[Value.int .i64 x1,.int .i64 x2,.int .i64 x3,.int .i64 x4][j]? =some u→((w.alloc o).alloc (.cells #[.int .i64 x1,.int .i64 x2,.int .i64 x3,.int .i64 x4] 28)).cell? ((⟨w.heap.size+1,0,none⟩:Addr).add j)=some u:=by
 have hb:((w.alloc o).alloc (.cells #[.int .i64 x1,.int .i64 x2,.int .i64 x3,.int .i64 x4] 28)).heap[w.heap.size+ 1]? =some (.cells #[.int .i64 x1,.int .i64 x2,.int .i64 x3,.int .i64 x4] 28):=by
  have:=heap_alloc_new (w.alloc o) (.cells #[.int .i64 x1,.int .i64 x2,.int .i64 x3,.int .i64 x4] 28);simpa using this
 exact World.news_of_block hb
structure AllRel (by_:Int→Int×Int×Int×Int×Int) (W wr:World) (B:Nat) (v4 v14:Value) (i:Nat):Prop where
 le:i≤5
 num:v14=.int .i64 (i:Int)
 own:wr.ownsRow B 28 4 v4 (nY by_ i).length (mA (nY by_ i))
 below:Below B W wr
theorem all_yes {by_:Int→Int×Int×Int×Int×Int} {a b c d e f:Int} (hv:aH Tryz.prog 48 [kW a b c d e f] (.bool true)) (hby:∀m,1≤m→m≤5→aH Tryz.prog 11 [.int .i64 m,kW a b c d e f] (dV (by_ m))) (w:World) (hg:gF w):
  Calls Tryz.prog 13 #[kW a b c d e f] w (GU (nY by_ 5) w):=by
 have HBY:=aaQ hby;have HG:=aaQ hg;have HB0:=aaQ ((acQ w.heap.size w).alloc (aaX _) (.cells ⟨[.int .i64 a,.int .i64 b,.int .i64 c,.int .i64 d,.int .i64 e,.int .i64 f]⟩ 25));have HK0:=aaQ (show Tk (w.alloc (.cells ⟨[.int .i64 a,.int .i64 b,.int .i64 c,.int .i64 d,.int .i64 e,.int .i64 f]⟩ 25)) w.heap.size a b c d e f from heap_alloc_new w _);have HV:=aaQ (at1 hv (hg.below HB0.out));clear hv hby hg;unfold kW at HV ⊢;obtain ⟨p0,p1,p2,p3,p4,p5⟩:=HK0.out.keep;go_enter Tryz.func13,Tryz.ntmps13;go_wp2_with fail
 refine HV.out.mono ?_;rintro e w1 ⟨rfl,hb1⟩;have HB1:=aaQ (HB0.out.trans (hb1.mono (by simp)));have HK1:=aaQ (HK0.out.below hb1 (by simp));clear hb1 p0 p1 p2 p3 p4 p5 HV;go_wp2_with fail
 refine (meth_any w1).mono ?_;rintro e w2 ⟨g,rfl,hg1,hm,hb2⟩;have hs1:=HB1.out.size;have hs2:=hb2.size;have hg2:g<w2.heap.size:=(Array.getElem?_eq_some_iff.1 hm).1;have HB2:=aaQ (HB1.out.trans (hb2.mono hs1));have HK2:=aaQ (HK1.out.below hb2 HK1.out.lt);have HM:=aaQ hm;clear hb2 hm;have HST:=aaQ (show AllRel by_ w2 w2 w2.heap.size (.slice none 0 0) (.int .i64 0) 0 from ⟨by omega,rfl,by simpa [nY,mA] using World.ownsRow_nil w2 w2.heap.size 28 4,acQ _ _⟩);go_wp2_with fail
 go_loopw [4,14] (fun v4 v14 wr=>∃i,AllRel by_ w2 wr w2.heap.size v4 v14 i) (fun _ v _=>5-(intOf v).toNat)
 case atStart=>exact ⟨_,HST.out⟩
 case round=>
  clear HST;obtain ⟨i,hi,rfl,hown,hbel⟩:=hrel;have HB:=aaQ hbel;have HO:=aaQ hown;have hsr:=hbel.size;clear hown;by_cases hlt:i<5
  ·obtain ⟨p0,p1,p2,p3,p4,p5⟩:=(HK2.out.below hbel HK2.out.lt).keep;have c0:=meth_at ((hbel.block g hg2).trans HM.out) i hlt;have HBW:=aaQ (HB2.out.trans (hbel.mono HB2.out.size));have HC:=aaQ (at2 (HBY.out ((i:Int)+1) (by omega) (by omega)) (HG.out.below HBW.out));have HS:=aaQ (kJ by_ i);clear hbel;unfold kW at HC;go_wp2_with fail
   refine HC.out.mono ?_;rintro e w3 ⟨rfl,hb3⟩;obtain ⟨x1,x2,x3,x4,xe,hx⟩:∃x1 x2 x3 x4 xe,by_ ((i:Int)+1)=(x1,x2,x3,x4,xe):=⟨_,_,_,_,_,rfl⟩;rw [hx];rw [hx] at HS;have hs3:=hb3.size;have HB3:=aaQ ((HB.out.trans (hb3.mono hsr)).alloc (by omega) (.cells #[.int .i64 x1,.int .i64 x2,.int .i64 x3,.int .i64 x4] 28));have HO3:=aaQ ((pM HO.out hb3).alloc (.cells #[.int .i64 x1,.int .i64 x2,.int .i64 x3,.int .i64 x4] 28));clear hb3 hx HC p0 p1 p2 p3 p4 p5 c0;unfold dV;by_cases hxe:xe=0
   ·subst hxe;rw [show okS (x1,x2,x3,x4,0)=some (x1,x2,x3,x4) from rfl] at HS;have HO4:=aaQ (HO3.out.alloc (.cells #[.int .i64 x1,.int .i64 x2,.int .i64 x3,.int .i64 x4] 28));have HB4:=aaQ (HB3.out.alloc (by simp;omega) (.cells #[.int .i64 x1,.int .i64 x2,.int .i64 x3,.int .i64 x4] 28));obtain ⟨i0,hi0,hz0,hz1,hz2⟩:=gJ aAH;go_wp2_with (at_builtin;refine wpList_append_own _ rfl (.tmp 26) (.tmp 28) 35 rfl w2.heap.size 28 i0 (.agg #[.int .i64 0,.int .i64 0,.int .i64 0,.int .i64 0]) 4 32 Tryz.underlying35 hi0 hz0 hz1 hz2 rfl (by decide) u4 (nY by_ i).length _ rfl HO4.out ⟨w3.heap.size+1,0,none⟩ 1 1 [.int .i64 x1,.int .i64 x2,.int .i64 x3,.int .i64 x4] rfl rfl ?c1 ?c2 ?c3 ?c4 ?c5 ?_)
    case c1=>exact XC w3 _ x1 x2 x3 x4
    case c2=>intro u hu;simp at hu;rcases hu with rfl | rfl | rfl | rfl<;>rfl
    case c3=>have:=uY by_ i;unfold maxLen;omega
    case c4=>have:=uY by_ i;omega
    case c5=>simp;omega
    intro v' w4 hown4 hg _;rw [←KI _ (x1,x2,x3,x4)] at hown4;have HB5:=aaQ (HB4.out.grown hg (by simp;omega) (fun q hq=>(HO4.out.lt q hq).1));have HST:=aaQ (show AllRel by_ w2 w4 w2.heap.size v' (.int .i64 ((i:Int)+1)) (i+1) from ⟨hlt,rfl,by rw [HS.out];simpa using hown4,HB5.out⟩);clear hg hown4;go_wp2;go_roundw
    case rel=>exact ⟨_,HST.out⟩
    case measure=>simp [intOf];omega
   ·have he:(xe==0)=false:=beq_eq_false_iff_ne.2 hxe;rw [show okS (x1,x2,x3,x4,xe)=none by unfold okS;rw [if_neg hxe]] at HS;have HST:=aaQ (show AllRel by_ w2 (w3.alloc (.cells #[.int .i64 x1,.int .i64 x2,.int .i64 x3,.int .i64 x4] 28)) w2.heap.size u4 (.int .i64 ((i:Int)+1)) (i+1) from ⟨hlt,rfl,by rw [HS.out];simpa using HO3.out,HB3.out⟩);clear hxe;go_wp2;go_roundw
    case rel=>exact ⟨_,HST.out⟩
    case measure=>simp [intOf];omega
  ·have hi5:i=5:=by omega
   subst hi5;obtain ⟨A,cp,rfl⟩:=tE HO.out;have HF:=aaQ (show GU (nY by_ 5) w (.returned (.tuple #[.slice A (nY by_ 5).length cp,.int .i64 0])) wr from ⟨A,cp,rfl,PS HO.out (by omega),HB2.out.trans (hbel.mono HB2.out.size)⟩);clear hbel;go_wp2;go_ret2
   exact HF.out
theorem all_no {a b c d e f:Int} (hv:aH Tryz.prog 48 [kW a b c d e f] (.bool false)) (w:World) (hg:gF w):
  Calls Tryz.prog 13 #[kW a b c d e f] w (xA w):=by
 have HB0:=aaQ ((acQ w.heap.size w).alloc (aaX _) (.cells ⟨[.int .i64 a,.int .i64 b,.int .i64 c,.int .i64 d,.int .i64 e,.int .i64 f]⟩ 25));have HK0:=aaQ (show Tk (w.alloc (.cells ⟨[.int .i64 a,.int .i64 b,.int .i64 c,.int .i64 d,.int .i64 e,.int .i64 f]⟩ 25)) w.heap.size a b c d e f from heap_alloc_new w _);have HV:=aaQ (at1 hv (hg.below HB0.out));clear hv hg;unfold kW at HV ⊢;obtain ⟨p0,p1,p2,p3,p4,p5⟩:=HK0.out.keep;go_enter Tryz.func13,Tryz.ntmps13;go_wp2_with fail
 refine HV.out.mono ?_;rintro e w1 ⟨rfl,hb1⟩;have HF:=aaQ (show xA w (.returned (.tuple #[.slice none 0 0,.int .i64 1])) w1 from ⟨rfl,HB0.out.trans (hb1.mono (by simp))⟩);clear hb1 p0 p1 p2 p3 p4 p5 HV;go_wp2;go_ret2
 exact HF.out
theorem own_cap {w:World} {B n c:Nat} {A:Option Addr} {e:TypeId} {size:Nat} {xs:List Value} (h:w.ownsRow B e size (.slice A n c) n xs):n≤c∧c≤9223372036854775807:=by
 rcases h.2 with ⟨hv,hn⟩ | ⟨g,cap,cur,hv,_,_,h1,h2,_⟩
 ·injection hv with _ _ h3;omega
 ·injection hv with _ _ h3;subst h3;unfold maxLen at h2;omega
theorem best_yes {a b c d e f:Int} {l:List gR} (hl:l.length≤1000) (ha:∀w,gF w→Calls Tryz.prog 13 #[kW a b c d e f] w (GU l w)) (hm:∀A n c w,gF w→Sols w A n l→n≤c→c≤9223372036854775807→Calls Tryz.prog 19 #[.slice A n c] w (GP (dV (iL l)) w)) (w:World) (hg:gF w):
  Calls Tryz.prog 14 #[kW a b c d e f] w (GP (dV (iL l)) w):=by
 have HG:=aaQ hg;have HMT:=aaQ hm;have HL:=aaQ hl;have HB0:=aaQ (((acQ w.heap.size w).alloc (aaX _) (.cells ⟨[.int .i64 a,.int .i64 b,.int .i64 c,.int .i64 d,.int .i64 e,.int .i64 f]⟩ 25)).alloc (by simp) (.cells #[.int .i64 0,.int .i64 0,.int .i64 0,.int .i64 0] 28));have HK0:=aaQ (show Bk ((w.alloc (.cells ⟨[.int .i64 a,.int .i64 b,.int .i64 c,.int .i64 d,.int .i64 e,.int .i64 f]⟩ 25)).alloc (.cells #[.int .i64 0,.int .i64 0,.int .i64 0,.int .i64 0] 28)) (w.heap.size+1) qO by
  have:=Bk.new (w.alloc (.cells ⟨[.int .i64 a,.int .i64 b,.int .i64 c,.int .i64 d,.int .i64 e,.int .i64 f]⟩ 25)) qO;simpa [qO] using this)
 have HA:=aaQ (ha _ (hg.below HB0.out));clear ha hm hg hl;unfold kW at HA ⊢;go_enter Tryz.func14,Tryz.ntmps14;go_wp2_with fail
 refine HA.out.mono ?_;rintro e w1 ⟨A,cp,rfl,hown,hb1⟩;have HB1:=aaQ (HB0.out.trans (hb1.mono (by simp;omega)));have HK1:=aaQ (HK0.out.below hb1 (by simp));have hc:=own_cap hown;have hs1:=hb1.size;simp at hs1;have HM:=aaQ (HMT.out A _ cp _ (HG.out.below HB1.out) (IX hown (by have:=HL.out;omega)) hc.1 hc.2);clear hb1 hown HA hc;go_wp2_with fail
 refine HM.out.mono ?_;rintro e w2 ⟨rfl,hb2⟩;have HB2:=aaQ (HB1.out.trans (hb2.mono HB1.out.size));have HK2:=HK1.out.next hb2;obtain ⟨⟨r0,r1,r2,r3⟩,l0,l1,l2,l3⟩:=HK2.keep;clear hb2 HK2;obtain ⟨x1,x2,x3,x4,xe,hx⟩:∃x1 x2 x3 x4 xe,iL l=(x1,x2,x3,x4,xe):=⟨_,_,_,_,_,rfl⟩;have HF:=aaQ (show ∀w',Below w.heap.size w w'→GP (dV (iL l)) w (.returned (.tuple #[.agg #[.int .i64 x1,.int .i64 x2,.int .i64 x3,.int .i64 x4],.int .i64 xe])) w' from fun w' hb=>⟨by rw [hx];rfl,hb⟩);rw [hx];clear hx;unfold dV;go_wp2;refine bodyPost_ret (v:=.tuple #[.agg #[.int .i64 x1,.int .i64 x2,.int .i64 x3,.int .i64 x4],.int .i64 xe]) (by simp [results,Tryz.results14,go_sem,r0,r1,r2,r3]) rfl (HF.out _ ?_);exact Below.set4 HB2.out (by omega) _ _ _ _
theorem best_no {a b c d e f:Int} (ha:∀w,gF w→Calls Tryz.prog 13 #[kW a b c d e f] w (xA w)) (w:World) (hg:gF w):
  Calls Tryz.prog 14 #[kW a b c d e f] w (GP (dV (0,0,0,0,1)) w):=by
 have HB0:=aaQ (((acQ w.heap.size w).alloc (aaX _) (.cells ⟨[.int .i64 a,.int .i64 b,.int .i64 c,.int .i64 d,.int .i64 e,.int .i64 f]⟩ 25)).alloc (by simp) (.cells #[.int .i64 0,.int .i64 0,.int .i64 0,.int .i64 0] 28));have HK0:=aaQ (show Bk ((w.alloc (.cells ⟨[.int .i64 a,.int .i64 b,.int .i64 c,.int .i64 d,.int .i64 e,.int .i64 f]⟩ 25)).alloc (.cells #[.int .i64 0,.int .i64 0,.int .i64 0,.int .i64 0] 28)) (w.heap.size+1) qO by
  have:=Bk.new (w.alloc (.cells ⟨[.int .i64 a,.int .i64 b,.int .i64 c,.int .i64 d,.int .i64 e,.int .i64 f]⟩ 25)) qO;simpa [qO] using this)
 have HA:=aaQ (ha _ (hg.below HB0.out));have HF:=aaQ (show ∀w',Below w.heap.size w w'→GP (dV (0,0,0,0,1)) w (.returned (.tuple #[.agg #[.int .i64 0,.int .i64 0,.int .i64 0,.int .i64 0],.int .i64 1])) w' from fun w' hb=>⟨rfl,hb⟩);clear ha hg;unfold kW at HA ⊢;go_enter Tryz.func14,Tryz.ntmps14;go_wp2_with fail
 refine HA.out.mono ?_;rintro e w1 ⟨rfl,hb1⟩;have HB1:=aaQ (HB0.out.trans (hb1.mono (by simp;omega)));obtain ⟨⟨r0,r1,r2,r3⟩,l0,l1,l2,l3⟩:=(HK0.out.below hb1 (by simp)).keep;clear hb1 HA;go_wp2;refine bodyPost_ret (v:=.tuple #[.agg #[.int .i64 0,.int .i64 0,.int .i64 0,.int .i64 0],.int .i64 1]) (by simp [results,Tryz.results14,go_sem,r0,r1,r2,r3]) rfl (HF.out _ ?_);exact Below.set4 HB1.out (by omega) _ _ _ _
def Met (w:World) (g:Nat):Prop:=w.heap[g]? =some (.cells #[.int .i64 1,.int .i64 2,.int .i64 3,.int .i64 4,.int .i64 5] 3 (0,0))
def Idx5 (m:Int) (w:World) (e:Ending) (w':World):Prop:=(∃r:Int,e=.returned (.int .i64 r)∧decide (0≤r)=decide (1≤m∧m≤5)∧-1≤r∧r<9223372036854775807)∧w=w'
theorem idx5_any (g:Nat) (m:Int) (w:World) (h:Met w g):Calls Tryz.prog 91 #[.slice (some ⟨g,0,none⟩) 5 5,.int .i64 m] w (Idx5 m w):=by
 have HM:=aaQ h;clear h;go_enter Tryz.func91,Tryz.ntmps91;go_wp2;go_loop [8] (fun i=>∃k:Nat,k≤5∧i=.int .i64 k∧∀j:Nat,j<k→m≠(j:Int)+1) (fun i=>5-(intOf i).toNat)
 case atStart=>exact ⟨0,adX _,rfl,fun j hj=>absurd hj (by omega)⟩
 case round=>
  obtain ⟨k,hk,rfl,hno⟩:=hrel;have HN:=aaQ hno;clear hno;by_cases hlt:k<5
  ·have hc0:=meth_at HM.out k hlt;by_cases hx:m=(k:Int)+1
   ·have hx1:(m==(k:Int)+1)=true:=by simp [hx]
    have hfin:Idx5 m w (.returned (.int .i64 (k:Int))) w:=⟨⟨k,rfl,by rw [decide_eq_true (by omega),decide_eq_true (by omega)],by omega,by omega⟩,rfl⟩;have HF:=aaQ hfin;clear hx hfin;go_wp2;go_ret;exact HF.out
   ·have hx1:(m==(k:Int)+1)=false:=beq_eq_false_iff_ne.2 hx;have HX:=aaQ hx;clear hx;go_wp2;go_round
    case rel=>
     refine ⟨k+1,by omega,by go_num,fun j hj=>?_⟩;by_cases e:j=k
     ·rw [e];exact HX.out
     ·exact HN.out j (by omega)
    case measure=>simp [intOf];omega
  ·have hfin:Idx5 m w (.returned (.int .i64 (-1:Int))) w:=⟨⟨-1,rfl,by
    have hm:¬(1≤m∧m≤5):=fun ⟨h1,h2⟩=>HN.out (m-1).toNat (by omega) (by omega);rw [decide_eq_false hm];rfl,by omega,by omega⟩,rfl⟩
   have HF:=aaQ hfin;clear hfin;go_wp2;go_ret;exact HF.out
theorem con5_any (g:Nat) (m:Int) (w:World) (h:Met w g):Calls Tryz.prog 42 #[.slice (some ⟨g,0,none⟩) 5 5,.int .i64 m] w fun e w'=>e=.returned (.bool (decide (1≤m∧m≤5)))∧w=w':=by
 have HI:=aaQ (idx5_any g m w h);clear h;go_enter Tryz.func42,Tryz.ntmps42;go_wp2_with fail
 refine HI.out.mono ?_;rintro e w' ⟨⟨r,rfl,hr,_,_⟩,rfl⟩;have HR:=aaQ hr;clear hr;go_wp2;go_ret;rw [←HR.out];exact ⟨rfl,rfl⟩
def rmV:Option gR→Value
 | none=>.tuple #[.agg #[.int .i64 0,.int .i64 0,.int .i64 0,.int .i64 0],.bool false]
 | some x=>.tuple #[.agg #[.int .i64 x.1,.int .i64 x.2.1,.int .i64 x.2.2.1,.int .i64 x.2.2.2],.bool true]
structure RMeetRel (rc:Int→Int→Int→Int→Int×Int×Bool) (l:List gR) (w wr:World) (Bo:Nat) (v:Value) (o:gR) (k:Nat):Prop where
 le:k≤l.length
 pos:0<k
 num:v=.int .i64 (k:Int)
 out:Bk wr Bo o
 res:Bk wr w.heap.size qO
 eq:mP rc (l.getD 0 qO) (l.drop 1)=mP rc o (l.drop k)
 below:Below w.heap.size w wr
theorem YY (w:World) (o:Obj):w.heap.size<(w.alloc o).heap.size:=by simp
theorem pair_write {w:World} {g:Nat} {x y:Int} {t:TypeId} (h:w.heap[g]? =some (.cells #[.int .i64 x,.int .i64 y] t (0,0))) (u v:Int):
  ((w.setCell ⟨g,0,none⟩ (.int .i64 u)).setCell ⟨g,1,none⟩ (.int .i64 v)).heap[g]? =some (.cells #[.int .i64 u,.int .i64 v] t (0,0)):=by
 simp [axJ,h,Array.getElem?_modify]
theorem pair_new (w:World) {x y u v:Int} (hx:x=u) (hy:y=v):(w.alloc (.cells #[.int .i64 x,.int .i64 y] 23)).drew.heap[w.heap.size]? =some (.cells #[.int .i64 u,.int .i64 v] 23 (0,0)):=by
 subst hx hy;exact heap_alloc_new w _
theorem keepM {w0 W w1:World} {b c p0 p1 p2 p3:Nat} {v0 v1 v2 v3 v4 v5 v6 v7:Value} (h:(W.cell? ⟨b,0,none⟩=some v0∧W.cell? ⟨b,1,none⟩=some v1∧W.cell? ⟨b,2,none⟩=some v2∧W.cell? ⟨b,3,none⟩=some v3∧W.cell? ⟨c,p0,none⟩=some v4∧W.cell? ⟨c,p1,none⟩=some v5∧W.cell? ⟨c,p2,none⟩=some v6∧W.cell? ⟨c,p3,none⟩=some v7)∧Below w0.heap.size w0 W) (hb:Below W.heap.size W w1):
  (w1.cell? ⟨b,0,none⟩=some v0∧w1.cell? ⟨b,1,none⟩=some v1∧w1.cell? ⟨b,2,none⟩=some v2∧w1.cell? ⟨b,3,none⟩=some v3∧w1.cell? ⟨c,p0,none⟩=some v4∧w1.cell? ⟨c,p1,none⟩=some v5∧w1.cell? ⟨c,p2,none⟩=some v6∧w1.cell? ⟨c,p3,none⟩=some v7)∧Below w0.heap.size w0 w1:=by
 obtain ⟨⟨h0,h1,h2,h3,h4,h5,h6,h7⟩,hB⟩:=h;have hlt:=World.block_lt_of_cell? W _ h0;have hlc:=World.block_lt_of_cell? W _ h4;exact ⟨⟨(hb.cell (p:=⟨b,0,none⟩) hlt).trans h0,(hb.cell (p:=⟨b,1,none⟩) hlt).trans h1,(hb.cell (p:=⟨b,2,none⟩) hlt).trans h2,(hb.cell (p:=⟨b,3,none⟩) hlt).trans h3,(hb.cell (p:=⟨c,p0,none⟩) hlc).trans h4,(hb.cell (p:=⟨c,p1,none⟩) hlc).trans h5,(hb.cell (p:=⟨c,p2,none⟩) hlc).trans h6,(hb.cell (p:=⟨c,p3,none⟩) hlc).trans h7⟩,hB.trans (hb.mono hB.size)⟩
theorem keepMB {w0 W w1:World} {b c p0 p1 p2 p3:Nat} {v0 v1 v2 v3 v4 v5 v6 v7:Value} (h1:b<w0.heap.size) (h2:c<w0.heap.size) (h:(W.cell? ⟨b,0,none⟩=some v0∧W.cell? ⟨b,1,none⟩=some v1∧W.cell? ⟨b,2,none⟩=some v2∧W.cell? ⟨b,3,none⟩=some v3∧W.cell? ⟨c,p0,none⟩=some v4∧W.cell? ⟨c,p1,none⟩=some v5∧W.cell? ⟨c,p2,none⟩=some v6∧W.cell? ⟨c,p3,none⟩=some v7)∧Below w0.heap.size w0 W) (hb:Below w0.heap.size W w1):
  (w1.cell? ⟨b,0,none⟩=some v0∧w1.cell? ⟨b,1,none⟩=some v1∧w1.cell? ⟨b,2,none⟩=some v2∧w1.cell? ⟨b,3,none⟩=some v3∧w1.cell? ⟨c,p0,none⟩=some v4∧w1.cell? ⟨c,p1,none⟩=some v5∧w1.cell? ⟨c,p2,none⟩=some v6∧w1.cell? ⟨c,p3,none⟩=some v7)∧Below w0.heap.size w0 w1:=by
 obtain ⟨⟨g0,g1,g2,g3,g4,g5,g6,g7⟩,hB⟩:=h;exact ⟨⟨(hb.cell (p:=⟨b,0,none⟩) h1).trans g0,(hb.cell (p:=⟨b,1,none⟩) h1).trans g1,(hb.cell (p:=⟨b,2,none⟩) h1).trans g2,(hb.cell (p:=⟨b,3,none⟩) h1).trans g3,(hb.cell (p:=⟨c,p0,none⟩) h2).trans g4,(hb.cell (p:=⟨c,p1,none⟩) h2).trans g5,(hb.cell (p:=⟨c,p2,none⟩) h2).trans g6,(hb.cell (p:=⟨c,p3,none⟩) h2).trans g7⟩,hB.trans hb⟩
theorem keepMS {w0 W:World} {b c p0 p1 p2 p3:Nat} {v0 v1 v2 v3 v4 v5 v6 v7:Value} (h1:b<w0.heap.size) (h2:c<w0.heap.size) (h:(W.cell? ⟨b,0,none⟩=some v0∧W.cell? ⟨b,1,none⟩=some v1∧W.cell? ⟨b,2,none⟩=some v2∧W.cell? ⟨b,3,none⟩=some v3∧W.cell? ⟨c,p0,none⟩=some v4∧W.cell? ⟨c,p1,none⟩=some v5∧W.cell? ⟨c,p2,none⟩=some v6∧W.cell? ⟨c,p3,none⟩=some v7)∧Below w0.heap.size w0 W) (x y:Value):
  (((W.setCell ⟨w0.heap.size,0,none⟩ x).setCell ⟨w0.heap.size,1,none⟩ y).cell? ⟨b,0,none⟩=some v0∧((W.setCell ⟨w0.heap.size,0,none⟩ x).setCell ⟨w0.heap.size,1,none⟩ y).cell? ⟨b,1,none⟩=some v1∧((W.setCell ⟨w0.heap.size,0,none⟩ x).setCell ⟨w0.heap.size,1,none⟩ y).cell? ⟨b,2,none⟩=some v2∧((W.setCell ⟨w0.heap.size,0,none⟩ x).setCell ⟨w0.heap.size,1,none⟩ y).cell? ⟨b,3,none⟩=some v3∧((W.setCell ⟨w0.heap.size,0,none⟩ x).setCell ⟨w0.heap.size,1,none⟩ y).cell? ⟨c,p0,none⟩=some v4∧((W.setCell ⟨w0.heap.size,0,none⟩ x).setCell ⟨w0.heap.size,1,none⟩ y).cell? ⟨c,p1,none⟩=some v5∧((W.setCell ⟨w0.heap.size,0,none⟩ x).setCell ⟨w0.heap.size,1,none⟩ y).cell? ⟨c,p2,none⟩=some v6∧((W.setCell ⟨w0.heap.size,0,none⟩ x).setCell ⟨w0.heap.size,1,none⟩ y).cell? ⟨c,p3,none⟩=some v7)∧Below w0.heap.size w0 ((W.setCell ⟨w0.heap.size,0,none⟩ x).setCell ⟨w0.heap.size,1,none⟩ y):=
 keepMB h1 h2 h (((acQ _ _).setCell (p:=⟨w0.heap.size,0,none⟩) (aaX _) x).setCell (p:=⟨w0.heap.size,1,none⟩) (aaX _) y)
theorem rmeet_any {rc:Int→Int→Int→Int→Int×Int×Bool} (hc:∀a b c d,aH Tryz.prog 55 [aD a b,aD c d] (.tuple ⟨[aD (rc a b c d).1 (rc a b c d).2.1,.bool (rc a b c d).2.2]⟩))
    (A:Option Addr) (n c:Nat) (l:List gR) (w:World) (hg:gF w) (h:Sols w A n l) (h0:0<n) (h1:n≤1000):
    Calls Tryz.prog 23 #[.slice A n c] w (GP (rmV (mP rc (l.getD 0 qO) (l.drop 1))) w):=by
  have HL:=aaQ h.len
  have HS:=aaQ h
  have HC:=aaQ hc
  have HG:=aaQ hg
  have HB0:=aaQ ((acQ w.heap.size w).alloc (aaX _) (.cells #[.int .i64 0,.int .i64 0,.int .i64 0,.int .i64 0] 28))
  have HK0:=aaQ (Bk.new w qO)
  obtain ⟨b,off,a1,a2,a3,a4,rfl,hb,hy,d0,d1,d2,d3⟩:=h.at_ h0 HB0.out
  have HY:=aaQ hy
  have HB1:=aaQ (HB0.out.alloc (by simp) (.cells #[.int .i64 a1,.int .i64 a2,.int .i64 a3,.int .i64 a4] 28))
  have HO1:=aaQ (Bk.new (w.alloc (.cells #[.int .i64 0,.int .i64 0,.int .i64 0,.int .i64 0] 28)) (a1,a2,a3,a4))
  have HK1:=aaQ (HK0.out.next ((acQ _ _).alloc (aaX _) (.cells #[.int .i64 a1,.int .i64 a2,.int .i64 a3,.int .i64 a4] 28)))
  simp only [ayX,atX] at d0 d1 d2 d3
  have hno:qO=(0,0,0,0):=rfl
  have HST:=aaQ (show RMeetRel rc l w ((w.alloc (.cells #[.int .i64 0,.int .i64 0,.int .i64 0,.int .i64 0] 28)).alloc (.cells #[.int .i64 a1,.int .i64 a2,.int .i64 a3,.int .i64 a4] 28)) (w.heap.size+1) (.int .i64 1) (a1,a2,a3,a4) 1 from ⟨by rw [HL.out];omega,by omega,rfl,by simpa using HO1.out,HK1.out,by rw [HY.out],HB1.out⟩)
  clear h hc hg hy HO1 HK1 HK0
  go_enter Tryz.func23,Tryz.ntmps23
  go_wp2_with fail
  go_loopw [5] (fun v wr=>∃k o,RMeetRel rc l w wr (w.heap.size+1) v o k) (fun v _=>n-(intOf v).toNat)
  case atStart=>exact ⟨_,_,HST.out⟩
  case round=>
    clear HST d0 d1 d2 d3
    obtain ⟨k,o,hk,hk0,rfl,hout,hres,heq,hbel⟩:=hrel
    rw [HL.out] at hk
    have HB:=aaQ hbel
    have HRS:=aaQ hres
    have HOU:=aaQ hout
    have HE:=aaQ heq
    have hsr:=hbel.size
    have hol:=hout.lt
    clear hres hout heq
    by_cases hlt:k<n
    · obtain ⟨b',off',x1,x2,x3,x4,hbo,hb',hy',d0,d1,d2,d3⟩:=HS.out.at_ (k:=k) hlt hbel
      injection hbo with hbo
      injection hbo with hbo1 hbo2
      subst hbo1 hbo2
      have HY':=aaQ hy'
      obtain ⟨o1,o2,o3,o4⟩:=o
      obtain ⟨⟨p0,p1,p2,p3⟩,f0,f1,f2,f3⟩:=HOU.out.keep
      dsimp only at p0 p1 p2 p3
      have HC1:=aaQ (HC.out o3 o4 x3 x4)
      obtain ⟨z1,z2,zb,hz⟩:∃z1 z2 zb,rc o3 o4 x3 x4=(z1,z2,zb):=⟨_,_,_,rfl⟩
      have HZ:=aaQ hz
      rw [hz] at HC1
      clear hbel hy' hz
      unfold aD at HC1
      go_wp2_with fail
      have lo1:=aaQ hol
      have lo2:=aaQ (ahQ hb hsr)
      have HC2:=aaQ (show ∀W,Below wr.heap.size wr W→Calls Tryz.prog 55 #[.agg #[.int .i64 o3,.int .i64 o4],.agg #[.int .i64 x3,.int .i64 x4]] W (GP (.tuple #[.agg #[.int .i64 z1,.int .i64 z2],.bool zb]) W) from fun W hW=>at2 HC1.out (HG.out.below (HB.out.trans (hW.mono hsr))))
      go_cut [6,7] from 18 to 28 (fun v6 v7 wx=>∃g,v6=Value.pointer (some ⟨g,0,none⟩)∧v7=Value.bool zb∧wr.heap.size≤g∧RowKit.Hid (wx.heap[g]? =some (.cells #[.int .i64 z1,.int .i64 z2] 23 (0,0)))∧RowKit.Hid (Below wr.heap.size wr wx))
      case first=>
        go_region_held3 (fun w'=>(w'.cell? ⟨w.heap.size+1,0,none⟩=some (.int .i64 o1)∧w'.cell? ⟨w.heap.size+1,1,none⟩=some (.int .i64 o2)∧w'.cell? ⟨w.heap.size+1,2,none⟩=some (.int .i64 o3)∧w'.cell? ⟨w.heap.size+1,3,none⟩=some (.int .i64 o4)∧w'.cell? ⟨b,off+k*4,none⟩=some (.int .i64 x1)∧w'.cell? ⟨b,off+k*4+1,none⟩=some (.int .i64 x2)∧w'.cell? ⟨b,off+k*4+2,none⟩=some (.int .i64 x3)∧w'.cell? ⟨b,off+k*4+3,none⟩=some (.int .i64 x4))∧Below wr.heap.size wr w')
          (first
            | exact ⟨⟨p0,p1,p2,p3,d0,d1,d2,d3⟩,(acQ _ _).drew⟩
            | (with_reducible exact keepM (by assumption) ((acQ _ _).alloc (aaX _) _))
            | (with_reducible exact keepMB lo1.out lo2.out SS.out (Below.alloc (acQ _ _) lo3 _))
            | (with_reducible exact keepMS lo1.out lo2.out SS.out _ _)
            | (with_reducible exact SS.out))
          (first
            | (go_at_call 55
               refine (HC2.out _ (And.right (by assumption))).mono ?_
               rintro e w4 ⟨rfl,hb4⟩
               have SS:=aaQ (keepM (w1:=w4) (by assumption) hb4)
               have lo3:=SS.out.2.size
               first
                 | (have kc:=DE hb4 (YY wr (.cells #[.int .i64 0,.int .i64 0] 23)) (heap_alloc_new wr (.cells #[.int .i64 0,.int .i64 0] 23))
                    have uk0:=kc.1.1
                    have uk1:=kc.1.2
                    have uk2:=kc.2.1
                    have uk3:=kc.2.2
                    have ukb:=aaQ (show w4.heap[wr.heap.size]? =some (.cells #[.int .i64 0,.int .i64 0] 23 (0,0)) from (hb4.block _ (YY wr (.cells #[.int .i64 0,.int .i64 0] 23))).trans (heap_alloc_new wr (.cells #[.int .i64 0,.int .i64 0] 23))))
                 | skip)
            | fail)
        all_goals (
          go_wp2_with fail
          go_meet
          first
            | exact ⟨_,rfl,rfl,lo3,aaQ (heap_alloc_new w4 _),aaQ (Below.alloc SS.out.2 lo3 _)⟩
            | exact ⟨_,rfl,rfl,aaX _,aaQ (pair_write ukb.out z1 z2),aaQ (Below.setCell (Below.setCell SS.out.2 (aaX _) _) (aaX _) _)⟩)
      case rest=>
        obtain ⟨g,rfl,rfl,hg1,hg2,hg3⟩:=hcut
        obtain ⟨wa,hwa⟩:∃x,x=wc:=⟨_,rfl⟩
        subst hwa
        have HBc:=aaQ (HB.out.trans (hg3.out.mono hsr))
        have hsc:=hg3.out.size
        have HOc:=aaQ (HOU.out.next hg3.out)
        have HRc:=aaQ (HRS.out.next hg3.out)
        have hgl:g<wa.heap.size:=(Array.getElem?_eq_some_iff.1 hg2.out).1
        have e0:=(hg3.out.cell (p:=⟨b,off+k*4,none⟩) (ahQ hb hsr)).trans d0
        have e1:=(hg3.out.cell (p:=⟨b,off+k*4+1,none⟩) (ahQ hb hsr)).trans d1
        have e2:=(hg3.out.cell (p:=⟨b,off+k*4+2,none⟩) (ahQ hb hsr)).trans d2
        have e3:=(hg3.out.cell (p:=⟨b,off+k*4+3,none⟩) (ahQ hb hsr)).trans d3
        clear p0 p1 p2 p3 f0 f1 f2 f3 d0 d1 d2 d3 HC1 HC2
        obtain ⟨⟨p0,p1,p2,p3⟩,f0,f1,f2,f3⟩:=HOc.out.keep
        dsimp only at p0 p1 p2 p3
        have HS0:=aaQ (show (wa.cell? ⟨w.heap.size+1,0,none⟩=some (.int .i64 o1)∧wa.cell? ⟨w.heap.size+1,1,none⟩=some (.int .i64 o2)∧wa.cell? ⟨w.heap.size+1,2,none⟩=some (.int .i64 o3)∧wa.cell? ⟨w.heap.size+1,3,none⟩=some (.int .i64 o4)∧wa.cell? ⟨b,off+k*4,none⟩=some (.int .i64 x1)∧wa.cell? ⟨b,off+k*4+1,none⟩=some (.int .i64 x2)∧wa.cell? ⟨b,off+k*4+2,none⟩=some (.int .i64 x3)∧wa.cell? ⟨b,off+k*4+3,none⟩=some (.int .i64 x4))∧Below wa.heap.size wa wa from ⟨⟨p0,p1,p2,p3,e0,e1,e2,e3⟩,acQ _ _⟩)
        go_wp2_with fail
        go_cut [8] from 29 to 49 (fun v8 wx=>∃g',v8=Value.pointer (some ⟨g',0,none⟩)∧wa.heap.size≤g'∧RowKit.Hid (wx.heap[g']? =some (.cells #[.int .i64 (mx o1 x1),.int .i64 (mn o2 x2)] 23 (0,0)))∧RowKit.Hid (Below wa.heap.size wa wx))
        case first=>
          go_region_held3 (fun w'=>(w'.cell? ⟨w.heap.size+1,0,none⟩=some (.int .i64 o1)∧w'.cell? ⟨w.heap.size+1,1,none⟩=some (.int .i64 o2)∧w'.cell? ⟨w.heap.size+1,2,none⟩=some (.int .i64 o3)∧w'.cell? ⟨w.heap.size+1,3,none⟩=some (.int .i64 o4)∧w'.cell? ⟨b,off+k*4,none⟩=some (.int .i64 x1)∧w'.cell? ⟨b,off+k*4+1,none⟩=some (.int .i64 x2)∧w'.cell? ⟨b,off+k*4+2,none⟩=some (.int .i64 x3)∧w'.cell? ⟨b,off+k*4+3,none⟩=some (.int .i64 x4))∧Below wa.heap.size wa w')
            (first
              | exact ⟨⟨p0,p1,p2,p3,e0,e1,e2,e3⟩,(acQ _ _).drew⟩
              | (with_reducible exact keepM HS0.out ((acQ _ _).alloc (aaX _) _))
              | (with_reducible exact keepM HS0.out (((acQ _ _).alloc (aaX _) _).drew)))
            (fail)
          all_goals (go_wp2_with fail)
          all_goals (
            go_meet
            exact ⟨_,rfl,aaX _,aaQ (pair_new wa (by unfold mx;split<;>omega) (by unfold mn;split<;>omega)),aaQ (Below.alloc (acQ _ _) (aaX _) _).drew⟩)
        case rest=>
          obtain ⟨g',rfl,hg1',hg2',hg3'⟩:=hcut
          have HDR:=aaQ (show l.drop k=(x1,x2,x3,x4)::l.drop (k+1) by
            rw [List.drop_eq_getElem_cons (by rw [HL.out];omega)]
            congr 1
            have:=HY'.out
            rw [List.getD_eq_getElem?_getD,List.getElem?_eq_getElem (by rw [HL.out];omega)] at this
            exact this)
          have HBd:=aaQ (HBc.out.trans (hg3'.out.mono (by omega)))
          have HOd:=aaQ (HOc.out.next hg3'.out)
          have HRd:=aaQ (HRc.out.next hg3'.out)
          have hsd:=hg3'.out.size
          have hgd:g'<wc.heap.size:=(Array.getElem?_eq_some_iff.1 hg2'.out).1
          have HGd:=aaQ (show wc.heap[g]? =some (.cells #[.int .i64 z1,.int .i64 z2] 23 (0,0)) from (hg3'.out.block g hgl).trans hg2.out)
          clear p0 p1 p2 p3 f0 f1 f2 f3 e0 e1 e2 e3 HS0
          obtain ⟨⟨q0,q1⟩,i0,i1⟩:=DE (acQ wc.heap.size wc) hgd hg2'.out
          obtain ⟨⟨t0,t1⟩,j0,j1⟩:=DE (acQ wc.heap.size wc) (ahQ hgl hsd) HGd.out
          by_cases hok:zb=true∧¬mx o1 x1>mn o2 x2
          · obtain ⟨rfl,hnb⟩:=hok
            have hmo:AF rc (o1,o2,o3,o4) (x1,x2,x3,x4)=some (mx o1 x1,mn o2 x2,z1,z2):=by
              unfold AF
              dsimp only
              rw [HZ.out]
              exact if_pos ⟨rfl,hnb⟩
            generalize mx o1 x1=X at*
            generalize mn o2 x2=Y at*
            have HST:=aaQ (show ∀wf,Bk wf (w.heap.size+1) (X,Y,z1,z2)→Bk wf w.heap.size qO→Below w.heap.size w wf→RMeetRel rc l w wf (w.heap.size+1) (.int .i64 ((k:Int)+1)) (X,Y,z1,z2) (k+1) from fun wf i1 i2 i3=>⟨by rw [HL.out];omega,by omega,rfl,i1,i2,by rw [HE.out,HDR.out];simp only [mP];rw [hmo],i3⟩)
            obtain ⟨⟨r0,r1,r2,r3⟩,l0,l1,l2,l3⟩:=HOd.out.keep
            have HF1:=aaQ (HOd.out.write (X,Y,z1,z2))
            have HF2:=aaQ (HRd.out.other (b':=w.heap.size+1) (by omega) (.int .i64 X) (.int .i64 Y) (.int .i64 z1) (.int .i64 z2))
            have HF3:=aaQ (Below.set4 HBd.out (b:=w.heap.size+1) (by omega) (.int .i64 X) (.int .i64 Y) (.int .i64 z1) (.int .i64 z2))
            clear hmo
            go_wp2
            go_roundw
            case rel=>exact ⟨_,_,HST.out _ HF1.out HF2.out HF3.out⟩
            case measure=>simp [intOf];omega
          · have hmo:AF rc (o1,o2,o3,o4) (x1,x2,x3,x4)=none:=by
              unfold AF
              dsimp only
              rw [HZ.out]
              exact if_neg hok
            have HF:=aaQ (show ∀w',Below w.heap.size w w'→GP (rmV (mP rc (l.getD 0 qO) (l.drop 1))) w (.returned (.tuple #[.agg #[.int .i64 0,.int .i64 0,.int .i64 0,.int .i64 0],.bool false])) w' from fun w' hb=>⟨by
              rw [HE.out,HDR.out];simp only [mP];rw [hmo];rfl,hb⟩)
            obtain ⟨⟨r0,r1,r2,r3⟩,l0,l1,l2,l3⟩:=HRd.out.keep
            generalize mx o1 x1=X at*
            generalize mn o2 x2=Y at*
            clear hmo
            cases zb with
            | false=>
              clear hok
              go_wp2
              refine bodyPost_ret (v:=.tuple #[.agg #[.int .i64 0,.int .i64 0,.int .i64 0,.int .i64 0],.bool false]) (by simp [results,Tryz.results23,go_sem,r0,r1,r2,r3]) rfl (HF.out _ ?_)
              exact Below.set4 HBd.out (aaX _) _ _ _ _
            | true=>
              have hgt:X>Y:=by
                by_cases h:X>Y
                · exact h
                · exact absurd ⟨rfl,h⟩ hok
              clear hok
              go_wp2
              refine bodyPost_ret (v:=.tuple #[.agg #[.int .i64 0,.int .i64 0,.int .i64 0,.int .i64 0],.bool false]) (by simp [results,Tryz.results23,go_sem,r0,r1,r2,r3]) rfl (HF.out _ ?_)
              exact Below.set4 HBd.out (aaX _) _ _ _ _
    · have hkm:k=n:=by omega
      subst hkm
      have HDR:=aaQ (show l.drop k=[] from List.drop_eq_nil_of_le (by rw [HL.out];omega))
      obtain ⟨o1,o2,o3,o4⟩:=o
      have HF:=aaQ (show ∀w',Below w.heap.size w w'→GP (rmV (mP rc (l.getD 0 qO) (l.drop 1))) w (.returned (.tuple #[.agg #[.int .i64 o1,.int .i64 o2,.int .i64 o3,.int .i64 o4],.bool true])) w' from fun w' hb=>⟨by
        rw [HE.out,HDR.out];rfl,hb⟩)
      obtain ⟨⟨p0,p1,p2,p3⟩,f0,f1,f2,f3⟩:=HOU.out.keep
      obtain ⟨⟨r0,r1,r2,r3⟩,l0,l1,l2,l3⟩:=HRS.out.keep
      dsimp only at p0 p1 p2 p3
      go_wp2
      refine bodyPost_ret (v:=.tuple #[.agg #[.int .i64 o1,.int .i64 o2,.int .i64 o3,.int .i64 o4],.bool true]) (by simp [results,Tryz.results23,go_sem,r0,r1,r2,r3]) rfl (HF.out _ ?_)
      exact Below.set4 HB.out (aaX _) _ _ _ _
def eqS (a b:gR):Bool:=(a.1==b.1)&&((a.2.1==b.2.1)&&((a.2.2.1==b.2.2.1)&&(a.2.2.2==b.2.2.2)))
theorem eqS_iff (a b:gR):eqS a b=true↔a=b:=by
 obtain ⟨a1,a2,a3,a4⟩:=a;obtain ⟨b1,b2,b3,b4⟩:=b;unfold eqS;simp
theorem RL {B:Nat} {a w:World} (h:Below B a w) (n:Nat):Below B a (w.drewN n):=⟨h.os,h.tape,h.output,h.size,h.block⟩
end Go.Proofs.YtmididlfnajhiaaGreatDoor
