/-
  Chapter 30: the walks over slices of solutions: directions, Meet, All, Best.
-/
import Derived.Test.YtajpgkpdhcbngaaGreatDoorU16
import Derived.Test.YtajpgkpdhcbngaaGreatDoorU12
import Derived.WalkKit
import Derived.Lib.Hide
import Derived.Deep.Draws
import Derived.Deep.AppendLies
import Derived.Deep.QuietTactic
import Derived.BigQuiet
import Derived.WalkSpells
import Derived.Laws.OwnMore
import Derived.Deep.RegionHeld3
import Derived.Deep.RegionWith
import Derived.Deep.CutRange
set_option maxRecDepth 100000
set_option maxHeartbeats 4000000
open Go.RowKit.Below renaming heap_alloc→ahX,refl→aeX
open Go.Lib renaming hid→aaX
open _root_.Nat renaming add_assoc→avZ,add_zero→avJ,le_refl→aaJ,le_trans→ahJ,lt_of_lt_of_le→apZ
open Go.Proofs.Tryz renaming prog→aaZ
open Go.World renaming setCell→ayQ
namespace Go.Proofs.YtajpgkpdhcbngaaGreatDoor
open Go.RowKit
open Ev (eJ aH)
theorem Ev.eJ.below {w w':World} (h:Ev.eJ w) (hb:Below w.heap.size w w'):Ev.eJ w':=h.of fun g hg _=>hb.block g hg
def GP (V:Value) (w:World) (e:Ending) (w':World):Prop:=e=.returned V∧Below w.heap.size w w'
theorem at0 {P:Program} {g:FuncId} {V:Value} (h:aH P g [] V) {w:World} (hg:eJ w):Calls P g #[] w (GP V w):=h w hg
theorem at1 {P:Program} {g:FuncId} {a V:Value} (h:aH P g [a] V) {w:World} (hg:eJ w):Calls P g #[a] w (GP V w):=h w hg
theorem at2 {P:Program} {g:FuncId} {a b V:Value} (h:aH P g [a,b] V) {w:World} (hg:eJ w):Calls P g #[a,b] w (GP V w):=h w hg
theorem at3 {P:Program} {g:FuncId} {a b c V:Value} (h:aH P g [a,b,c] V) {w:World} (hg:eJ w):Calls P g #[a,b,c] w (GP V w):=h w hg
structure Sols (w:World) (A:Option Addr) (n:Nat) (l:List jW):Prop where
 len:l.length=n
 le:n≤9223372036854775807
 cells:0<n→∃b off,A=some ⟨b,off,none⟩∧b<w.heap.size∧∀i,i<n→w.cell? ⟨b,off+i*4,none⟩=some (.int .i64 (l.getD i CC).1)∧w.cell? ⟨b,off+i*4+1,none⟩=some (.int .i64 (l.getD i CC).2.1)∧w.cell? ⟨b,off+i*4+2,none⟩=some (.int .i64 (l.getD i CC).2.2.1)∧w.cell? ⟨b,off+i*4+3,none⟩=some (.int .i64 (l.getD i CC).2.2.2)
theorem Sols.below {w w':World} {A:Option Addr} {n:Nat} {l:List jW} {B:Nat} (h:Sols w A n l) (hb:Below B w w') (hB:w.heap.size≤B):Sols w' A n l:=
 ⟨h.len,h.le,fun hn=>by
  obtain ⟨b,off,e,hlt,hc⟩:=h.cells hn;have k:∀o,w'.cell? ⟨b,o,none⟩=w.cell? ⟨b,o,none⟩:=fun o=>hb.cell (p:=⟨b,o,none⟩) (apZ hlt hB);exact ⟨b,off,e,apZ hlt hb.size,fun i hi=>by rw [k,k,k,k];exact hc i hi⟩⟩
theorem Sols.at_ {w w':World} {A:Option Addr} {n:Nat} {l:List jW} {k:Nat} (h:Sols w A n l) (hk:k<n) (hb:Below w.heap.size w w'):∃b off a1 a2 a3 a4,A=some ⟨b,off,none⟩∧b<w.heap.size∧l.getD k CC=(a1,a2,a3,a4)∧
  w'.cell? ⟨b,off+k*4,none⟩=some (.int .i64 a1)∧w'.cell? ⟨b,off+k*4+1,none⟩=some (.int .i64 a2)∧w'.cell? ⟨b,off+k*4+2,none⟩=some (.int .i64 a3)∧w'.cell? ⟨b,off+k*4+3,none⟩=some (.int .i64 a4):=by
 obtain ⟨b,off,e,hlt,hc⟩:=h.cells (by omega);have q:∀o,w'.cell? ⟨b,o,none⟩=w.cell? ⟨b,o,none⟩:=fun o=>hb.cell (p:=⟨b,o,none⟩) hlt;refine ⟨b,off,_,_,_,_,e,hlt,rfl,?_⟩;rw [q,q,q,q];exact hc k hk
theorem uN {l:List jW} {k:Nat} (h:k<l.length):l.getD k CC∈l:=by
 rw [List.getD_eq_getElem?_getD,List.getElem?_eq_getElem h];exact List.getElem_mem _
def PF (vS:jW→Bool) (l:List jW) (w:World) (e:Ending) (w':World):Prop:=(∃r:Int,e=.returned (.int .i64 r)∧decide (0≤r)=l.any (fun s=> !vS s)∧-1≤r∧r<9223372036854775807)∧Below w.heap.size w w'
theorem index_50 {vS:jW→Bool} (hv:∀a b c d:Int,aH aaZ 54 [.agg #[.int .i64 a,.int .i64 b,.int .i64 c,.int .i64 d]] (.bool (!vS (a,b,c,d))))
  (A:Option Addr) (n c:Nat) (l:List jW) (w:World) (hg:eJ w) (h:Sols w A n l):
  Calls aaZ 93 #[.slice A n c,.func (.func 54) #[] #[]] w (PF vS l w):=by
 have hn:=h.le;have HS:=aaX h;have HL:=aaX h.len;have HV:=aaX hv;have HG:=aaX hg;clear h hv hg;go_enter Tryz.func93,Tryz.ntmps93;go_wp2;go_loopw [8] (fun i wr=>∃k:Nat,k≤n∧i=.int .i64 k∧(∀j,j<k→vS (l.getD j CC)=true)∧Below w.heap.size w wr) (fun i _=>n-(intOf i).toNat)
 case atStart=>exact ⟨0,Nat.zero_le _,rfl,fun j hj=>absurd hj (by omega),aeX _ _⟩
 case round=>
  obtain ⟨k,hk,rfl,hno,hbel⟩:=hrel;have HN:=aaX hno;have HB:=aaX hbel;clear hno;by_cases hlt:k<n
  ·obtain ⟨b,off,a1,a2,a3,a4,rfl,hb,hy,d0,d1,d2,d3⟩:=HS.out.at_ hlt hbel;have HY:=aaX hy;clear hbel hy;go_wp2_with fail
   refine (at1 (HV.out a1 a2 a3 a4) (HG.out.below HB.out)).mono ?_;rintro e w1 ⟨rfl,hb1⟩;have HB1:=aaX (HB.out.trans (hb1.mono HB.out.size));clear hb1;cases hs:vS (a1,a2,a3,a4) with
   | false=>
    have HF:=aaX (show PF vS l w (.returned (.int .i64 (k:Int))) w1 from ⟨⟨k,rfl,by
     rw [decide_eq_true (by omega)];exact (List.any_eq_true.2 ⟨_,uN (l:=l) (k:=k) (by rw [HL.out];exact hlt),by rw [HY.out,hs];rfl⟩).symm,by omega,by omega⟩,HB1.out⟩)
    clear hs;go_wp2;go_ret;exact HF.out
   | true=>
    have HST:=aaX (show ∀j,j<k+1→vS (l.getD j CC)=true from fun j hj=>by
     by_cases e:j=k
     ·rw [e,HY.out];exact hs
     ·exact HN.out j (by omega))
    clear hs;go_wp2;go_roundw
    case rel=>exact ⟨k+1,by omega,by go_num,HST.out,HB1.out⟩
    case measure=>simp [intOf];omega
  ·have hno:l.any (fun s=> !vS s)=false:=by
    rw [List.any_eq_false];intro x hx;obtain ⟨i,hi,he⟩:=List.getElem_of_mem hx;have:=HN.out i (by have:=HL.out;omega);rw [List.getD_eq_getElem?_getD,List.getElem?_eq_getElem hi] at this;simp only [Option.getD_some,he] at this;rw [this];simp
   have HF:=aaX (show PF vS l w (.returned (.int .i64 (-1:Int))) wr from ⟨⟨-1,rfl,by rw [hno];rfl,by omega,by omega⟩,hbel⟩);clear hno hbel;go_wp2;go_ret;exact HF.out
theorem DK {vS:jW→Bool} (hv:∀a b c d:Int,aH aaZ 54 [.agg #[.int .i64 a,.int .i64 b,.int .i64 c,.int .i64 d]] (.bool (!vS (a,b,c,d))))
  (A:Option Addr) (n c:Nat) (l:List jW) (w:World) (hg:eJ w) (h:Sols w A n l):
  Calls aaZ 53 #[.slice A n c,.func (.func 54) #[] #[]] w fun e w'=>e=.returned (.bool (l.any fun s=> !vS s))∧Below w.heap.size w w':=by
 have HI:=aaX (index_50 hv A n c l w hg h);clear h hv hg;go_enter Tryz.func53,Tryz.ntmps53;go_wp2_with fail
 refine HI.out.mono ?_;rintro e w' ⟨⟨r,rfl,hr,_,_⟩,hb⟩;have HR:=aaX hr;have HB:=aaX hb;clear hr hb;go_wp2;go_ret;rw [←HR.out];exact ⟨rfl,HB.out⟩
def flatA (l:List (Int×Int)):List Value:=l.flatMap fun p=>[.int .i64 p.1,.int .i64 p.2]
theorem flatA_snoc (l:List (Int×Int)) (p:Int×Int):flatA (l++[p])=flatA l++[.int .i64 p.1,.int .i64 p.2]:=by simp [flatA]
theorem LW {w w1:World} {x y:Value} {t:TypeId} {B b:Nat} (hb:Below B w w1) (hB:b<B) (h:w.heap[b]? =some (.cells #[x,y] t (0,0))):
  (w1.cell? ⟨b,0,none⟩=some x∧w1.cell? ⟨b,1,none⟩=some y)∧w1.frozen? ⟨b,0,none⟩=false∧w1.frozen? ⟨b,1,none⟩=false:=by
 have h1:w1.heap[b]? =some (.cells #[x,y] t (0,0)):=(hb.block b hB).trans h;refine ⟨⟨?_,?_⟩,?_,?_⟩
 ·rw [cell_of_row w1 b 0 _ _ _ h1];rfl
 ·rw [cell_of_row w1 b 1 _ _ _ h1];rfl
 ·simp [World.frozen?,h1]
 ·simp [World.frozen?,h1]
theorem arc_info:(aaZ.info? 23).map (fun i=>(i.zero,i.size,i.bytes))=some (some (.agg #[.int .i64 0,.int .i64 0]),2,16):=by kernel_rfl
theorem dir_boxes (w:World) (a b c d:Int):let W:=(((w.alloc (.cells ⟨[.int .i64 a,.int .i64 b]⟩ 23)).alloc (.cells ⟨[.int .i64 c,.int .i64 d]⟩ 23)).alloc (.cells #[.int .i64 0,.int .i64 0] 23))
  W.heap[w.heap.size]? =some (.cells #[.int .i64 a,.int .i64 b] 23 (0,0))∧W.heap[w.heap.size+ 1]? =some (.cells #[.int .i64 c,.int .i64 d] 23 (0,0))∧W.heap[w.heap.size+2]? =some (.cells #[.int .i64 0,.int .i64 0] 23 (0,0))∧W.heap.size=w.heap.size+3∧Below w.heap.size w W:=by
 refine ⟨?_,?_,?_,by simp,((((aeX _ _).alloc (aaJ _) _).alloc (by simp) _).alloc (by simp;omega) _)⟩
 ·rw [ahX _ _ _ (by simp;omega),ahX _ _ _ (by simp),heap_alloc_new]
 ·rw [ahX _ _ _ (by simp)];have:=heap_alloc_new (w.alloc (.cells ⟨[.int .i64 a,.int .i64 b]⟩ 23)) (.cells ⟨[.int .i64 c,.int .i64 d]⟩ 23);simpa using this
 ·have:=heap_alloc_new ((w.alloc (.cells ⟨[.int .i64 a,.int .i64 b]⟩ 23)).alloc (.cells ⟨[.int .i64 c,.int .i64 d]⟩ 23)) (.cells #[.int .i64 0,.int .i64 0] 23);simpa using this
theorem lI {w w':World} {B n e size:Nat} {v:Value} {xs:List Value} (h:w.ownsRow B e size v n xs) (hb:Below w.heap.size w w'):w'.ownsRow B e size v n xs:=
 h.kept (row:=none) ⟨hb.os,hb.tape,hb.output,hb.size,fun k hk _=>hb.block k hk⟩ (by cases v.ownBlock<;>simp)
theorem mW {P:Program} {e:TypeId} {z:Option Value} {s b:Nat} (h:(P.info? e).map (fun i=>(i.zero,i.size,i.bytes))=some (z,s,b)):∃i,P.info? e=some i∧i.zero=z∧i.size=s∧i.bytes=b:=by
 cases hi:P.info? e with
 | none=>rw [hi] at h;cases h
 | some i=>
  rw [hi] at h;simp only [Option.map_some,Option.some.injEq,Prod.mk.injEq] at h;exact ⟨i,rfl,h.1,h.2.1,h.2.2⟩
theorem two_new (w:World) (o:Obj) (x y:Int):∀j u,[Value.int .i64 x,.int .i64 y][j]? =some u→((w.alloc o).alloc (.cells #[.int .i64 x,.int .i64 y] 23)).cell? ((⟨w.heap.size+1,0,none⟩:Addr).add j)=some u:=by
 have hb:((w.alloc o).alloc (.cells #[.int .i64 x,.int .i64 y] 23)).heap[w.heap.size+ 1]? =some (.cells #[.int .i64 x,.int .i64 y] 23):=by
  have:=heap_alloc_new (w.alloc o) (.cells #[.int .i64 x,.int .i64 y] 23);simpa using this
 exact World.news_of_block hb
theorem sA {w:World} {B:Nat} {e:TypeId} {size n:Nat} {v:Value} {xs:List Value} (h:w.ownsRow B e size v n xs):∃A c,v=.slice A n c:=by
 rcases h.2 with ⟨rfl,rfl⟩ | ⟨g,cap,cur,rfl,_⟩
 ·exact ⟨_,_,rfl⟩
 ·exact ⟨_,_,rfl⟩
structure DirRel (a b c d:Int) (w0 wr:World) (B:Nat) (v6 v7:Value) (i:Nat):Prop where
 le:i≤3
 turn:v7=.int .i64 (-21600000+21600000*(i:Int))
 own:wr.ownsRow B 23 2 v6 (xB a b c d i).length (flatA (xB a b c d i))
 below:Below B w0 wr
theorem IM (hm:∀a b c d,aH aaZ 11 [aG a b,aG c d] (aP (cR a b c d))) (ht:∀a b,aH aaZ 95 [aG a b] (aP (dO a b))) (hq:aH aaZ 94 [] (aG 0 21600000))
  (heq:∀(a b c d:Int) (w:World),(Op.equalIn 10000 23 (.agg #[.int .i64 a,.int .i64 b]) (.agg #[.int .i64 c,.int .i64 d])).run aaZ w=.ok (a==c&&b==d) w)
  (a b c d:Int) (hv:aE a b=true) (hv':aE c d=true) (hb:-500000000000≤c∧d≤500000000000) (w:World) (hg:eJ w):Calls aaZ 56 #[aG a b,aG c d] w (GP (aP (fM a b c d)) w):=by
 have HM:=aaX hm;have HT:=aaX ht;have HQ:=aaX hq;have bd:=cG hv;have bd':=cG hv';have HV:=aaX hv;have HV':=aaX hv';have HG:=aaX hg;clear hm ht hq hv hv' hg;have HW:=aaX (dir_boxes w a b c d);have H0:=aaX (at0 HQ.out (HG.out.below HW.out.2.2.2.2));unfold aG;go_enter Tryz.func56,Tryz.ntmps56;go_wp2_with fail
 refine H0.out.mono ?_;rintro e w1 ⟨rfl,hb1⟩;obtain ⟨k1,k2,k3,k4,k5⟩:=HW.out;generalize (((w.alloc (.cells ⟨[.int .i64 a,.int .i64 b]⟩ 23)).alloc (.cells ⟨[.int .i64 c,.int .i64 d]⟩ 23)).alloc (.cells #[.int .i64 0,.int .i64 0] 23))=W at*;rw [k4] at hb1;have hs1:=hb1.size;rw [k4] at hs1;obtain ⟨⟨p0,p1⟩,f0,f1⟩:=LW hb1 (b:=w.heap.size) (by omega) k1;obtain ⟨⟨q0,q1⟩,g0,g1⟩:=LW hb1 (b:=w.heap.size+1) (by omega) k2;obtain ⟨⟨r0,r1⟩,l0,l1⟩:=LW hb1 (b:=w.heap.size+2) (by omega) k3;have HB1:=aaX hb1;have HK:=aaX (And.intro k1 (And.intro k2 (And.intro k3 (And.intro k4 k5))));clear k1 k2 k3 k4 k5 hb1 HW H0;unfold aG;by_cases h1:a=0∧b=21600000
 ·have e1:(0==a&&21600000==b)=true:=by simp [h1]
  have HF:=aaX (show ∀w',Below w.heap.size w w'→GP (aP (fM a b c d)) w (.returned (.tuple #[.agg #[.int .i64 c,.int .i64 d],.int .i64 0])) w' from fun w' hb=>⟨by unfold fM;rw [if_pos h1];rfl,hb⟩);have HB:=aaX (HK.out.2.2.2.2.trans (HB1.out.mono (by omega)));clear h1;go_wp2;refine bodyPost_ret (v:=.tuple #[.agg #[.int .i64 c,.int .i64 d],.int .i64 0]) (by simp [results,Tryz.results56,go_sem,r0,r1]) rfl (HF.out _ ?_);exact (HB.out.setCell (by simp;omega) _).setCell (by simp;omega) _
 have e1:(0==a&&21600000==b)=false:=by
  rw [Bool.and_eq_false_iff,beq_eq_false_iff_ne,beq_eq_false_iff_ne];omega
 by_cases h2:c=0∧d=21600000
 ·have e2:(0==c&&21600000==d)=true:=by simp [h2]
  have HF:=aaX (show ∀w',Below w.heap.size w w'→GP (aP (fM a b c d)) w (.returned (.tuple #[.agg #[.int .i64 a,.int .i64 b],.int .i64 0])) w' from fun w' hb=>⟨by unfold fM;rw [if_neg h1,if_pos h2];rfl,hb⟩);have HB:=aaX (HK.out.2.2.2.2.trans (HB1.out.mono (by omega)));clear h1 h2;go_wp2;refine bodyPost_ret (v:=.tuple #[.agg #[.int .i64 a,.int .i64 b],.int .i64 0]) (by simp [results,Tryz.results56,go_sem,r0,r1]) rfl (HF.out _ ?_);exact (HB.out.setCell (by simp;omega) _).setCell (by simp;omega) _
 have e2:(0==c&&21600000==d)=false:=by
  rw [Bool.and_eq_false_iff,beq_eq_false_iff_ne,beq_eq_false_iff_ne];omega
 have HD:=aaX (show fM a b c d=dirF a b c d (xB a b c d 3) by unfold fM;rw [if_neg h1,if_neg h2]);have HST:=aaX (show DirRel a b c d W w1 (w.heap.size+3) (.slice none 0 0) (.int .i64 (-21600000)) 0 from ⟨by omega,rfl,World.ownsRow_nil _ _ _ _,HB1.out⟩);clear h1 h2;go_wp2_with fail
 go_loopw [6,7] (fun v6 v7 wr=>∃i,DirRel a b c d W wr (w.heap.size+3) v6 v7 i) (fun _ v7 _=>(43200000-intOf v7).toNat)
 case atStart=>exact ⟨_,HST.out⟩
 case round=>
  clear HST p0 p1 f0 f1 q0 q1 g0 g1 r0 r1 l0 l1;obtain ⟨i,hi,rfl,hown,hbel⟩:=hrel;obtain ⟨k1,k2,k3,k4,k5⟩:=HK.out;have hsr:=hbel.size;rw [k4] at hsr;obtain ⟨⟨p0,p1⟩,f0,f1⟩:=LW hbel (b:=w.heap.size) (by omega) k1;obtain ⟨⟨q0,q1⟩,g0,g1⟩:=LW hbel (b:=w.heap.size+1) (by omega) k2;obtain ⟨⟨r0,r1⟩,l0,l1⟩:=LW hbel (b:=w.heap.size+2) (by omega) k3;have HB:=aaX hbel;have HO:=aaX hown;clear k1 k2 k3 k4 k5 hbel hown;by_cases hlt:i<3
  ·have HS:=aaX (dirL_succ a b c d i hlt);have hk:-21600000+21600000*(i:Int)≤21600000:=by omega
   have hk0:-21600000≤-21600000+21600000*(i:Int):=by omega
   have HI:=aaX (show -21600000+21600000*(i:Int)+21600000=-21600000+21600000*((i+1:Nat):Int) by omega);generalize -21600000+21600000*(i:Int)=k at*;have HC:=aaX (at2 (HM.out a b (c+k) (d+k)) (HG.out.below (HK.out.2.2.2.2.trans (HB.out.mono (by omega)))));unfold aG at HC;go_wp2_with fail
   refine HC.out.mono ?_;rintro e w2 ⟨rfl,hb2⟩;have hs2:=hb2.size;have HB2:=aaX (HB.out.trans (hb2.mono (by omega)));have HO2:=aaX (lI HO.out hb2);have av:aE (c+k) (d+k)=true:=by unfold aE;simp;omega
   obtain ⟨⟨p0',p1'⟩,f0',f1'⟩:=LW HB2.out (b:=w.heap.size) (by omega) HK.out.1;clear p0 p1 f0 f1 q0 q1 g0 g1 r0 r1 l0 l1 hb2;by_cases hx:mx a (c+k)>mn b (d+k)
   ·have hr:cR a b (c+k) (d+k)=(0,0,23):=by unfold cR;rw [if_pos ⟨HV.out,av⟩,if_pos hx]
    have hp:WE a b c d k=none:=by unfold WE;rw [if_pos hx]
    rw [hr];rw [hp] at HS;have HO3:=aaX (lI HO2.out ((aeX _ _).alloc (aaJ _) (.cells #[.int .i64 0,.int .i64 0] 23)));have HB3:=aaX (HB2.out.alloc (by omega) (.cells #[.int .i64 0,.int .i64 0] 23));have HST:=aaX (show DirRel a b c d W (w2.alloc (.cells #[.int .i64 0,.int .i64 0] 23)) (w.heap.size+3) u6 (.int .i64 (k+21600000)) (i+1) from ⟨hlt,by rw [HI.out],by rw [HS.out];simpa using HO3.out,HB3.out⟩);clear hr hp hx;unfold aP aG;go_wp2;go_roundw
    case rel=>exact ⟨_,HST.out⟩
    case measure=>simp [intOf];omega
   ·have hr:cR a b (c+k) (d+k)=(mx a (c+k),mn b (d+k),0):=by unfold cR;rw [if_pos ⟨HV.out,av⟩,if_neg hx]
    have hp:WE a b c d k=some (mx a (c+k),mn b (d+k)):=by unfold WE;rw [if_neg hx]
    rw [hr];rw [hp] at HS;generalize mx a (c+k)=x at*;generalize mn b (d+k)=y at*;have HO3:=aaX (lI HO2.out (((aeX _ _).alloc (aaJ _) (.cells #[.int .i64 x,.int .i64 y] 23)).alloc (by simp) (.cells #[.int .i64 x,.int .i64 y] 23)));have HB3:=aaX ((HB2.out.alloc (by omega) (.cells #[.int .i64 x,.int .i64 y] 23)).alloc (by simp;omega) (.cells #[.int .i64 x,.int .i64 y] 23));clear hr hp hx;obtain ⟨i0,hi,hz0,hz1,hz2⟩:=mW arc_info;unfold aP aG;go_wp2_with (at_builtin;refine wpList_append_own _ rfl (.tmp 39) (.tmp 41) 127 rfl (w.heap.size+3) 23 i0 (.agg #[.int .i64 0,.int .i64 0]) 2 16 Tryz.underlying127 hi hz0 hz1 hz2 rfl (by decide) u6 (xB a b c d i).length _ rfl HO3.out ⟨w2.heap.size+1,0,none⟩ 1 1 [.int .i64 x,.int .i64 y] rfl rfl ?c1 ?c2 ?c3 ?c4 ?c5 ?_)
    case c1=>exact two_new w2 _ x y
    case c2=>intro u hu;simp at hu;rcases hu with rfl | rfl<;>rfl
    case c3=>have:=IL a b c d i;unfold maxLen;omega
    case c4=>have:=IL a b c d i;omega
    case c5=>simp;omega
    intro v' w4 hown4 hg _;rw [←flatA_snoc _ (x,y)] at hown4;have HB4:=aaX (HB3.out.grown hg (by simp;omega) (fun q hq=>(HO3.out.lt q hq).1));have HST:=aaX (show DirRel a b c d W w4 (w.heap.size+3) v' (.int .i64 (k+21600000)) (i+1) from ⟨hlt,by rw [HI.out],by rw [HS.out];simpa using hown4,HB4.out⟩);clear hg hown4;go_wp2;go_roundw
    case rel=>exact ⟨_,HST.out⟩
    case measure=>simp [intOf];omega
  ·have hi3:i=3:=by omega
   subst hi3;have bz:=HB.out;cases hL:xB a b c d 3 with
   | nil=>
    rw [hL] at HO;obtain ⟨A,cp,rfl⟩:=sA HO.out;have HF:=aaX (show ∀w',Below w.heap.size w w'→GP (aP (fM a b c d)) w (.returned (.tuple #[.agg #[.int .i64 0,.int .i64 0],.int .i64 23])) w' from fun w' hb=>⟨by rw [HD.out,hL];rfl,hb⟩);have HBB:=aaX (HK.out.2.2.2.2.trans (HB.out.mono (by omega)));clear hL bz;go_wp2;refine bodyPost_ret (v:=.tuple #[.agg #[.int .i64 0,.int .i64 0],.int .i64 23]) (by simp [results,Tryz.results56,go_sem,r0,r1]) rfl (HF.out _ ?_);exact (HBB.out.setCell (by simp;omega) _).setCell (by simp;omega) _
   | cons p L=>
    cases L with
    | nil=>
     rw [hL] at HO;obtain ⟨g,cp,rfl,hg1,hg2⟩:=HO.out.form (by simp);have cg:=HO.out.cells (g:=g) rfl;have x0:=cg 0 (.int .i64 p.1) rfl;have x1:=cg 1 (.int .i64 p.2) rfl;have HD':=aaX (show fM a b c d=dO p.1 p.2 by rw [HD.out,hL];rfl);have HBB:=aaX (HK.out.2.2.2.2.trans (HB.out.mono (by omega)));obtain ⟨x,y⟩:=p;have HC:=aaX (at1 (HT.out x y) (HG.out.below HBB.out));simp only [Addr.add] at x0 x1;simp at x0 x1;unfold aG at HC;clear hL bz cg;go_wp2_with fail
     refine HC.out.mono ?_;rintro e w2 ⟨rfl,hb2⟩;have HB2:=aaX (HB.out.trans (hb2.mono (by omega)));have hs2:=hb2.size;obtain ⟨⟨r0,r1⟩,l0,l1⟩:=LW HB2.out (b:=w.heap.size+2) (by omega) HK.out.2.2.1;have HBB:=aaX (HK.out.2.2.2.2.trans (HB2.out.mono (by omega)));have HF:=aaX (show ∀w',Below w.heap.size w w'→GP (aP (fM a b c d)) w (.returned (.tuple #[.agg #[.int .i64 (dO x y).1,.int .i64 (dO x y).2.1],.int .i64 (dO x y).2.2])) w' from fun w' hb=>⟨by rw [HD'.out];rfl,hb⟩);clear hb2 HC;unfold aP aG;go_wp2;refine bodyPost_ret (v:=.tuple #[.agg #[.int .i64 (dO x y).1,.int .i64 (dO x y).2.1],.int .i64 (dO x y).2.2]) (by simp [results,Tryz.results56,go_sem,r0,r1]) rfl (HF.out _ ?_);exact (HBB.out.setCell (by simp;omega) _).setCell (by simp;omega) _
    | cons q L=>
     rw [hL] at HO;obtain ⟨A,cp,rfl⟩:=sA HO.out;have hN:2≤(p::q::L).length:=by simp
     have hN3:(p::q::L).length≤3:=by rw [←hL];exact IL a b c d 3
     have HD':=aaX (show fM a b c d=if d-c<b-a then (c,d,0) else (a,b,0) by rw [HD.out,hL];rfl);have HBB:=aaX (HK.out.2.2.2.2.trans (HB.out.mono (by omega)));clear HO hL bz;generalize (p::q::L).length=N at*;have e3:((N:Int)==0)=false:=beq_eq_false_iff_ne.2 (by omega);have e4:((N:Int)==1)=false:=beq_eq_false_iff_ne.2 (by omega);have e5:IntKind.i64.wrap (d-c)=d-c:=IntWalk.i64_in _ (by omega);have e6:IntKind.i64.wrap (b-a)=b-a:=IntWalk.i64_in _ (by omega);by_cases hw:d-c<b-a
     ·rw [if_pos hw] at HD';have HF:=aaX (show ∀w',Below w.heap.size w w'→GP (aP (fM a b c d)) w (.returned (.tuple #[.agg #[.int .i64 c,.int .i64 d],.int .i64 0])) w' from fun w' hb=>⟨by rw [HD'.out];rfl,hb⟩);go_wp2;refine bodyPost_ret (v:=.tuple #[.agg #[.int .i64 c,.int .i64 d],.int .i64 0]) (by simp [results,Tryz.results56,go_sem,r0,r1]) rfl (HF.out _ ?_);exact (HBB.out.setCell (by simp;omega) _).setCell (by simp;omega) _
     ·rw [if_neg hw] at HD';have HF:=aaX (show ∀w',Below w.heap.size w w'→GP (aP (fM a b c d)) w (.returned (.tuple #[.agg #[.int .i64 a,.int .i64 b],.int .i64 0])) w' from fun w' hb=>⟨by rw [HD'.out];rfl,hb⟩);go_wp2;refine bodyPost_ret (v:=.tuple #[.agg #[.int .i64 a,.int .i64 b],.int .i64 0]) (by simp [results,Tryz.results56,go_sem,r0,r1]) rfl (HF.out _ ?_);exact (HBB.out.setCell (by simp;omega) _).setCell (by simp;omega) _
def Bk (w:World) (b:Nat) (s:jW):Prop:=w.heap[b]? =some (.cells #[.int .i64 s.1,.int .i64 s.2.1,.int .i64 s.2.2.1,.int .i64 s.2.2.2] 29 (0,0))
theorem Bk.lt {w:World} {b:Nat} {s:jW} (h:Bk w b s):b<w.heap.size:=(Array.getElem?_eq_some_iff.1 h).1
theorem Bk.below {w w':World} {b B:Nat} {s:jW} (h:Bk w b s) (hb:Below B w w') (hB:b<B):Bk w' b s:=(hb.block b hB).trans h
theorem Bk.next {w w':World} {b:Nat} {s:jW} (h:Bk w b s) (hb:Below w.heap.size w w'):Bk w' b s:=h.below hb h.lt
theorem Bk.new (w:World) (s:jW):Bk (w.alloc (.cells #[.int .i64 s.1,.int .i64 s.2.1,.int .i64 s.2.2.1,.int .i64 s.2.2.2] 29)) w.heap.size s:=heap_alloc_new w _
theorem Bk.write {w:World} {b:Nat} {s:jW} (h:Bk w b s) (v:jW):
  Bk ((((w.setCell ⟨b,0,none⟩ (.int .i64 v.1)).setCell ⟨b,1,none⟩ (.int .i64 v.2.1)).setCell ⟨b,2,none⟩ (.int .i64 v.2.2.1)).setCell ⟨b,3,none⟩ (.int .i64 v.2.2.2)) b v:=by
 unfold Bk at*;simp [ayQ,h,Array.getElem?_modify]
theorem Bk.other {w:World} {b b':Nat} {s:jW} (h:Bk w b s) (hb:b≠b') (v0 v1 v2 v3:Value):
  Bk ((((w.setCell ⟨b',0,none⟩ v0).setCell ⟨b',1,none⟩ v1).setCell ⟨b',2,none⟩ v2).setCell ⟨b',3,none⟩ v3) b s:=by
 unfold Bk at*;have hb':b'≠b:=fun e=>hb e.symm;simp [ayQ,h,Array.getElem?_modify,hb']
theorem Bk.keep {w:World} {b:Nat} {s:jW} (h:Bk w b s):
  (w.cell? ⟨b,0,none⟩=some (.int .i64 s.1)∧w.cell? ⟨b,1,none⟩=some (.int .i64 s.2.1)∧w.cell? ⟨b,2,none⟩=some (.int .i64 s.2.2.1)∧w.cell? ⟨b,3,none⟩=some (.int .i64 s.2.2.2))∧
  w.frozen? ⟨b,0,none⟩=false∧w.frozen? ⟨b,1,none⟩=false∧w.frozen? ⟨b,2,none⟩=false∧w.frozen? ⟨b,3,none⟩=false:=by
 unfold Bk at h;refine ⟨⟨?_,?_,?_,?_⟩,?_,?_,?_,?_⟩<;>simp [World.cell?,World.frozen?,h]
theorem Below.set4 {B:Nat} {a w:World} (h:Below B a w) {b:Nat} (hb:B≤b) (v0 v1 v2 v3:Value):Below B a ((((w.setCell ⟨b,0,none⟩ v0).setCell ⟨b,1,none⟩ v1).setCell ⟨b,2,none⟩ v2).setCell ⟨b,3,none⟩ v3):=
 (((h.setCell (by simpa using hb) _).setCell (by simpa using hb) _).setCell (by simpa using hb) _).setCell (by simpa using hb) _
theorem meet_early (A:Option Addr) (n c:Nat) (l:List jW) (w:World) (h:Sols w A n l) (hn:n=0∨1000<n):
  Calls aaZ 18 #[.slice A n c] w (GP (cU (iM l)) w):=by
 have HL:=aaX h.len;have hle:=h.le;have HBB:=aaX ((aeX w.heap.size w).alloc (aaJ _) (.cells #[.int .i64 0,.int .i64 0,.int .i64 0,.int .i64 0] 29));have HK:=(Bk.new w (0,0,0,0)).keep;dsimp only at HK;obtain ⟨⟨r0,r1,r2,r3⟩,l0,l1,l2,l3⟩:=HK;clear h;rcases hn with hn | hn
 ·subst hn;have HF:=aaX (show ∀w',Below w.heap.size w w'→GP (cU (iM l)) w (.returned (.tuple #[.agg #[.int .i64 0,.int .i64 0,.int .i64 0,.int .i64 0],.int .i64 14])) w' from fun w' hb=>⟨by
   have:l=[]:=List.eq_nil_of_length_eq_zero HL.out;rw [this];rfl,hb⟩)
  go_enter Tryz.func18,Tryz.ntmps18;go_wp2;refine bodyPost_ret (v:=.tuple #[.agg #[.int .i64 0,.int .i64 0,.int .i64 0,.int .i64 0],.int .i64 14]) (by simp [results,Tryz.results18,go_sem]) rfl (HF.out _ ?_);exact HBB.out
 ·have e1:((n:Int)==0)=false:=beq_eq_false_iff_ne.2 (by omega);have e2:(1000:Int)<(n:Int):=by omega
  have HF:=aaX (show ∀w',Below w.heap.size w w'→GP (cU (iM l)) w (.returned (.tuple #[.agg #[.int .i64 0,.int .i64 0,.int .i64 0,.int .i64 0],.int .i64 4])) w' from fun w' hb=>⟨by
   have:=HL.out;cases l with
   | nil=>simp at this;omega
   | cons s r=>rw [meetR_many (by omega)];rfl,hb⟩)
  go_enter Tryz.func18,Tryz.ntmps18;go_wp2;refine bodyPost_ret (v:=.tuple #[.agg #[.int .i64 0,.int .i64 0,.int .i64 0,.int .i64 0],.int .i64 4]) (by simp [results,Tryz.results18,go_sem]) rfl (HF.out _ ?_);exact HBB.out
theorem Sols.tail {w:World} {A:Option Addr} {n c:Nat} {l:List jW} (h:Sols w A n l) (hn:0<n) (hc:n≤c):Sols w (if c=1 then A else A.map (·.add 4)) (n-1) (l.drop 1):=by
 refine ⟨by rw [List.length_drop,h.len],by have:=h.le;omega,fun h1=>?_⟩;obtain ⟨b,off,rfl,hb,hcell⟩:=h.cells hn;rw [if_neg (by omega)];refine ⟨b,off+4,by simp [Addr.add],hb,fun i hi=>?_⟩;have:=hcell (i+1) (by omega);rw [show (l.drop 1).getD i CC=l.getD (i+1) CC by rw [List.getD_eq_getElem?_getD,List.getD_eq_getElem?_getD,List.getElem?_drop,Nat.add_comm]];rw [show off+4+i*4=off+(i+1)*4 by omega];exact this
structure MeetRel (l:List jW) (w wr:World) (Bo:Nat) (v:Value) (o:jW) (k:Nat):Prop where
 le:k+1≤l.length
 num:v=.int .i64 (k:Int)
 out:Bk wr Bo o
 res:Bk wr w.heap.size CC
 val:aE o.2.2.1 o.2.2.2=true
 eq:uY (l.getD 0 CC) (l.drop 1)=uY o (l.drop (k+1))
 below:Below w.heap.size w wr
theorem meet_main (hm:∀a b c d,aH aaZ 11 [aG a b,aG c d] (aP (cR a b c d))) (hf:∀a b c d:Int,aH aaZ 54 [.agg #[.int .i64 a,.int .i64 b,.int .i64 c,.int .i64 d]] (.bool (!jX (a,b,c,d))))
  (hd:∀a b c d,aE a b=true→aE c d=true→(-500000000000≤c∧d≤500000000000)→aH aaZ 56 [aG a b,aG c d] (aP (fM a b c d)))
  (htv:∀a b,aE a b=true→(dO a b).2.2=0→aE (dO a b).1 (dO a b).2.1=true)
  (A:Option Addr) (n c:Nat) (l:List jW) (w:World) (hg:eJ w) (h:Sols w A n l) (hc:n≤c) (_hc':c≤9223372036854775807) (h0:0<n) (h1:¬1000<n) (hc1:c≠1):
  Calls aaZ 18 #[.slice A n c] w (GP (cU (iM l)) w):=by
 have HL:=aaX h.len;have HS:=aaX h;have HM:=aaX hm;have HD:=aaX hd;have HTV:=aaX htv;have HB0:=aaX ((aeX w.heap.size w).alloc (aaJ _) (.cells #[.int .i64 0,.int .i64 0,.int .i64 0,.int .i64 0] 29));have HK0:=aaX (Bk.new w CC);have HG:=aaX hg;have HC:=aaX (DK hf A n c l _ (hg.below HB0.out) (h.below HB0.out (aaJ _)));have e1:((n:Int)==0)=false:=beq_eq_false_iff_ne.2 (by omega);have e2:¬(1000:Int)<(n:Int):=by omega
 clear h hm hd htv hf hg;go_enter Tryz.func18,Tryz.ntmps18;go_wp2_with fail
 refine HC.out.mono ?_;rintro e w1 ⟨rfl,hb1⟩;have HB1:=aaX (HB0.out.trans (hb1.mono (by simp)));have HK1:=aaX (HK0.out.next hb1);have hs1:=hb1.size;simp at hs1;clear hb1;cases hA:l.any (fun s=> !jX s) with
 | true=>
  have HF:=aaX (show ∀w',Below w.heap.size w w'→GP (cU (iM l)) w (.returned (.tuple #[.agg #[.int .i64 0,.int .i64 0,.int .i64 0,.int .i64 0],.int .i64 1])) w' from fun w' hb=>⟨by
   have:=HL.out;cases l with
   | nil=>simp at this;omega
   | cons s r=>rw [OC (by omega) hA];rfl,hb⟩)
  obtain ⟨⟨r0,r1,r2,r3⟩,l0,l1,l2,l3⟩:=HK1.out.keep;clear hA;go_wp2;refine bodyPost_ret (v:=.tuple #[.agg #[.int .i64 0,.int .i64 0,.int .i64 0,.int .i64 0],.int .i64 1]) (by simp [results,Tryz.results18,go_sem,r0,r1,r2,r3]) rfl (HF.out _ ?_);exact Below.set4 HB1.out (aaJ _) _ _ _ _
 | false=>
  have HV:=aaX (show ∀s∈l,jX s=true from fun s hs=>by
   rw [List.any_eq_false] at hA;have:=hA s hs;simpa using this)
  have HR:=aaX (show iM l=match uY (l.getD 0 CC) (l.drop 1) with
   | none=>(0,0,0,0,23)
   | some x=>(x.1,x.2.1,x.2.2.1,x.2.2.2,0) by
   have:=HL.out;cases l with
   | nil=>simp at this;omega
   | cons s r=>rw [JS (by omega) hA];rfl)
  obtain ⟨b,off,a1,a2,a3,a4,rfl,hb,hy,d0,d1,d2,d3⟩:=HS.out.at_ h0 HB1.out;have HY:=aaX hy;have HT:=aaX (HS.out.tail h0 hc);clear hA hy;simp only [Nat.zero_mul,avJ] at d0 d1 d2 d3;have HO1:=aaX (show Bk (w1.alloc (.cells #[.int .i64 a1,.int .i64 a2,.int .i64 a3,.int .i64 a4] 29)) w1.heap.size (a1,a2,a3,a4) from Bk.new w1 (a1,a2,a3,a4));have HK2:=aaX (HK1.out.next ((aeX _ _).alloc (aaJ _) (.cells #[.int .i64 a1,.int .i64 a2,.int .i64 a3,.int .i64 a4] 29)));have HB2:=aaX (HB1.out.alloc (by omega) (.cells #[.int .i64 a1,.int .i64 a2,.int .i64 a3,.int .i64 a4] 29));have hv0:=(jV (HV.out _ (uN (l:=l) (k:=0) (by rw [HL.out];exact h0)))).2.1;rw [HY.out] at hv0;have HST:=aaX (show MeetRel l w (w1.alloc (.cells #[.int .i64 a1,.int .i64 a2,.int .i64 a3,.int .i64 a4] 29)) w1.heap.size (.int .i64 0) (a1,a2,a3,a4) 0 from ⟨by rw [HL.out];omega,rfl,HO1.out,HK2.out,hv0,by rw [HY.out],HB2.out⟩);go_wp2_with fail
  obtain ⟨m,hm⟩:∃m,n-1=m:=⟨_,rfl⟩;rw [hm];clear hv0 HO1 HK2 HB2;go_loopw [31] (fun v wr=>∃k o,MeetRel l w wr w1.heap.size v o k) (fun v _=>m-(intOf v).toNat)
  case atStart=>exact ⟨_,_,HST.out⟩
  case round=>
   clear HST d0 d1 d2 d3;obtain ⟨k,o,hk,rfl,hout,hres,hval,heq,hbel⟩:=hrel;rw [HL.out] at hk;have HB:=aaX hbel;have HRS:=aaX hres;have HOU:=aaX hout;have HVL:=aaX hval;have HE:=aaX heq;have hsr:=hbel.size;have hol:=hout.lt;clear hres hout hval heq;by_cases hlt:k<m
   ·obtain ⟨b',off',x1,x2,x3,x4,hbo,hb',hy',d0,d1,d2,d3⟩:=HS.out.at_ (k:=k+1) (by omega) hbel;injection hbo with hbo;injection hbo with hbo1 hbo2;subst hbo1 hbo2;rw [show off+(k+1)*4=off+4+k*4 by omega] at d0 d1 d2 d3;have HY':=aaX hy';have hvx:=HV.out _ (uN (l:=l) (k:=k+1) (by rw [HL.out];omega));rw [hy'] at hvx;have HVX:=aaX hvx;obtain ⟨o1,o2,o3,o4⟩:=o;have HX1:=aaX (show Bk (wr.alloc (.cells #[.int .i64 x1,.int .i64 x2,.int .i64 x3,.int .i64 x4] 29)) wr.heap.size (x1,x2,x3,x4) from Bk.new wr (x1,x2,x3,x4));have HA1:=aaX ((aeX wr.heap.size wr).alloc (aaJ _) (.cells #[.int .i64 x1,.int .i64 x2,.int .i64 x3,.int .i64 x4] 29));have HC1:=aaX (at2 (HM.out o1 o2 x1 x2) (HG.out.below (HB.out.trans (HA1.out.mono hsr))));obtain ⟨⟨p0,p1,p2,p3⟩,f0,f1,f2,f3⟩:=HOU.out.keep;clear hbel hy' hvx;unfold aG at HC1;go_wp2_with fail
    refine HC1.out.mono ?_;rintro e w2 ⟨rfl,hb2⟩;obtain ⟨h1',h2',he',hh⟩:∃h1 h2 he,cR o1 o2 x1 x2=(h1,h2,he):=⟨_,_,_,rfl⟩;have HH:=aaX hh;rw [hh];have HA3:=aaX ((HA1.out.trans (hb2.mono (by simp))).alloc (ahJ (by simp) hb2.size) (.cells #[.int .i64 h1',.int .i64 h2'] 23));have hs3:=HA3.out.size;have hs2:=hb2.size;simp at hs2 hs3;have HX3:=aaX ((HX1.out.next hb2).next ((aeX _ _).alloc (aaJ _) (.cells #[.int .i64 h1',.int .i64 h2'] 23)));have hAr:(w2.alloc (.cells #[.int .i64 h1',.int .i64 h2'] 23)).heap[w2.heap.size]? =some (.cells #[.int .i64 h1',.int .i64 h2'] 23 (0,0)):=heap_alloc_new w2 _;have HAr:=aaX hAr;have HC3:=aaX (at2 (HD.out o3 o4 x3 x4 HVL.out (jV HVX.out).2.1 (by have:=jV HVX.out;dsimp only at this;omega)) (HG.out.below (HB.out.trans (HA3.out.mono hsr))));obtain ⟨⟨p0,p1,p2,p3⟩,f0,f1,f2,f3⟩:=(HOU.out.next HA3.out).keep;obtain ⟨⟨q0,q1,q2,q3⟩,g0,g1,g2,g3⟩:=HX3.out.keep;clear hb2 hh hAr HC1;unfold aG at HC3;unfold aP aG;go_wp2_with fail
    refine HC3.out.mono ?_;rintro e w4 ⟨rfl,hb4⟩;obtain ⟨z1,z2,ze,hz⟩:∃z1 z2 ze,fM o3 o4 x3 x4=(z1,z2,ze):=⟨_,_,_,rfl⟩;have HZ:=aaX hz;rw [hz];have hs4:=hb4.size;simp at hs4;have HA5:=aaX ((HA3.out.trans (hb4.mono (by simp;omega))).alloc (by omega) (.cells #[.int .i64 z1,.int .i64 z2] 23));have HAZ:=aaX (show (w4.alloc (.cells #[.int .i64 z1,.int .i64 z2] 23)).heap[w4.heap.size]? =some (.cells #[.int .i64 z1,.int .i64 z2] 23 (0,0)) from heap_alloc_new w4 _);have HAR5:=aaX (show (w4.alloc (.cells #[.int .i64 z1,.int .i64 z2] 23)).heap[w2.heap.size]? =some (.cells #[.int .i64 h1',.int .i64 h2'] 23 (0,0)) from ((hb4.alloc (by simp;omega) (.cells #[.int .i64 z1,.int .i64 z2] 23)).block _ (by simp)).trans HAr.out);have HOU5:=aaX (HOU.out.next HA5.out);have HRS5:=aaX (HRS.out.next HA5.out);have HB5:=aaX (HB.out.trans (HA5.out.mono (by omega)));clear hb4 hz HC3 p0 p1 p2 p3 f0 f1 f2 f3 q0 q1 q2 q3 g0 g1 g2 g3 d0 d1 d2 d3;obtain ⟨⟨p0,p1⟩,f0,f1⟩:=LW (aeX (w4.heap.size+1) _) (b:=w4.heap.size) (by omega) HAZ.out;obtain ⟨⟨q0,q1⟩,g0,g1⟩:=LW (aeX (w4.heap.size+1) _) (b:=w2.heap.size) (by omega) HAR5.out;have HDR:=aaX (show l.drop (k+1)=(x1,x2,x3,x4)::l.drop (k+2) by
     rw [List.drop_eq_getElem_cons (by rw [HL.out];omega)];congr 1;have:=HY'.out;rw [List.getD_eq_getElem?_getD,List.getElem?_eq_getElem (by rw [HL.out];omega)] at this;exact this)
    by_cases hok:he'=0∧ze=0
    ·obtain ⟨rfl,rfl⟩:=hok;have hmo:AL (o1,o2,o3,o4) (x1,x2,x3,x4)=some (h1',h2',z1,z2):=by
      unfold AL;dsimp only;rw [HH.out,HZ.out];rfl
     have HST:=aaX (show ∀wf,Bk wf w1.heap.size (h1',h2',z1,z2)→Bk wf w.heap.size CC→Below w.heap.size w wf→MeetRel l w wf w1.heap.size (.int .i64 ((k:Int)+1)) (h1',h2',z1,z2) (k+1) from fun wf i1 i2 i3=>⟨by rw [HL.out];omega,rfl,i1,i2,YL HTV.out HVL.out HVX.out hmo,by rw [HE.out,HDR.out];simp only [uY];rw [hmo],i3⟩);obtain ⟨⟨r0,r1,r2,r3⟩,l0,l1,l2,l3⟩:=HOU5.out.keep;have HF1:=aaX (HOU5.out.write (h1',h2',z1,z2));have HF2:=aaX (HRS5.out.other (b':=w1.heap.size) (by omega) (.int .i64 h1') (.int .i64 h2') (.int .i64 z1) (.int .i64 z2));have HF3:=aaX (Below.set4 HB5.out (b:=w1.heap.size) (by omega) (.int .i64 h1') (.int .i64 h2') (.int .i64 z1) (.int .i64 z2));clear hmo;unfold aP aG;go_wp2;go_roundw
     case rel=>exact ⟨_,_,HST.out _ HF1.out HF2.out HF3.out⟩
     case measure=>simp [intOf];omega
    ·have hmo:AL (o1,o2,o3,o4) (x1,x2,x3,x4)=none:=by
      unfold AL;dsimp only;rw [HH.out,HZ.out];exact if_neg hok
     have HF:=aaX (show ∀w',Below w.heap.size w w'→GP (cU (iM l)) w (.returned (.tuple #[.agg #[.int .i64 0,.int .i64 0,.int .i64 0,.int .i64 0],.int .i64 23])) w' from fun w' hb=>⟨by
      rw [HR.out,HE.out,HDR.out];simp only [uY];rw [hmo];rfl,hb⟩)
     obtain ⟨⟨r0,r1,r2,r3⟩,l0,l1,l2,l3⟩:=HRS5.out.keep;have hbn:(he' != 0||ze != 0)=true:=by
      by_cases e:he'=0
      ·have:ze≠0:=fun e2=>hok ⟨e,e2⟩;simp [e,this]
      ·simp [e]
     clear hmo;unfold aP aG;by_cases e:he'=0
     ·have hz0:(ze != 0)=true:=by simpa [e] using hbn
      subst e;clear hbn hok;go_wp2;refine bodyPost_ret (v:=.tuple #[.agg #[.int .i64 0,.int .i64 0,.int .i64 0,.int .i64 0],.int .i64 23]) (by simp [results,Tryz.results18,go_sem,r0,r1,r2,r3]) rfl (HF.out _ ?_);exact Below.set4 HB5.out (aaJ _) _ _ _ _
     ·have hz0:(he' != 0)=true:=by simpa using e
      clear hbn hok;go_wp2;refine bodyPost_ret (v:=.tuple #[.agg #[.int .i64 0,.int .i64 0,.int .i64 0,.int .i64 0],.int .i64 23]) (by simp [results,Tryz.results18,go_sem,r0,r1,r2,r3]) rfl (HF.out _ ?_);exact Below.set4 HB5.out (aaJ _) _ _ _ _
   ·have hkm:k=m:=by omega
    subst hkm;have HDR:=aaX (show l.drop (k+1)=[] from List.drop_eq_nil_of_le (by rw [HL.out];omega));obtain ⟨o1,o2,o3,o4⟩:=o;have HF:=aaX (show ∀w',Below w.heap.size w w'→GP (cU (iM l)) w (.returned (.tuple #[.agg #[.int .i64 o1,.int .i64 o2,.int .i64 o3,.int .i64 o4],.int .i64 0])) w' from fun w' hb=>⟨by
     rw [HR.out,HE.out,HDR.out];rfl,hb⟩)
    obtain ⟨⟨p0,p1,p2,p3⟩,f0,f1,f2,f3⟩:=HOU.out.keep;obtain ⟨⟨r0,r1,r2,r3⟩,l0,l1,l2,l3⟩:=HRS.out.keep;dsimp only at p0 p1 p2 p3;go_wp2;refine bodyPost_ret (v:=.tuple #[.agg #[.int .i64 o1,.int .i64 o2,.int .i64 o3,.int .i64 o4],.int .i64 0]) (by simp [results,Tryz.results18,go_sem,r0,r1,r2,r3]) rfl (HF.out _ ?_);exact Below.set4 HB.out (aaJ _) _ _ _ _
theorem meet_one (hm:∀a b c d,aH aaZ 11 [aG a b,aG c d] (aP (cR a b c d))) (hf:∀a b c d:Int,aH aaZ 54 [.agg #[.int .i64 a,.int .i64 b,.int .i64 c,.int .i64 d]] (.bool (!jX (a,b,c,d))))
  (hd:∀a b c d,aE a b=true→aE c d=true→(-500000000000≤c∧d≤500000000000)→aH aaZ 56 [aG a b,aG c d] (aP (fM a b c d)))
  (htv:∀a b,aE a b=true→(dO a b).2.2=0→aE (dO a b).1 (dO a b).2.1=true)
  (A:Option Addr) (l:List jW) (w:World) (hg:eJ w) (h:Sols w A 1 l):
  Calls aaZ 18 #[.slice A 1 1] w (GP (cU (iM l)) w):=by
 have HL:=aaX h.len;have HS:=aaX h;have HM:=aaX hm;have HD:=aaX hd;have HTV:=aaX htv;have HB0:=aaX ((aeX w.heap.size w).alloc (aaJ _) (.cells #[.int .i64 0,.int .i64 0,.int .i64 0,.int .i64 0] 29));have HK0:=aaX (Bk.new w CC);have HG:=aaX hg;have HC:=aaX (DK hf A 1 1 l _ (hg.below HB0.out) (h.below HB0.out (aaJ _)));have h0:0<1:=by omega
 have hc:1≤1:=by omega
 clear h hm hd htv hf hg;go_enter Tryz.func18,Tryz.ntmps18;go_wp2_with fail
 refine HC.out.mono ?_;rintro e w1 ⟨rfl,hb1⟩;have HB1:=aaX (HB0.out.trans (hb1.mono (by simp)));have HK1:=aaX (HK0.out.next hb1);have hs1:=hb1.size;simp at hs1;clear hb1;cases hA:l.any (fun s=> !jX s) with
 | true=>
  have HF:=aaX (show ∀w',Below w.heap.size w w'→GP (cU (iM l)) w (.returned (.tuple #[.agg #[.int .i64 0,.int .i64 0,.int .i64 0,.int .i64 0],.int .i64 1])) w' from fun w' hb=>⟨by
   have:=HL.out;cases l with
   | nil=>simp at this
   | cons s r=>rw [OC (by omega) hA];rfl,hb⟩)
  obtain ⟨⟨r0,r1,r2,r3⟩,l0,l1,l2,l3⟩:=HK1.out.keep;clear hA;go_wp2;refine bodyPost_ret (v:=.tuple #[.agg #[.int .i64 0,.int .i64 0,.int .i64 0,.int .i64 0],.int .i64 1]) (by simp [results,Tryz.results18,go_sem,r0,r1,r2,r3]) rfl (HF.out _ ?_);exact Below.set4 HB1.out (aaJ _) _ _ _ _
 | false=>
  have HV:=aaX (show ∀s∈l,jX s=true from fun s hs=>by
   rw [List.any_eq_false] at hA;have:=hA s hs;simpa using this)
  have HR:=aaX (show iM l=match uY (l.getD 0 CC) (l.drop 1) with
   | none=>(0,0,0,0,23)
   | some x=>(x.1,x.2.1,x.2.2.1,x.2.2.2,0) by
   have:=HL.out;cases l with
   | nil=>simp at this
   | cons s r=>rw [JS (by omega) hA];rfl)
  obtain ⟨b,off,a1,a2,a3,a4,rfl,hb,hy,d0,d1,d2,d3⟩:=HS.out.at_ h0 HB1.out;have HY:=aaX hy;have HT:=aaX (HS.out.tail h0 hc);clear hA hy;simp only [Nat.zero_mul,avJ] at d0 d1 d2 d3;have HO1:=aaX (show Bk (w1.alloc (.cells #[.int .i64 a1,.int .i64 a2,.int .i64 a3,.int .i64 a4] 29)) w1.heap.size (a1,a2,a3,a4) from Bk.new w1 (a1,a2,a3,a4));have HK2:=aaX (HK1.out.next ((aeX _ _).alloc (aaJ _) (.cells #[.int .i64 a1,.int .i64 a2,.int .i64 a3,.int .i64 a4] 29)));have HB2:=aaX (HB1.out.alloc (by omega) (.cells #[.int .i64 a1,.int .i64 a2,.int .i64 a3,.int .i64 a4] 29));have hv0:=(jV (HV.out _ (uN (l:=l) (k:=0) (by rw [HL.out];exact h0)))).2.1;rw [HY.out] at hv0;have HST:=aaX (show MeetRel l w (w1.alloc (.cells #[.int .i64 a1,.int .i64 a2,.int .i64 a3,.int .i64 a4] 29)) w1.heap.size (.int .i64 0) (a1,a2,a3,a4) 0 from ⟨by rw [HL.out];omega,rfl,HO1.out,HK2.out,hv0,by rw [HY.out],HB2.out⟩);go_wp2_with fail
  clear hv0 HO1 HK2 HB2;go_loopw [31] (fun v wr=>∃o,MeetRel l w wr w1.heap.size v o 0) (fun _ _=>0)
  case atStart=>exact ⟨_,HST.out⟩
  case round=>
   clear HST d0 d1 d2 d3;obtain ⟨o,hk,rfl,hout,hres,hval,heq,hbel⟩:=hrel;have HB:=aaX hbel;have HRS:=aaX hres;have HOU:=aaX hout;have HVL:=aaX hval;have HE:=aaX heq;have hsr:=hbel.size;have hol:=hout.lt;clear hres hout hval heq;have HDR:=aaX (show l.drop (0+1)=[] from List.drop_eq_nil_of_le (by rw [HL.out];omega));obtain ⟨o1,o2,o3,o4⟩:=o;have HF:=aaX (show ∀w',Below w.heap.size w w'→GP (cU (iM l)) w (.returned (.tuple #[.agg #[.int .i64 o1,.int .i64 o2,.int .i64 o3,.int .i64 o4],.int .i64 0])) w' from fun w' hb=>⟨by
    rw [HR.out,HE.out,HDR.out];rfl,hb⟩)
   obtain ⟨⟨p0,p1,p2,p3⟩,f0,f1,f2,f3⟩:=HOU.out.keep;obtain ⟨⟨r0,r1,r2,r3⟩,l0,l1,l2,l3⟩:=HRS.out.keep;dsimp only at p0 p1 p2 p3;go_wp2;refine bodyPost_ret (v:=.tuple #[.agg #[.int .i64 o1,.int .i64 o2,.int .i64 o3,.int .i64 o4],.int .i64 0]) (by simp [results,Tryz.results18,go_sem,r0,r1,r2,r3]) rfl (HF.out _ ?_);exact Below.set4 HB.out (aaJ _) _ _ _ _
theorem meet_any (hm:∀a b c d,aH aaZ 11 [aG a b,aG c d] (aP (cR a b c d))) (hf:∀a b c d:Int,aH aaZ 54 [.agg #[.int .i64 a,.int .i64 b,.int .i64 c,.int .i64 d]] (.bool (!jX (a,b,c,d))))
  (hd:∀a b c d,aE a b=true→aE c d=true→(-500000000000≤c∧d≤500000000000)→aH aaZ 56 [aG a b,aG c d] (aP (fM a b c d)))
  (htv:∀a b,aE a b=true→(dO a b).2.2=0→aE (dO a b).1 (dO a b).2.1=true)
  (A:Option Addr) (n c:Nat) (l:List jW) (w:World) (hg:eJ w) (h:Sols w A n l) (hc:n≤c) (hc':c≤9223372036854775807):
  Calls aaZ 18 #[.slice A n c] w (GP (cU (iM l)) w):=by
 by_cases h0:n=0∨1000<n
 ·exact meet_early A n c l w h h0
 ·by_cases h1:c=1
  ·have hn1:n=1:=by omega
   subst hn1 h1;exact meet_one hm hf hd htv A l w hg h
  ·exact meet_main hm hf hd htv A n c l w hg h hc hc' (by omega) (by omega) h1
def UF (w:World) (e:Ending) (w':World):Prop:=∃g,e=.returned (.slice (some ⟨g,0,none⟩) 5 5)∧w.heap.size≤g∧w'.heap[g]? =some (.cells #[.int .i64 1,.int .i64 2,.int .i64 3,.int .i64 4,.int .i64 5] 3 (0,0))∧Below w.heap.size w w'
theorem meth_any (w:World):Calls aaZ 22 #[] w (UF w):=by
 have HF:=aaX (show UF w (.returned (.slice (some ⟨w.heap.size,0,none⟩) 5 5)) (w.alloc (.cells #[.int .i64 1,.int .i64 2,.int .i64 3,.int .i64 4,.int .i64 5] 3)) from ⟨_,rfl,aaJ _,heap_alloc_new w _,(aeX _ _).alloc (aaJ _) _⟩);go_enter Tryz.func22,Tryz.ntmps22;go_wp2;go_ret;exact HF.out
def lP (l:List jW):List Value:=l.flatMap fun s=>[.int .i64 s.1,.int .i64 s.2.1,.int .i64 s.2.2.1,.int .i64 s.2.2.2]
theorem flatS_len (l:List jW):(lP l).length=l.length*4:=by
 induction l with
 | nil=>rfl
 | cons p l ih=>rw [lP,List.flatMap_cons,List.length_append];rw [lP] at ih;rw [ih];simp;omega
theorem flatS_snoc (l:List jW) (s:jW):lP (l++[s])=lP l++[.int .i64 s.1,.int .i64 s.2.1,.int .i64 s.2.2.1,.int .i64 s.2.2.2]:=by simp [lP]
theorem flatS_at (l:List jW):∀(i:Nat),i<l.length→(lP l)[i*4]? =some (.int .i64 (l.getD i CC).1)∧(lP l)[i*4+ 1]? =some (.int .i64 (l.getD i CC).2.1)∧(lP l)[i*4+2]? =some (.int .i64 (l.getD i CC).2.2.1)∧(lP l)[i*4+3]? =some (.int .i64 (l.getD i CC).2.2.2):=by
 induction l with
 | nil=>intro i h;exact absurd h (by simp)
 | cons s l ih=>
  intro i h;have e:lP (s::l)=.int .i64 s.1::.int .i64 s.2.1::.int .i64 s.2.2.1::.int .i64 s.2.2.2::lP l:=by simp [lP]
  rw [e];cases i with
  | zero=>simp
  | succ i=>
   have:=ih i (by simpa using h);rw [show (i+1)*4=i*4+1+1+1+1 by omega,show i*4+1+1+1+1+1=(i*4+1)+1+1+1+1 by omega,show i*4+1+1+1+1+2=(i*4+2)+1+1+1+1 by omega,show i*4+1+1+1+1+3=(i*4+3)+1+1+1+1 by omega];simpa using this
theorem sols_of {w:World} {B n:Nat} {A:Option Addr} {c:Nat} {l:List jW} (h:w.ownsRow B 29 4 (.slice A n c) n (lP l)) (hn:n≤9223372036854775807):Sols w A n l:=by
 have hl:l.length=n:=by have:=h.1;rw [flatS_len] at this;omega
 refine ⟨hl,hn,fun h0=>?_⟩;obtain ⟨g,cap,hv,_,hlt⟩:=h.form h0;injection hv with hA _ _;subst hA;refine ⟨g,0,rfl,hlt,fun i hi=>?_⟩;have cc:=h.cells (g:=g) rfl;obtain ⟨f0,f1,f2,f3⟩:=flatS_at l i (by omega);have ad:∀j,(⟨g,0,none⟩:Addr).add j=⟨g,0+j,none⟩:=fun j=>by unfold Addr.add;split<;>simp_all
 have e0:=cc _ _ f0;have e1:=cc _ _ f1;have e2:=cc _ _ f2;have e3:=cc _ _ f3;rw [ad] at e0 e1 e2 e3;exact ⟨e0,by rw [avZ];exact e1,by rw [avZ];exact e2,by rw [avZ];exact e3⟩
def pG (a b c d e f:Int):Value:=.agg ⟨[.int .i64 a,.int .i64 b,.int .i64 c,.int .i64 d,.int .i64 e,.int .i64 f]⟩
def FC (l:List jW) (w:World) (e:Ending) (w':World):Prop:=∃A c,e=.returned (.tuple #[.slice A l.length c,.int .i64 0])∧w'.ownsRow w.heap.size 29 4 (.slice A l.length c) l.length (lP l)∧Below w.heap.size w w'
def wJ (w:World) (e:Ending) (w':World):Prop:=e=.returned (.tuple #[.slice none 0 0,.int .i64 1])∧Below w.heap.size w w'
theorem ZT:(aaZ.info? 29).map (fun i=>(i.zero,i.size,i.bytes))=some (some (.agg #[.int .i64 0,.int .i64 0,.int .i64 0,.int .i64 0]),4,32):=by kernel_rfl
def Tk (w:World) (k:Nat) (a b c d e f:Int):Prop:=w.heap[k]? =some (.cells #[.int .i64 a,.int .i64 b,.int .i64 c,.int .i64 d,.int .i64 e,.int .i64 f] 25 (0,0))
theorem Tk.keep {w:World} {k:Nat} {a b c d e f:Int} (h:Tk w k a b c d e f):
  w.cell? ⟨k,0,none⟩=some (.int .i64 a)∧w.cell? ⟨k,1,none⟩=some (.int .i64 b)∧w.cell? ⟨k,2,none⟩=some (.int .i64 c)∧w.cell? ⟨k,3,none⟩=some (.int .i64 d)∧w.cell? ⟨k,4,none⟩=some (.int .i64 e)∧w.cell? ⟨k,5,none⟩=some (.int .i64 f):=by
 unfold Tk at h;refine ⟨?_,?_,?_,?_,?_,?_⟩<;>simp [World.cell?,h]
theorem Tk.lt {w:World} {k:Nat} {a b c d e f:Int} (h:Tk w k a b c d e f):k<w.heap.size:=(Array.getElem?_eq_some_iff.1 h).1
theorem Tk.below {w w':World} {k B:Nat} {a b c d e f:Int} (h:Tk w k a b c d e f) (hb:Below B w w') (hB:k<B):Tk w' k a b c d e f:=(hb.block k hB).trans h
theorem meth_at {w:World} {g:Nat} (h:w.heap[g]? =some (.cells #[.int .i64 1,.int .i64 2,.int .i64 3,.int .i64 4,.int .i64 5] 3 (0,0))) (i:Nat) (hi:i<5):w.cell? ⟨g,i,none⟩=some (.int .i64 ((i:Int)+1)):=by
 rw [cell_of_row w g i _ _ _ h];have:i=0∨i=1∨i=2∨i=3∨i=4:=by omega
 rcases this with rfl | rfl | rfl | rfl | rfl<;>rfl
theorem own_mono2 {w:World} {base base' e size n:Nat} {v:Value} {xs:List Value} (h:w.ownsRow base e size v n xs) (hb:base'≤base):w.ownsRow base' e size v n xs:=
 ⟨h.1,h.2.imp_right fun ⟨g,cap,cur,hv,hg,r⟩=>⟨g,cap,cur,hv,ahJ hb hg,r⟩⟩
theorem four_new (w:World) (o:Obj) (x1 x2 x3 x4:Int):∀j u,[Value.int .i64 x1,.int .i64 x2,.int .i64 x3,.int .i64 x4][j]? =some u→((w.alloc o).alloc (.cells #[.int .i64 x1,.int .i64 x2,.int .i64 x3,.int .i64 x4] 29)).cell? ((⟨w.heap.size+1,0,none⟩:Addr).add j)=some u:=by
 have hb:((w.alloc o).alloc (.cells #[.int .i64 x1,.int .i64 x2,.int .i64 x3,.int .i64 x4] 29)).heap[w.heap.size+ 1]? =some (.cells #[.int .i64 x1,.int .i64 x2,.int .i64 x3,.int .i64 x4] 29):=by
  have:=heap_alloc_new (w.alloc o) (.cells #[.int .i64 x1,.int .i64 x2,.int .i64 x3,.int .i64 x4] 29);simpa using this
 exact World.news_of_block hb
structure AllRel (by_:Int→Int×Int×Int×Int×Int) (W wr:World) (B:Nat) (v4 v14:Value) (i:Nat):Prop where
 le:i≤5
 num:v14=.int .i64 (i:Int)
 own:wr.ownsRow B 29 4 v4 (tQ by_ i).length (lP (tQ by_ i))
 below:Below B W wr
theorem all_yes {by_:Int→Int×Int×Int×Int×Int} {a b c d e f:Int} (hv:aH aaZ 21 [pG a b c d e f] (.bool true)) (hby:∀m,1≤m→m≤5→aH aaZ 23 [.int .i64 m,pG a b c d e f] (cU (by_ m))) (w:World) (hg:eJ w):
  Calls aaZ 9 #[pG a b c d e f] w (FC (tQ by_ 5) w):=by
 have HBY:=aaX hby;have HG:=aaX hg;have HB0:=aaX ((aeX w.heap.size w).alloc (aaJ _) (.cells ⟨[.int .i64 a,.int .i64 b,.int .i64 c,.int .i64 d,.int .i64 e,.int .i64 f]⟩ 25));have HK0:=aaX (show Tk (w.alloc (.cells ⟨[.int .i64 a,.int .i64 b,.int .i64 c,.int .i64 d,.int .i64 e,.int .i64 f]⟩ 25)) w.heap.size a b c d e f from heap_alloc_new w _);have HV:=aaX (at1 hv (hg.below HB0.out));clear hv hby hg;unfold pG at HV ⊢;obtain ⟨p0,p1,p2,p3,p4,p5⟩:=HK0.out.keep;go_enter Tryz.func9,Tryz.ntmps9;go_wp2_with fail
 refine HV.out.mono ?_;rintro e w1 ⟨rfl,hb1⟩;have HB1:=aaX (HB0.out.trans (hb1.mono (by simp)));have HK1:=aaX (HK0.out.below hb1 (by simp));clear hb1 p0 p1 p2 p3 p4 p5 HV;go_wp2_with fail
 refine (meth_any w1).mono ?_;rintro e w2 ⟨g,rfl,hg1,hm,hb2⟩;have hs1:=HB1.out.size;have hs2:=hb2.size;have hg2:g<w2.heap.size:=(Array.getElem?_eq_some_iff.1 hm).1;have HB2:=aaX (HB1.out.trans (hb2.mono hs1));have HK2:=aaX (HK1.out.below hb2 HK1.out.lt);have HM:=aaX hm;clear hb2 hm;have HST:=aaX (show AllRel by_ w2 w2 w2.heap.size (.slice none 0 0) (.int .i64 0) 0 from ⟨by omega,rfl,by simpa [tQ,lP] using World.ownsRow_nil w2 w2.heap.size 29 4,aeX _ _⟩);go_wp2_with fail
 go_loopw [4,14] (fun v4 v14 wr=>∃i,AllRel by_ w2 wr w2.heap.size v4 v14 i) (fun _ v _=>5-(intOf v).toNat)
 case atStart=>exact ⟨_,HST.out⟩
 case round=>
  clear HST;obtain ⟨i,hi,rfl,hown,hbel⟩:=hrel;have HB:=aaX hbel;have HO:=aaX hown;have hsr:=hbel.size;clear hown;by_cases hlt:i<5
  ·obtain ⟨p0,p1,p2,p3,p4,p5⟩:=(HK2.out.below hbel HK2.out.lt).keep;have c0:=meth_at ((hbel.block g hg2).trans HM.out) i hlt;have HBW:=aaX (HB2.out.trans (hbel.mono HB2.out.size));have HC:=aaX (at2 (HBY.out ((i:Int)+1) (by omega) (by omega)) (HG.out.below HBW.out));have HS:=aaX (lK by_ i);clear hbel;unfold pG at HC;go_wp2_with fail
   refine HC.out.mono ?_;rintro e w3 ⟨rfl,hb3⟩;obtain ⟨x1,x2,x3,x4,xe,hx⟩:∃x1 x2 x3 x4 xe,by_ ((i:Int)+1)=(x1,x2,x3,x4,xe):=⟨_,_,_,_,_,rfl⟩;rw [hx];rw [hx] at HS;have hs3:=hb3.size;have HB3:=aaX ((HB.out.trans (hb3.mono hsr)).alloc (by omega) (.cells #[.int .i64 x1,.int .i64 x2,.int .i64 x3,.int .i64 x4] 29));have HO3:=aaX ((lI HO.out hb3).alloc (.cells #[.int .i64 x1,.int .i64 x2,.int .i64 x3,.int .i64 x4] 29));clear hb3 hx HC p0 p1 p2 p3 p4 p5 c0;unfold cU;by_cases hxe:xe=0
   ·subst hxe;rw [show okS (x1,x2,x3,x4,0)=some (x1,x2,x3,x4) from rfl] at HS;have HO4:=aaX (HO3.out.alloc (.cells #[.int .i64 x1,.int .i64 x2,.int .i64 x3,.int .i64 x4] 29));have HB4:=aaX (HB3.out.alloc (by simp;omega) (.cells #[.int .i64 x1,.int .i64 x2,.int .i64 x3,.int .i64 x4] 29));obtain ⟨i0,hi0,hz0,hz1,hz2⟩:=mW ZT;go_wp2_with (at_builtin;refine wpList_append_own _ rfl (.tmp 26) (.tmp 28) 36 rfl w2.heap.size 29 i0 (.agg #[.int .i64 0,.int .i64 0,.int .i64 0,.int .i64 0]) 4 32 Tryz.underlying36 hi0 hz0 hz1 hz2 rfl (by decide) u4 (tQ by_ i).length _ rfl HO4.out ⟨w3.heap.size+1,0,none⟩ 1 1 [.int .i64 x1,.int .i64 x2,.int .i64 x3,.int .i64 x4] rfl rfl ?c1 ?c2 ?c3 ?c4 ?c5 ?_)
    case c1=>exact four_new w3 _ x1 x2 x3 x4
    case c2=>intro u hu;simp at hu;rcases hu with rfl | rfl | rfl | rfl<;>rfl
    case c3=>have:=GK by_ i;unfold maxLen;omega
    case c4=>have:=GK by_ i;omega
    case c5=>simp;omega
    intro v' w4 hown4 hg _;rw [←flatS_snoc _ (x1,x2,x3,x4)] at hown4;have HB5:=aaX (HB4.out.grown hg (by simp;omega) (fun q hq=>(HO4.out.lt q hq).1));have HST:=aaX (show AllRel by_ w2 w4 w2.heap.size v' (.int .i64 ((i:Int)+1)) (i+1) from ⟨hlt,rfl,by rw [HS.out];simpa using hown4,HB5.out⟩);clear hg hown4;go_wp2;go_roundw
    case rel=>exact ⟨_,HST.out⟩
    case measure=>simp [intOf];omega
   ·have he:(xe==0)=false:=beq_eq_false_iff_ne.2 hxe;rw [show okS (x1,x2,x3,x4,xe)=none by unfold okS;rw [if_neg hxe]] at HS;have HST:=aaX (show AllRel by_ w2 (w3.alloc (.cells #[.int .i64 x1,.int .i64 x2,.int .i64 x3,.int .i64 x4] 29)) w2.heap.size u4 (.int .i64 ((i:Int)+1)) (i+1) from ⟨hlt,rfl,by rw [HS.out];simpa using HO3.out,HB3.out⟩);clear hxe;go_wp2;go_roundw
    case rel=>exact ⟨_,HST.out⟩
    case measure=>simp [intOf];omega
  ·have hi5:i=5:=by omega
   subst hi5;obtain ⟨A,cp,rfl⟩:=sA HO.out;have HF:=aaX (show FC (tQ by_ 5) w (.returned (.tuple #[.slice A (tQ by_ 5).length cp,.int .i64 0])) wr from ⟨A,cp,rfl,own_mono2 HO.out (by omega),HB2.out.trans (hbel.mono HB2.out.size)⟩);clear hbel;go_wp2;go_ret2
   exact HF.out
theorem all_no {a b c d e f:Int} (hv:aH aaZ 21 [pG a b c d e f] (.bool false)) (w:World) (hg:eJ w):
  Calls aaZ 9 #[pG a b c d e f] w (wJ w):=by
 have HB0:=aaX ((aeX w.heap.size w).alloc (aaJ _) (.cells ⟨[.int .i64 a,.int .i64 b,.int .i64 c,.int .i64 d,.int .i64 e,.int .i64 f]⟩ 25));have HK0:=aaX (show Tk (w.alloc (.cells ⟨[.int .i64 a,.int .i64 b,.int .i64 c,.int .i64 d,.int .i64 e,.int .i64 f]⟩ 25)) w.heap.size a b c d e f from heap_alloc_new w _);have HV:=aaX (at1 hv (hg.below HB0.out));clear hv hg;unfold pG at HV ⊢;obtain ⟨p0,p1,p2,p3,p4,p5⟩:=HK0.out.keep;go_enter Tryz.func9,Tryz.ntmps9;go_wp2_with fail
 refine HV.out.mono ?_;rintro e w1 ⟨rfl,hb1⟩;have HF:=aaX (show wJ w (.returned (.tuple #[.slice none 0 0,.int .i64 1])) w1 from ⟨rfl,HB0.out.trans (hb1.mono (by simp))⟩);clear hb1 p0 p1 p2 p3 p4 p5 HV;go_wp2;go_ret2
 exact HF.out
theorem own_cap {w:World} {B n c:Nat} {A:Option Addr} {e:TypeId} {size:Nat} {xs:List Value} (h:w.ownsRow B e size (.slice A n c) n xs):n≤c∧c≤9223372036854775807:=by
 rcases h.2 with ⟨hv,hn⟩ | ⟨g,cap,cur,hv,_,_,h1,h2,_⟩
 ·injection hv with _ _ h3;omega
 ·injection hv with _ _ h3;subst h3;unfold maxLen at h2;omega
theorem best_yes {a b c d e f:Int} {l:List jW} (hl:l.length≤1000) (ha:∀w,eJ w→Calls aaZ 9 #[pG a b c d e f] w (FC l w)) (hm:∀A n c w,eJ w→Sols w A n l→n≤c→c≤9223372036854775807→Calls aaZ 18 #[.slice A n c] w (GP (cU (iM l)) w)) (w:World) (hg:eJ w):
  Calls aaZ 5 #[pG a b c d e f] w (GP (cU (iM l)) w):=by
 have HG:=aaX hg;have HMT:=aaX hm;have HL:=aaX hl;have HB0:=aaX (((aeX w.heap.size w).alloc (aaJ _) (.cells ⟨[.int .i64 a,.int .i64 b,.int .i64 c,.int .i64 d,.int .i64 e,.int .i64 f]⟩ 25)).alloc (by simp) (.cells #[.int .i64 0,.int .i64 0,.int .i64 0,.int .i64 0] 29));have HK0:=aaX (show Bk ((w.alloc (.cells ⟨[.int .i64 a,.int .i64 b,.int .i64 c,.int .i64 d,.int .i64 e,.int .i64 f]⟩ 25)).alloc (.cells #[.int .i64 0,.int .i64 0,.int .i64 0,.int .i64 0] 29)) (w.heap.size+1) CC by
  have:=Bk.new (w.alloc (.cells ⟨[.int .i64 a,.int .i64 b,.int .i64 c,.int .i64 d,.int .i64 e,.int .i64 f]⟩ 25)) CC;simpa [CC] using this)
 have HA:=aaX (ha _ (hg.below HB0.out));clear ha hm hg hl;unfold pG at HA ⊢;go_enter Tryz.func5,Tryz.ntmps5;go_wp2_with fail
 refine HA.out.mono ?_;rintro e w1 ⟨A,cp,rfl,hown,hb1⟩;have HB1:=aaX (HB0.out.trans (hb1.mono (by simp;omega)));have HK1:=aaX (HK0.out.below hb1 (by simp));have hc:=own_cap hown;have hs1:=hb1.size;simp at hs1;have HM:=aaX (HMT.out A _ cp _ (HG.out.below HB1.out) (sols_of hown (by have:=HL.out;omega)) hc.1 hc.2);clear hb1 hown HA hc;go_wp2_with fail
 refine HM.out.mono ?_;rintro e w2 ⟨rfl,hb2⟩;have HB2:=aaX (HB1.out.trans (hb2.mono HB1.out.size));have HK2:=HK1.out.next hb2;obtain ⟨⟨r0,r1,r2,r3⟩,l0,l1,l2,l3⟩:=HK2.keep;clear hb2 HK2;obtain ⟨x1,x2,x3,x4,xe,hx⟩:∃x1 x2 x3 x4 xe,iM l=(x1,x2,x3,x4,xe):=⟨_,_,_,_,_,rfl⟩;have HF:=aaX (show ∀w',Below w.heap.size w w'→GP (cU (iM l)) w (.returned (.tuple #[.agg #[.int .i64 x1,.int .i64 x2,.int .i64 x3,.int .i64 x4],.int .i64 xe])) w' from fun w' hb=>⟨by rw [hx];rfl,hb⟩);rw [hx];clear hx;unfold cU;go_wp2;refine bodyPost_ret (v:=.tuple #[.agg #[.int .i64 x1,.int .i64 x2,.int .i64 x3,.int .i64 x4],.int .i64 xe]) (by simp [results,Tryz.results5,go_sem,r0,r1,r2,r3]) rfl (HF.out _ ?_);exact Below.set4 HB2.out (by omega) _ _ _ _
theorem best_no {a b c d e f:Int} (ha:∀w,eJ w→Calls aaZ 9 #[pG a b c d e f] w (wJ w)) (w:World) (hg:eJ w):
  Calls aaZ 5 #[pG a b c d e f] w (GP (cU (0,0,0,0,1)) w):=by
 have HB0:=aaX (((aeX w.heap.size w).alloc (aaJ _) (.cells ⟨[.int .i64 a,.int .i64 b,.int .i64 c,.int .i64 d,.int .i64 e,.int .i64 f]⟩ 25)).alloc (by simp) (.cells #[.int .i64 0,.int .i64 0,.int .i64 0,.int .i64 0] 29));have HK0:=aaX (show Bk ((w.alloc (.cells ⟨[.int .i64 a,.int .i64 b,.int .i64 c,.int .i64 d,.int .i64 e,.int .i64 f]⟩ 25)).alloc (.cells #[.int .i64 0,.int .i64 0,.int .i64 0,.int .i64 0] 29)) (w.heap.size+1) CC by
  have:=Bk.new (w.alloc (.cells ⟨[.int .i64 a,.int .i64 b,.int .i64 c,.int .i64 d,.int .i64 e,.int .i64 f]⟩ 25)) CC;simpa [CC] using this)
 have HA:=aaX (ha _ (hg.below HB0.out));have HF:=aaX (show ∀w',Below w.heap.size w w'→GP (cU (0,0,0,0,1)) w (.returned (.tuple #[.agg #[.int .i64 0,.int .i64 0,.int .i64 0,.int .i64 0],.int .i64 1])) w' from fun w' hb=>⟨rfl,hb⟩);clear ha hg;unfold pG at HA ⊢;go_enter Tryz.func5,Tryz.ntmps5;go_wp2_with fail
 refine HA.out.mono ?_;rintro e w1 ⟨rfl,hb1⟩;have HB1:=aaX (HB0.out.trans (hb1.mono (by simp;omega)));obtain ⟨⟨r0,r1,r2,r3⟩,l0,l1,l2,l3⟩:=(HK0.out.below hb1 (by simp)).keep;clear hb1 HA;go_wp2;refine bodyPost_ret (v:=.tuple #[.agg #[.int .i64 0,.int .i64 0,.int .i64 0,.int .i64 0],.int .i64 1]) (by simp [results,Tryz.results5,go_sem,r0,r1,r2,r3]) rfl (HF.out _ ?_);exact Below.set4 HB1.out (by omega) _ _ _ _
end Go.Proofs.YtajpgkpdhcbngaaGreatDoor
