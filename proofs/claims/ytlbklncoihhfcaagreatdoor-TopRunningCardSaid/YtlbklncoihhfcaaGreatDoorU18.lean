/-
  Moved cells hold the moved points: a single point, a place each of whose points a cell holds. No program here. The reference's boxes of cells at literal levels. slices.ContainsFunc over lists of.
-/
import Derived.Test.YtlbklncoihhfcaaGreatDoorU17
import Derived.Test.YtlbklncoihhfcaaGreatDoorU6
import Derived.RangeFuncNested
import Derived.RangeFuncBound
import Derived.RangeFuncCalls
import Derived.RangeFuncLeaves
import Derived.Shelf.Abstract
import Derived.Shelf.RegionOpen
import Derived.WalkKit
import Derived.OwnWalkIn
import Derived.TacticsInMore
import Derived.LoopNIn
import Derived.LoopIn
import Derived.Sort.CutIn
set_option maxRecDepth 100000
set_option maxHeartbeats 4000000
open Go.RowKit.Below renaming heap_alloc→zW,refl→zD
open _root_.Int renaming fdiv→zE
open Go.Lib renaming hid→zA
open _root_.List renaming cons→akQ,cons_append→xC,drop_eq_getElem_cons→zZ,length_cons→zM,length_map→qC,length_nil→xA,length_reverse→zS,mem_singleton→qG,nil_append→agZ,take_length→qX
open _root_.Nat renaming le_of_lt→qZ,le_refl→zC,le_trans→zJ,zero_le→zO
open _root_.Option renaming some→zL
open Go.Proofs.Tryz renaming prog→zB
open Go.World renaming putObj_heap_other→yY,size_alloc→qF
open Go.IntKind (i64 u64)
open Go.Value renaming int→jI
open Go.IntKind renaming i64→jJ
open Go.Obj renaming cells→jC
namespace Go.Proofs.YtlbklncoihhfcaaGreatDoor
noncomputable section
section
open Rg
open Ev (lt Gl)
attribute [local instance] nP
theorem aDr{a b g h c d e f:Int}(p:-5400000<=a/\a<=b/\b<=5400000)(q:-10800000<=g/\g<=h/\h<=10800000)(r:-10800000<=c/\c<=d/\d<=10800000)(i:(kB (a,b,g,h,0) c d e f).2.2.2.2=0):
  0<(aR (mn a (a+c)) (mx b (b+d))).1/\∀y x:Nat,DI ((kB (a,b,g,h,0) c d e f).1,(kB (a,b,g,h,0) c d e f).2.1,(kB (a,b,g,h,0) c d e f).2.2.1,(kB (a,b,g,h,0) c d e f).2.2.2.1) y x↔a+c<=(y:Int)-5400000/\(y:Int)-5400000<=b+d/\
   ∃k:Int,g+dL (aR (mn a (a+c)) (mx b (b+d))).1 (aR (mn a (a+c)) (mx b (b+d))).2 e f<=(x:Int)-10800000+21600000*k/\(x:Int)-10800000+21600000*k<=h+dH (aR (mn a (a+c)) (mx b (b+d))).1 (aR (mn a (a+c)) (mx b (b+d))).2 e f:=by
 have s:=eJ a (a+c);have t:=dY b (b+d);have o:aB (mn a (a+c)) (mx b (b+d))=true:=aW (by omega) (by omega) (by omega);unfold kB at i ⊢;dsimp only at i ⊢;by_cases m:a+c< -5400000\/5400000<b+d
 ·rw[if_pos m]at i;cases i
 rw[if_neg m]at i ⊢;by_cases j:(iG (mn a (a+c)) (mx b (b+d)) e f).2.2=0
 case neg=>
  rw[if_neg j]at i;exact absurd i j
 rw[if_pos j];obtain⟨pos,n⟩:=aD5 j o;have l:=dW (Jr j);rw[n]at l ⊢;dsimp only at l ⊢;refine⟨pos,fun y x=>?_⟩;generalize dL _ _ _ _=S at*;generalize dH _ _ _ _=T at*;unfold DI;dsimp only;rw[bZ (x:=g+S) (by omega),bZ (x:=h+T) (by omega),It (by omega) (by omega) (by omega)]
theorem aC5{g:cF}(f:lX g){b:Rg.Blk}(e:b.l<=5)(h:b.n<2*4^b.l)(a:(gH (dF g) (fJ g) b).2.2.2.2=0):
  ∃wl wh:Int,wl=mn (qB b).1 ((qB b).1+(dF g).1)/\wh=mx (qB b).2.1 ((qB b).2.1+(dF g).2)/\aB wl wh=true/\0<(aR wl wh).1/\
   ∀y x:Nat,DI ((gH (dF g) (fJ g) b).1,(gH (dF g) (fJ g) b).2.1,(gH (dF g) (fJ g) b).2.2.1,(gH (dF g) (fJ g) b).2.2.2.1) y x↔(qB b).1+(dF g).1<=(y:Int)-5400000/\(y:Int)-5400000<=(qB b).2.1+(dF g).2/\
    ∃k:Int,(qB b).2.2.1+dL (aR wl wh).1 (aR wl wh).2 (fJ g).1 (fJ g).2<=(x:Int)-10800000+21600000*k/\(x:Int)-10800000+21600000*k<=(qB b).2.2.2+dH (aR wl wh).1 (aR wl wh).2 (fJ g).1 (fJ g).2:=by
 obtain⟨⟨d1,d2,d3⟩,e1,e2,m⟩:=wG f;have gr:=iB b e h;unfold gH q5 at a ⊢;generalize qB b=q at*;obtain⟨c,d,r,s⟩:=q;generalize dF g=D at*;generalize fJ g=E at*;dsimp only at gr a ⊢;have o:=eJ c (c+D.1);have p:=dY d (d+D.2);obtain⟨i,j⟩:=aDr (by omega) (by omega) (by omega) a;exact⟨_,_,rfl,rfl,aW (by omega) (by omega) (by omega),i,j⟩
theorem aC6{q g:cF}{s t:Int}(a:-10800000<=q.2.2.1/\q.2.2.1<=q.2.2.2/\q.2.2.2<32400000)(b:s<=t)(s1:-1099511627776<=s)(t1:t<=1099511627776)(e:OI q g=(q.1+(dF g).1,q.2.1+(dF g).2,(dS (q.2.2.1+s) (q.2.2.2+t)).1,(dS (q.2.2.1+s) (q.2.2.2+t)).2,0))(y x:Nat):
  DI (TN q g) y x↔q.1+(dF g).1<=(y:Int)-5400000/\(y:Int)-5400000<=q.2.1+(dF g).2/\∃k:Int,q.2.2.1+s<=(x:Int)-10800000+21600000*k/\(x:Int)-10800000+21600000*k<=q.2.2.2+t:=by
 unfold TN DI;rw[e];dsimp only;rw[It (by omega) (by omega) (by omega)]
theorem Yr{g:cF}{a c:Int}(i:lX g)(R:cT a a c c=true)(o:iY c c)(near:-5340000<=a/\a<=5340000)(H:(OI (a,a,c,c) g).2.2.2.2=0){b:Rg.Blk}(G:b.l<=5)(J:b.n<2*4^b.l)(E:(gH (dF g) (fJ g) b).2.2.2.2=0)
  {u r:Nat}(hi:Rg.In b u r)(K:DI (a,a,c,c) u r){y x:Nat}(h:DI (TN (a,a,c,c) g) y x):DI ((gH (dF g) (fJ g) b).1,(gH (dF g) (fJ g) b).2.1,(gH (dF g) (fJ g) b).2.2.1,(gH (dF g) (fJ g) b).2.2.2.1) y x:=by
 obtain⟨s,t,Q,s1,t1,e,N,O,pos,L,M⟩:=SF i R o near H;have j:=iC o;obtain⟨wl,wh,D,B,U,d,I⟩:=aC5 i G J E;rw[I];have p:=aC6 (q:=(a,a,c,c)) ⟨j.1,j.2.1,j.2.2.1⟩ Q s1 t1 e y x;dsimp only at p N O pos L M;obtain⟨j1,j2,k,j3,j4⟩:=p.1 h;obtain⟨Y,Z,i3,i4⟩:=hi;obtain⟨p1,p2,m,p3,p4⟩:=K;have v:(qB b).1=(dO (aM b.l b.n) b.l:Int)-5400000:=rfl;have w:(qB b).2.1=(dO (aM b.l b.n+1) b.l:Int)-5400000:=rfl;have z:(qB b).2.2.1=(dO (aN b.l b.n) b.l:Int)-10800000:=rfl;have A:(qB b).2.2.2=(dO (aN b.l b.n+1) b.l:Int)-10800000:=rfl;generalize dO (aM b.l b.n) b.l=r0 at*;generalize dO (aM b.l b.n+1) b.l=r1 at*;generalize dO (aN b.l b.n) b.l=V at*;generalize dO (aN b.l b.n+1) b.l=c1 at*;generalize qB b=q at*;dsimp only at*;have l1:=eJ q.1 (q.1+(dF g).1);have l2:=dY q.2.1 (q.2.1+(dF g).2);have l3:=eJ a (a+(dF g).1);have l4:=dY a (a+(dF g).2);have X:=(wG i).1;obtain⟨w1,w2⟩:=N0 (e:=(fJ g).1) (f:=(fJ g).2) (a:=mn a (a+(dF g).1)) (b:=mx a (a+(dF g).2)) U (by omega) (by omega) (by omega) d;exact⟨by omega,by omega,k-m,by omega,by omega⟩
theorem SY{b:Rg.Blk}(a:b.l<=5){y x:Nat}(h:Rg.In b y x):(qB b).1<=(y:Int)-5400000/\(y:Int)-5400000<=(qB b).2.1/\(qB b).2.2.1<=(x:Int)-10800000/\(x:Int)-10800000<=(qB b).2.2.2/\(qB b).1%337500=0/\(qB b).2.1%337500=0:=by
 have d:=PG a (aM b.l b.n);have e:=PG a (aM b.l b.n+1);obtain⟨f,g,i,j⟩:=h;unfold qB;generalize dO (aM b.l b.n) b.l=k at*;generalize dO (aM b.l b.n+1) b.l=m at*;generalize dO (aN b.l b.n) b.l=c at*;generalize dO (aN b.l b.n+1) b.l=c1 at*;dsimp only;omega
theorem Qk{q g:cF}(o:lX g)(G:cT q.1 q.2.1 q.2.2.1 q.2.2.2=true)(w:iY q.2.2.1 q.2.2.2)(near:-5340000<=q.1/\q.2.1<=5340000)(K:(OI q g).2.2.2.2=0){L:List Rg.Blk}(r:∀b∈L,b.l<=5/\b.n<2*4^b.l)
  (H:∀b∈L,(gH (dF g) (fJ g) b).2.2.2.2=0)(I:∀y x:Nat,y<=10800000->x<=21600000->DI q y x->∃b∈L,Rg.In b y x):
  ∃b∈L,∃y x:Nat,y<=10800000/\x<=21600000/\DI (TN q g) y x/\DI ((gH (dF g) (fJ g) b).1,(gH (dF g) (fJ g) b).2.1,(gH (dF g) (fJ g) b).2.2.1,(gH (dF g) (fJ g) b).2.2.2.1) y x:=by
 obtain⟨s,t,st,s1,t1,e,n1,n2,pos,O,ht⟩:=SF o G w near K;have E:=iC w;have vb:=uT G;have db:=(wG o).1;have cl:q.2.2.1<10800000:=by rcases w with h|h<;>omega
 have cell:∀i:Nat,∃b:Rg.Blk,i<=(q.2.1-q.1).toNat->b∈L/\Rg.In b (q.1+i+5400000).toNat (q.2.2.1+10800000).toNat:=fun i=>by
  by_cases hi:i<=(q.2.1-q.1).toNat
  ·obtain⟨b,Z,D⟩:=I (q.1+i+5400000).toNat (q.2.2.1+10800000).toNat (by omega) (by omega) ⟨by omega,by omega,0,by omega,by omega⟩;exact⟨b,fun _=>⟨Z,D⟩⟩
  ·exact⟨⟨0,0⟩,fun h=>absurd h hi⟩
 obtain⟨B,d⟩:=Classical.axiomOfChoice cell;have m:∀i:Nat,i<=(q.2.1-q.1).toNat->B i∈L:=fun i hi=>(d i hi).1;have A:∀i:Nat,i<=(q.2.1-q.1).toNat->_:=fun i hi=>aC5 o (r _ (d i hi).1).1 (r _ (d i hi).1).2 (H _ (d i hi).1);have row:∀i:Nat,i<=(q.2.1-q.1).toNat->(qB (B i)).1<=q.1+i/\q.1+i<=(qB (B i)).2.1/\(qB (B i)).2.2.1<=q.2.2.1/\q.2.2.1<=(qB (B i)).2.2.2/\(qB (B i)).1%337500=0/\(qB (B i)).2.1%337500=0:=fun i hi=>by
  obtain⟨i1,i2,i3,i4,i5,i6⟩:=SY (r _ (d i hi).1).1 (d i hi).2;generalize qB (B i)=Q at*;exact⟨by omega,by omega,by omega,by omega,i5,i6⟩
 clear d;obtain⟨i,hi,z1,z2⟩:=Ry (n:=(q.2.1-q.1).toNat) (wl:=fun i=>mn (qB (B i)).1 ((qB (B i)).1+(dF g).1)) (wh:=fun i=>mx (qB (B i)).2.1 ((qB (B i)).2.1+(dF g).2)) (a:=mn q.1 (q.1+(dF g).1)) (b:=mx q.2.1 (q.2.1+(dF g).2)) (e:=(fJ g).1) (f:=(fJ g).2) (z:=s)
  (by
   have:=eJ q.1 (q.1+(dF g).1);have:=dY q.2.1 (q.2.1+(dF g).2);exact aW (by omega) (by omega) (by omega))
  (fun i hi=>by obtain⟨k,j,e1,e2,v,_⟩:=A i hi;rw[e1,e2]at v;exact v) (fun i hi=>by obtain⟨k,j,e1,e2,_,p,_⟩:=A i hi;rw[e1,e2]at p;exact p)
  (fun i hi=>by
   have V:=row i (by omega);have r2:=row (i+1) hi;have X:=eJ (qB (B i)).1 ((qB (B i)).1+(dF g).1);have Y:=dY (qB (B i)).2.1 ((qB (B i)).2.1+(dF g).2);have a3:=eJ (qB (B (i+1))).1 ((qB (B (i+1))).1+(dF g).1);have a4:=dY (qB (B (i+1))).2.1 ((qB (B (i+1))).2.1+(dF g).2);generalize qB (B i)=Q at*;generalize qB (B (i+1))=R at*;by_cases h:q.1+i+1<=Q.2.1
   ·exact⟨q.1+i+1,by omega,by omega,by omega,by omega⟩
   ·exact⟨q.1+i,by omega,by omega,by omega,by omega⟩)
  (fun u u1 u2=>by
   have l3:=eJ q.1 (q.1+(dF g).1);have l4:=dY q.2.1 (q.2.1+(dF g).2);have c:∀α:Int,q.1<=α->α<=q.2.1->(α<=u\/q.1=α)->(u<=α\/q.2.1=α)->∃i:Nat,i<=(q.2.1-q.1).toNat/\mn (qB (B i)).1 ((qB (B i)).1+(dF g).1)<=u/\u<=mx (qB (B i)).2.1 ((qB (B i)).2.1+(dF g).2):=fun α k1 k2 k3 k4=>by
    refine⟨(α-q.1).toNat,by omega,?_⟩;have V:=row (α-q.1).toNat (by omega);have X:=eJ (qB (B (α-q.1).toNat)).1 ((qB (B (α-q.1).toNat)).1+(dF g).1);have Y:=dY (qB (B (α-q.1).toNat)).2.1 ((qB (B (α-q.1).toNat)).2.1+(dF g).2);generalize qB (B (α-q.1).toNat)=Q at*;omega
   by_cases c1:u<q.1
   ·exact c q.1 (by omega) (by omega) (.inr rfl) (.inl (by omega))
   ·by_cases c2:q.2.1<u
    ·exact c q.2.1 (by omega) (by omega) (.inl (by omega)) (.inr rfl)
    ·exact c u (by omega) (by omega) (.inl (by omega)) (.inl (by omega)))
  O (by omega)
 have V:=row i hi;obtain⟨k,j,e1,e2,_,_,N⟩:=A i hi;rw[<-e1,<-e2]at z1 z2;have nx:=fun y x=>aC6 (q:=q) (g:=g) ⟨E.1,E.2.1,E.2.2.1⟩ st s1 t1 e y x;have U:=m i hi;clear A row m r H I;generalize dL (aR k j).1 (aR k j).2 (fJ g).1 (fJ g).2=S at*;generalize dH (aR k j).1 (aR k j).2 (fJ g).1 (fJ g).2=T at*;obtain⟨M,J⟩:∃M,M=gH (dF g) (fJ g) (B i):=⟨_,rfl⟩;refine⟨B i,U,?_⟩;rw[<-J]at N ⊢;clear J U;generalize qB (B i)=Q at*;clear e pos O ht o G w K e1 e2 cell;refine⟨(q.1+i+(dF g).1+5400000).toNat,((q.2.2.1+s+10800000)%21600000).toNat,by omega,by omega,?_,?_⟩
 ·rw[nx];exact⟨by omega,by omega,(q.2.2.1+s+10800000)/21600000,by omega,by omega⟩
 ·rw[N];exact⟨by omega,by omega,(q.2.2.1+s+10800000)/21600000,by omega,by omega⟩
end
section
open Ev
open Ev (Gl)
def Sj(a b:Int):Int×Int×Int×Int:=(i64.wrap ((zE (i64.wrap (a*10800000)) (2^0))-5400000),i64.wrap ((zE (i64.wrap ((i64.wrap (a+1))*10800000)) (2^0))-5400000),i64.wrap ((zE (i64.wrap (b*10800000)) (2^0))-10800000),i64.wrap ((zE (i64.wrap ((i64.wrap (b+1))*10800000)) (2^0))-10800000))
def aGF:bW:=[]
theorem uM[Gl]:aO zB aGF:=dK
theorem Ig[Gl](a b:Int):aF zB 17 [.agg ⟨[jI jJ 0,jI jJ a,jI jJ b]⟩] (fR (Sj a b)):=aD aP uM (by kernel_rfl) rfl
def Sk(a b:Int):Int×Int×Int×Int:=(i64.wrap ((zE (i64.wrap (a*10800000)) (2^1))-5400000),i64.wrap ((zE (i64.wrap ((i64.wrap (a+1))*10800000)) (2^1))-5400000),i64.wrap ((zE (i64.wrap (b*10800000)) (2^1))-10800000),i64.wrap ((zE (i64.wrap ((i64.wrap (b+1))*10800000)) (2^1))-10800000))
theorem Ih[Gl](a b:Int):aF zB 17 [.agg ⟨[jI jJ 1,jI jJ a,jI jJ b]⟩] (fR (Sk a b)):=aD aP uM (by kernel_rfl) rfl
def Sl(a b:Int):Int×Int×Int×Int:=(i64.wrap ((zE (i64.wrap (a*10800000)) (2^2))-5400000),i64.wrap ((zE (i64.wrap ((i64.wrap (a+1))*10800000)) (2^2))-5400000),i64.wrap ((zE (i64.wrap (b*10800000)) (2^2))-10800000),i64.wrap ((zE (i64.wrap ((i64.wrap (b+1))*10800000)) (2^2))-10800000))
theorem Ii[Gl](a b:Int):aF zB 17 [.agg ⟨[jI jJ 2,jI jJ a,jI jJ b]⟩] (fR (Sl a b)):=aD aP uM (by kernel_rfl) rfl
def Sm(a b:Int):Int×Int×Int×Int:=(i64.wrap ((zE (i64.wrap (a*10800000)) (2^3))-5400000),i64.wrap ((zE (i64.wrap ((i64.wrap (a+1))*10800000)) (2^3))-5400000),i64.wrap ((zE (i64.wrap (b*10800000)) (2^3))-10800000),i64.wrap ((zE (i64.wrap ((i64.wrap (b+1))*10800000)) (2^3))-10800000))
theorem Ij[Gl](a b:Int):aF zB 17 [.agg ⟨[jI jJ 3,jI jJ a,jI jJ b]⟩] (fR (Sm a b)):=aD aP uM (by kernel_rfl) rfl
def So(a b:Int):Int×Int×Int×Int:=(i64.wrap ((zE (i64.wrap (a*10800000)) (2^4))-5400000),i64.wrap ((zE (i64.wrap ((i64.wrap (a+1))*10800000)) (2^4))-5400000),i64.wrap ((zE (i64.wrap (b*10800000)) (2^4))-10800000),i64.wrap ((zE (i64.wrap ((i64.wrap (b+1))*10800000)) (2^4))-10800000))
theorem Ik[Gl](a b:Int):aF zB 17 [.agg ⟨[jI jJ 4,jI jJ a,jI jJ b]⟩] (fR (So a b)):=aD aP uM (by kernel_rfl) rfl
def Sq(a b:Int):Int×Int×Int×Int:=(i64.wrap ((zE (i64.wrap (a*10800000)) (2^5))-5400000),i64.wrap ((zE (i64.wrap ((i64.wrap (a+1))*10800000)) (2^5))-5400000),i64.wrap ((zE (i64.wrap (b*10800000)) (2^5))-10800000),i64.wrap ((zE (i64.wrap ((i64.wrap (b+1))*10800000)) (2^5))-10800000))
theorem Il[Gl](a b:Int):aF zB 17 [.agg ⟨[jI jJ 5,jI jJ a,jI jJ b]⟩] (fR (Sq a b)):=aD aP uM (by kernel_rfl) rfl
end
section
open Go.RowKit Rg
open Ev (aF)
attribute [local instance] nP
attribute [local go_sem] Oper.semAt_some
theorem UA{P:Program}{w:World}{a:Addr}{m:Mode}(f:Fn)(r c:Array Value):(store a (.func f r c) m).run P w=stored P w a (.func f r c) m:=run_store P w a _ m rfl
attribute [local go_sem] UA
abbrev sK:=Option Addr×Nat×Nat
def aG6(c:sK):List Value:=[.slice c.1 c.2.1 c.2.2]
def SK:Elem sK:=⟨aG6,1,fun _=>rfl,fun x v h=>by simp[aG6]at h;rw[h];rfl⟩
theorem bT.slv{e:TypeId}{w:World}{B:Nat}{v:Value}{l:List sK}(h:bT SK e w B v l){i:Nat}{b:sK}(m:l[i]? =some b):∃g cap,v=.slice (some ⟨g,0,none⟩) l.length cap/\B<=g/\g<w.heap.size/\∃a x1 x2,b=(a,x1,x2)/\w.cell? ⟨g,i,none⟩=some (.slice a x1 x2):=by
 obtain⟨g,cap,c,d,f,j⟩:=h.at_ m;have:=j 0 (by decide);rw[show i*SK.k+0=i from by show i*1+0=i;omega]at this;exact⟨g,cap,c,d,f,_,_,_,rfl,this⟩
theorem aAi{bp:Nat}{p:sK->Bool}{L:List sK}{v:Value}(K:L.length<=100000000)(w:World)(h:bT SK 56 w 0 v L)(hF:∀c∈L,∀w1,Below w.heap.size w w1->Calls zB 65 #[.slice c.1 c.2.1 c.2.2,.pointer (some ⟨bp,0,none⟩)] w1 (GP (.bool (p c)) w1)):
  Calls zB 100 #[v,.func (.func 65) #[] #[.pointer (some ⟨bp,0,none⟩)]] w (cE (L.any p) w):=by
 obtain⟨A,c,rfl⟩:=h.slice;have E:=zA h;have D:=zA hF;have s:=zA (zD w.heap.size w);clear h hF;go_enter Tryz.func100,Tryz.ntmps100;go_wp2_with fail
 go_loopw [8] (fun z wr=>∃i:Nat,i<=L.length/\z=jI jJ (i:Int)/\(L.take i).any p=false/\Below w.heap.size w wr) (fun z _=>L.length-(intOf z).toNat)
 case atStart=>exact⟨0,by omega,rfl,by simp,s.out⟩
 case round=>
  obtain⟨i,hi,rfl,n,a⟩:=hrel;have f:=zA n;clear n;by_cases m:i<L.length
  ·obtain⟨b,r⟩:∃b,L[i]? =some b:=⟨_,List.getElem?_eq_getElem m⟩;obtain⟨g,G,I,_,J,M,N,O,k,H⟩:=(E.out.next a).slv r;cases I;have u:=zA (iO p r f.out);have q:=zA (D.out b (List.mem_of_getElem? r) wr a);obtain⟨y,o⟩:∃y,y=p b:=⟨_,rfl⟩;rw[<-o]at u q;rw[k]at q;have B:=zA a;clear a r k o;dsimp only at q;go_wp2_with fail
   refine q.out.mono ?_;rintro e w1 ⟨rfl,j⟩;have d:=zA (B.out.trans (j.mono B.out.size));clear j H;cases y with
   |true=>
    have t:=zA (show cE (L.any p) w (.returned (jI jJ (i:Int))) w1 from⟨_,rfl,⟨fun _=>eC p u.out,fun _=>by omega⟩,d.out⟩);go_wp2_with fail
    go_ret;exact t.out
   |false=>
    go_wp2_with fail
    refine⟨⟨i+1,m,by go_num,u.out,d.out⟩,?_⟩;simp only[intOf];omega
  ·have x:i=L.length:=by omega
   have t:=zA (show cE (L.any p) w (.returned (jI jJ (-1))) wr from⟨_,rfl,⟨fun h=>absurd h (by decide),fun h=>by rw[<-qX (l:=L),<-x,f.out]at h;exact absurd h (by decide)⟩,a⟩);clear a;go_wp2_with fail
   go_ret;exact t.out
theorem Y8{bp:Nat}{p:sK->Bool}{L:List sK}{v:Value}(k:L.length<=100000000)(w:World)(h:bT SK 56 w 0 v L)(hF:∀c∈L,∀w1,Below w.heap.size w w1->Calls zB 65 #[.slice c.1 c.2.1 c.2.2,.pointer (some ⟨bp,0,none⟩)] w1 (GP (.bool (p c)) w1)):
  Calls zB 64 #[v,.func (.func 65) #[] #[.pointer (some ⟨bp,0,none⟩)]] w (GP (.bool (L.any p)) w):=by
 have f:=zA (aAi k w h hF);obtain⟨A,c,rfl⟩:=h.slice;obtain⟨b,a⟩:∃b,b=L.any p:=⟨_,rfl⟩;rw[<-a]at f ⊢;clear h hF a;go_enter Tryz.func64,Tryz.ntmps64;go_wp2_with fail
 refine f.out.mono ?_;rintro e w1 ⟨i,rfl,hi,g⟩;have d:=zA g;clear g;cases b with
 |true=>
  have j:i>=0:=hi.2 rfl;go_wp2_with fail
  go_ret;exact⟨rfl,d.out⟩
 |false=>
  have j:¬i>=0:=fun h=>absurd (hi.1 h) (by decide);go_wp2_with fail
  go_ret;exact⟨rfl,d.out⟩
theorem aAh{p:sK->Bool}{L:List sK}{v:Value}(K:L.length<=100000000)(w:World)(h:bT SK 56 w 0 v L)(hF:∀c∈L,∀w1,Below w.heap.size w w1->Calls zB 66 #[.slice c.1 c.2.1 c.2.2] w1 (GP (.bool (p c)) w1)):
  Calls zB 100 #[v,.func (.func 66) #[] #[]] w (cE (L.any p) w):=by
 obtain⟨A,c,rfl⟩:=h.slice;have E:=zA h;have D:=zA hF;have s:=zA (zD w.heap.size w);clear h hF;go_enter Tryz.func100,Tryz.ntmps100;go_wp2_with fail
 go_loopw [8] (fun z wr=>∃i:Nat,i<=L.length/\z=jI jJ (i:Int)/\(L.take i).any p=false/\Below w.heap.size w wr) (fun z _=>L.length-(intOf z).toNat)
 case atStart=>exact⟨0,by omega,rfl,by simp,s.out⟩
 case round=>
  obtain⟨i,hi,rfl,n,a⟩:=hrel;have f:=zA n;clear n;by_cases m:i<L.length
  ·obtain⟨b,r⟩:∃b,L[i]? =some b:=⟨_,List.getElem?_eq_getElem m⟩;obtain⟨g,G,I,_,J,M,N,O,k,H⟩:=(E.out.next a).slv r;cases I;have u:=zA (iO p r f.out);have q:=zA (D.out b (List.mem_of_getElem? r) wr a);obtain⟨y,o⟩:∃y,y=p b:=⟨_,rfl⟩;rw[<-o]at u q;rw[k]at q;have B:=zA a;clear a r k o;dsimp only at q;go_wp2_with fail
   refine q.out.mono ?_;rintro e w1 ⟨rfl,j⟩;have d:=zA (B.out.trans (j.mono B.out.size));clear j H;cases y with
   |true=>
    have t:=zA (show cE (L.any p) w (.returned (jI jJ (i:Int))) w1 from⟨_,rfl,⟨fun _=>eC p u.out,fun _=>by omega⟩,d.out⟩);go_wp2_with fail
    go_ret;exact t.out
   |false=>
    go_wp2_with fail
    refine⟨⟨i+1,m,by go_num,u.out,d.out⟩,?_⟩;simp only[intOf];omega
  ·have x:i=L.length:=by omega
   have t:=zA (show cE (L.any p) w (.returned (jI jJ (-1))) wr from⟨_,rfl,⟨fun h=>absurd h (by decide),fun h=>by rw[<-qX (l:=L),<-x,f.out]at h;exact absurd h (by decide)⟩,a⟩);clear a;go_wp2_with fail
   go_ret;exact t.out
theorem Y5{p:sK->Bool}{L:List sK}{v:Value}(k:L.length<=100000000)(w:World)(h:bT SK 56 w 0 v L)(hF:∀c∈L,∀w1,Below w.heap.size w w1->Calls zB 66 #[.slice c.1 c.2.1 c.2.2] w1 (GP (.bool (p c)) w1)):
  Calls zB 64 #[v,.func (.func 66) #[] #[]] w (GP (.bool (L.any p)) w):=by
 have f:=zA (aAh k w h hF);obtain⟨A,c,rfl⟩:=h.slice;obtain⟨b,a⟩:∃b,b=L.any p:=⟨_,rfl⟩;rw[<-a]at f ⊢;clear h hF a;go_enter Tryz.func64,Tryz.ntmps64;go_wp2_with fail
 refine f.out.mono ?_;rintro e w1 ⟨i,rfl,hi,g⟩;have d:=zA g;clear g;cases b with
 |true=>
  have j:i>=0:=hi.2 rfl;go_wp2_with fail
  go_ret;exact⟨rfl,d.out⟩
 |false=>
  have j:¬i>=0:=fun h=>absurd (hi.1 h) (by decide);go_wp2_with fail
  go_ret;exact⟨rfl,d.out⟩
theorem Va{s:sK}{L:List cF}{w:World}{bp:Nat}(h:bT pK 37 w 0 (.slice s.1 s.2.1 s.2.2) L)(l:L.length<=60)(i:∀g∈L,FQ g.1 g.2.1 g.2.2.1 g.2.2.2=false)(k:w.cell? ⟨bp,0,none⟩=some (.func (.func 60) #[] #[])):
  Calls zB 65 #[.slice s.1 s.2.1 s.2.2,.pointer (some ⟨bp,0,none⟩)] w (GP (.bool false) w):=by
 have d:=Y3 (p:=fun g=>FQ g.1 g.2.1 g.2.2.1 g.2.2.2) (by omega) w h (fun c _ j _=>aI (ZM _ _ _ _) j);have e:(L.any fun g=>FQ g.1 g.2.1 g.2.2.1 g.2.2.2)=false:=by
  rw[List.any_eq_false];intro g h;rw[i g h];decide
 rw[e]at d;have f:=zA d;obtain⟨A,n,c⟩:=s;dsimp only at f ⊢;clear d e h i;go_enter Tryz.func65,Tryz.ntmps65;go_wp2_with fail
 refine f.out.mono ?_;rintro e j ⟨rfl,a⟩;have b:=zA a;clear a k;go_wp2_with fail
 go_ret;exact⟨rfl,b.out⟩
theorem Vb{s:sK}{w:World}(b:s.2.1<=60):Calls zB 66 #[.slice s.1 s.2.1 s.2.2] w (GP (.bool false) w):=by
 obtain⟨A,n,c⟩:=s;dsimp only at b ⊢;have h:¬((n:Int)>60):=by omega
 have a:=zA (zD w.heap.size w);go_enter Tryz.func66,Tryz.ntmps66;go_wp2_with fail
 go_ret;exact⟨rfl,a.out⟩
def RG(w:World)(S:List sK):Prop:=∀s∈S,∃L,bT pK 37 w 0 (.slice s.1 s.2.1 s.2.2) L/\L.length<=60/\∀g∈L,FQ g.1 g.2.1 g.2.2.1 g.2.2.2=false
theorem RG.next{w w':World}{S:List sK}(h:RG w S)(c:Below w.heap.size w w'):RG w' S:=fun s d=>by
 obtain⟨L,a,b⟩:=h s d;exact⟨L,a.next c,b⟩
theorem RP{α:Type}{L:List α}{p:α->Bool}(h:∀a∈L,p a=false):L.any p=false:=by
 rw[List.any_eq_false];intro a b;rw[h a b];decide
theorem D8{C:List fT}{S:List sK}{cv lv:Value}{p:Int×Int×Int×Int}{lev:Int}{w:World}(O:bT oS 49 w 0 cv C)(I:bT SK 56 w 0 lv S)(Q:RG w S)(vC:∀c∈C,kE c.1 c.2.1 c.2.2.1 c.2.2.2.1 c.2.2.2.2.1 c.2.2.2.2.2=true)
  (H:C.length=S.length+1)(N:C.length<=40)(vp:cT p.1 p.2.1 p.2.2.1 p.2.2.2=true)(l0:0<=lev)(l1:lev<=16):Calls zB 32 #[cv,lv,QV p,jI jJ lev] w (GP (jI jJ 0) w):=by
 obtain⟨u,v,x,y⟩:=p;unfold QV;dsimp only at vp ⊢;have l:=zA (Below.new (w:=w) (jC #[jI jJ u,jI jJ v,jI jJ x,jI jJ y] 33));obtain⟨f,g⟩:∃f,f=w.alloc (jC #[jI jJ u,jI jJ v,jI jJ x,jI jJ y] 33):=⟨_,rfl⟩;have hN:=heap_alloc_new w (jC #[jI jJ u,jI jJ v,jI jJ x,jI jJ y] 33);have Y:f.heap.size=w.heap.size+1:=by rw[g];simp
 rw[<-g]at l hN;obtain⟨W,R⟩:∃W,W=f.alloc (jC #[.func (.func 60) #[] #[]] 40):=⟨_,rfl⟩;have hF:=heap_alloc_new f (jC #[.func (.func 60) #[] #[]] 40);have m:=zA (Below.new (w:=f) (jC #[.func (.func 60) #[] #[]] 40));rw[<-R]at hF m;have b:=zA (l.out.trans (m.out.mono l.out.size));have B:=zA (show W.heap[w.heap.size]? =some (jC #[jI jJ u,jI jJ v,jI jJ x,jI jJ y] 33 (0,0))from(m.out.block _ (by omega)).trans hN);have r:=zA (show W.heap[f.heap.size]? =some (jC #[.func (.func 60) #[] #[]] 40 (0,0))from hF);have n:=zA (X8 (p:=fun c=>aCR c.1 c.2.1 c.2.2.1 c.2.2.2.1 c.2.2.2.2.1 c.2.2.2.2.2) (by omega) W (O.next b.out) (fun c _ h _=>aI (De _ _ _ _ _ _) h));rw[RP (fun c hc=>by unfold aCR;rw[vC c hc];rfl)]at n;have o:=zA (fun(h:World) (a:Below W.heap.size W h)=>Y8 (bp:=f.heap.size) (p:=fun _=>false) (by omega) h (I.next (b.out.trans (a.mono b.out.size))) (fun s X t d=>by
  obtain⟨L,M,g2,g3⟩:=(Q.next (b.out.trans ((a.trans (d.mono a.size)).mono b.out.size))) s X;exact Va M g2 g3 (by
   have:=(d.block f.heap.size (Nat.lt_of_lt_of_le (Array.getElem?_eq_some_iff.1 r.out).1 a.size)).trans ((a.block f.heap.size (Array.getElem?_eq_some_iff.1 r.out).1).trans r.out);simp[World.cell?,this])))
 rw[RP (fun _ _=>rfl),Y]at o;have q:=zA (fun(h:World) (a:Below W.heap.size W h)=>Y5 (p:=fun _=>false) (by omega) h (I.next (b.out.trans (a.mono b.out.size))) (fun s X t d=>by
  obtain⟨L,M,g2,_⟩:=Q s X;exact Vb (by
   obtain⟨_,_,he⟩:=M.slice;injection he with _ h2 _;omega)))
 rw[RP (fun _ _=>rfl)]at q;have D:=zA (fun w=>aI (fE u v x y) w);rw[vp]at D;obtain⟨A,k,rfl⟩:=O.slice;obtain⟨A',k',rfl⟩:=I.slice;generalize C.length=Z at*;generalize S.length=nS at*;have e1:((Z:Int)==0)=false:=beq_eq_false_iff_ne.2 (by omega);have e2:i64.wrap ((Z:Int)-1)=(nS:Int):=by rw[bZ (by omega)];omega
 have e3:¬((Z:Int)>40):=by omega
 clear O I Q vC hN hF H N;go_enter Tryz.func32,Tryz.ntmps32;go_upto_region 2 with fail
 rw[<-g,<-R];clear g R;go_wp2_with fail
 refine n.out.mono ?_;rintro e h ⟨rfl,a⟩;have z:=zA a;have U:=o.out h a;clear a n;go_wp2_with fail
 refine U.mono ?_;rintro e t ⟨rfl,d⟩;have i:=zA (z.out.trans (d.mono z.out.size));have K:=zA ((i.out.block _ (Array.getElem?_eq_some_iff.1 B.out).1).trans B.out);obtain⟨d0,d1,d2,d3⟩:t.cell? ⟨w.heap.size,0,none⟩=some (jI jJ u)/\t.cell? ⟨w.heap.size,1,none⟩=some (jI jJ v)/\t.cell? ⟨w.heap.size,2,none⟩=some (jI jJ x)/\t.cell? ⟨w.heap.size,3,none⟩=some (jI jJ y):=by
  have:=K.out;refine⟨?_,?_,?_,?_⟩<;>simp[World.cell?,this]
 clear d o;go_wp2_with fail
 refine(D.out t).mono ?_;rintro e w3 ⟨rfl,E⟩;have j:=zA (i.out.trans (E.mono i.out.size));have V:=q.out w3 j.out;clear E d0 d1 d2 d3 q;go_wp2_with fail
 refine V.mono ?_;rintro e w4 ⟨rfl,G⟩;have J:=zA (b.out.trans ((j.out.trans (G.mono j.out.size)).mono b.out.size));clear G;go_wp2_with fail
 go_ret;exact⟨rfl,J.out⟩
end
section
open Go.RowKit Rg
open Ev (aF)
attribute [local instance] nP
attribute [local go_sem] Oper.semAt_some
theorem aAk{p:cF->Bool}{L:List cF}{v:Value}(K:L.length<=100000000)(w:World)(h:bT pK 37 w 0 v L)(hF:∀c∈L,∀w1,Below w.heap.size w w1->Calls zB 50 #[.agg ⟨pK.enc c⟩] w1 (GP (.bool (p c)) w1)):
  Calls zB 89 #[v,.func (.func 50) #[] #[]] w (cE (L.any p) w):=by
 obtain⟨A,c,rfl⟩:=h.slice;have E:=zA h;have D:=zA hF;have s:=zA (zD w.heap.size w);clear h hF;go_enter Tryz.func89,Tryz.ntmps89;go_wp2_with fail
 go_loopw [8] (fun z wr=>∃i:Nat,i<=L.length/\z=jI jJ (i:Int)/\(L.take i).any p=false/\Below w.heap.size w wr) (fun z _=>L.length-(intOf z).toNat)
 case atStart=>exact⟨0,by omega,rfl,by simp,s.out⟩
 case round=>
  obtain⟨i,hi,rfl,n,a⟩:=hrel;have f:=zA n;clear n;by_cases m:i<L.length
  ·obtain⟨b,r⟩:∃b,L[i]? =some b:=⟨_,List.getElem?_eq_getElem m⟩;obtain⟨g,G,I,_,J,M,N,O,Q,k,H,d1,d2,d3⟩:=(E.out.next a).qua r;cases I;have u:=zA (iO p r f.out);have q:=zA (D.out b (List.mem_of_getElem? r) wr a);obtain⟨y,o⟩:∃y,y=p b:=⟨_,rfl⟩;rw[<-o]at u q;rw[k]at q;have B:=zA a;clear a r k o;unfold pK aAW at q;go_wp2_with fail
   refine q.out.mono ?_;rintro e w1 ⟨rfl,j⟩;have d:=zA (B.out.trans (j.mono B.out.size));clear j H d1 d2 d3;cases y with
   |true=>
    have t:=zA (show cE (L.any p) w (.returned (jI jJ (i:Int))) w1 from⟨_,rfl,⟨fun _=>eC p u.out,fun _=>by omega⟩,d.out⟩);go_wp2_with fail
    go_ret;exact t.out
   |false=>
    go_wp2_with fail
    refine⟨⟨i+1,m,by go_num,u.out,d.out⟩,?_⟩;simp only[intOf];omega
  ·have x:i=L.length:=by omega
   have t:=zA (show cE (L.any p) w (.returned (jI jJ (-1))) wr from⟨_,rfl,⟨fun h=>absurd h (by decide),fun h=>by rw[<-qX (l:=L),<-x,f.out]at h;exact absurd h (by decide)⟩,a⟩);clear a;go_wp2_with fail
   go_ret;exact t.out
theorem a8{p:cF->Bool}{L:List cF}{v:Value}(k:L.length<=100000000)(w:World)(h:bT pK 37 w 0 v L)(hF:∀c∈L,∀w1,Below w.heap.size w w1->Calls zB 50 #[.agg ⟨pK.enc c⟩] w1 (GP (.bool (p c)) w1)):
  Calls zB 49 #[v,.func (.func 50) #[] #[]] w (GP (.bool (L.any p)) w):=by
 have f:=zA (aAk k w h hF);obtain⟨A,c,rfl⟩:=h.slice;obtain⟨b,a⟩:∃b,b=L.any p:=⟨_,rfl⟩;rw[<-a]at f ⊢;clear h hF a;go_enter Tryz.func49,Tryz.ntmps49;go_wp2_with fail
 refine f.out.mono ?_;rintro e w1 ⟨i,rfl,hi,g⟩;have d:=zA g;clear g;cases b with
 |true=>
  have j:i>=0:=hi.2 rfl;go_wp2_with fail
  go_ret;exact⟨rfl,d.out⟩
 |false=>
  have j:¬i>=0:=fun h=>absurd (hi.1 h) (by decide);go_wp2_with fail
  go_ret;exact⟨rfl,d.out⟩
theorem E4{L:List cF}{v:Value}{w:World}(h:bT pK 37 w 0 v L)(j:L.length<=60)(f:∀g∈L,NA g.1 g.2.1 g.2.2.1 g.2.2.2=false):Calls zB 30 #[v] w (GP (jI jJ 0) w):=by
 have d:=zA (a8 (p:=fun g=>NA g.1 g.2.1 g.2.2.1 g.2.2.2) (by omega) w h (fun c _ i _=>aI (ZZ _ _ _ _) i));rw[RP f]at d;obtain⟨A,k,rfl⟩:=h.slice;generalize L.length=n at*;have l:¬((n:Int)>60):=by omega
 clear h f j;go_enter Tryz.func30,Tryz.ntmps30;go_wp2_with fail
 refine d.out.mono ?_;rintro e i ⟨rfl,a⟩;have b:=zA a;clear a d;go_wp2_with fail
 go_ret;exact⟨rfl,b.out⟩
end
section
open Go.RowKit Rg
open Ev (aF)
attribute [local instance] nP
attribute [local go_sem] Oper.semAt_some
theorem ZJ:(zB.info? 33).map (fun i=>(i.zero,i.size,i.bytes))=some (some (.agg #[jI jJ 0,jI jJ 0,jI jJ 0,jI jJ 0]),4,32):=by kernel_rfl
def RL(r:Int×Int×Int×Int×Int)(w:World)(e:Ending)(w':World):Prop:=
 ((r.2.2.2.2=0/\∃v,e=.returned (.tuple #[v,jI jJ 0])/\bT pK 33 w' w.heap.size v [((r.1,r.2.1,r.2.2.1,r.2.2.2.1):cF)])\/(r.2.2.2.2≠0/\e=.returned (.tuple #[.slice none 0 0,jI jJ r.2.2.2.2])))/\Below w.heap.size w w'
theorem Below.set4{B:Nat}{a w:World}(h:Below B a w){b:Nat}(c:B<=b)(x y z u:Value):Below B a ((((w.setCell ⟨b,0,none⟩ x).setCell ⟨b,1,none⟩ y).setCell ⟨b,2,none⟩ z).setCell ⟨b,3,none⟩ u):=(((h.setCell c _).setCell c _).setCell c _).setCell c _
def aEf(w:World)(r:Int×Int×Int×Int×Int)(p:Int×Int×Int×Int)(v7:Value)(wr:World)(i:Nat):Prop:=
 Below w.heap.size w wr/\((i=0/\v7=.slice none 0 0/\B4 wr w.heap.size p.1 p.2.1 p.2.2.1 p.2.2.2)\/(i=1/\r.2.2.2.2=0/\bT pK 33 wr w.heap.size v7 [((r.1,r.2.1,r.2.2.1,r.2.2.2.1):cF)]))
theorem aBk{w i l:World}{a c b:Nat}{d e f g:Int}(o:Below a w i)(q:a<i.heap.size)(n:Below i.heap.size i l)(r:bT pK 33 l a (.slice (some ⟨c,0,none⟩) (([]:List cF).length+1) b) ([]++[((d,e,f,g):cF)]))(m:(Value.slice none 0 0).ownBlock=some c\/i.heap.size<=c):
  Below a w ((((l.setCell ⟨a,0,none⟩ (jI jJ d)).setCell ⟨a,1,none⟩ (jI jJ e)).setCell ⟨a,2,none⟩ (jI jJ f)).setCell ⟨a,3,none⟩ (jI jJ g))/\
  bT pK 33 ((((l.setCell ⟨a,0,none⟩ (jI jJ d)).setCell ⟨a,1,none⟩ (jI jJ e)).setCell ⟨a,2,none⟩ (jI jJ f)).setCell ⟨a,3,none⟩ (jI jJ g)) a (.slice (some ⟨c,0,none⟩) 1 b) [((d,e,f,g):cF)]:=by
 have p:c≠a:=by
  rcases m with h|h
  ·cases h
  ·omega
 have k:∀(w:World) (j:Nat) (v:Value),bT pK 33 w a (.slice (some ⟨c,0,none⟩) 1 b) [((d,e,f,g):cF)]->bT pK 33 (w.setCell ⟨a,j,none⟩ v) a (.slice (some ⟨c,0,none⟩) 1 b) [((d,e,f,g):cF)]:=fun w j v h=>h.kept (gM w ⟨a,j,none⟩ v) (.inr (by simp[Value.ownBlock];exact p));exact⟨Below.set4 (o.trans (n.mono (qZ q))) (zC _) _ _ _ _,k _ _ _ (k _ _ _ (k _ _ _ (k _ _ _ r)))⟩
theorem aB8{a b c d e f u v:Int}{lv:Value}{w:World}(vp:cT a b c d=true)(l:bT pK 37 w 0 lv [((e,f,u,v):cF)])(hg:NA e f u v=false)(hd:Ph a b c d e f u v=true):
  Calls zB 12 #[QV (a,b,c,d),lv] w (RL (Pe a b c d e f u v) w):=by
 obtain⟨r,hr⟩:∃r,r=Pe a b c d e f u v:=⟨_,rfl⟩;have HD:=zA (fun w=>aI (Dx a b c d e f u v hd) w);have HV:=zA (fun w=>aI (fE a b c d) w);rw[vp]at HV;rw[<-hr]at HD ⊢;clear hr hd vp;have K:=zA (Below.new (w:=w) (jC #[jI jJ a,jI jJ b,jI jJ c,jI jJ d] 33));have a3:=zA (show B4 (w.alloc (jC #[jI jJ a,jI jJ b,jI jJ c,jI jJ d] 33)) w.heap.size a b c d from heap_alloc_new w _);have HG:=zA (fun(w1:World) (hb:Below w.heap.size w w1)=>E4 (l.next hb) (by simp) (fun g h=>by rw[qG.1 h];exact hg));obtain⟨A,k,rfl⟩:=l.slice;have b6:=zA l;obtain⟨y,z,B,D,r4⟩:=r;unfold QV;dsimp only;clear l hg;unfold nM at HD;dsimp only[zM,xA]at*;go_enter Tryz.func12,Tryz.ntmps12;go_wp2_with fail
 refine(HV.out _).mono ?_;rintro _ w1 ⟨rfl,R⟩;have G:=zA (K.out.trans (R.mono K.out.size));have a4:=zA (a3.out.next R);have b9:=HG.out w1 G.out;clear R K a3 HV;go_wp2_with fail
 refine b9.mono ?_;rintro _ w2 ⟨rfl,U⟩;have a0:=zA (G.out.trans (U.mono G.out.size));have a5:=zA (a4.out.next U);clear U G a4 HG;go_wp2_with fail
 go_loopw [7,22] (fun v7 X wr=>∃i:Nat,X=jI jJ (i:Int)/\aEf w (y,z,B,D,r4) (a,b,c,d) v7 wr i) (fun _ X _=>1-(intOf X).toNat)
 case atStart=>exact⟨0,rfl,a0.out,.inl ⟨rfl,rfl,a5.out⟩⟩
 case round=>
  clear a0 a5;obtain⟨i,rfl,t,⟨rfl,rfl,V⟩|⟨rfl,Z,J⟩⟩:=hrel
  ·obtain⟨g,c5,he,_,c6,x0,x1,x2,x3,c2,l0,l1,l2,l3⟩:=(b6.out.next t).qua (i:=0) (b:=(e,f,u,v)) rfl;cases he;cases c2;have O:=zA t;have a6:=zA V;obtain⟨⟨p0,p1,p2,p3⟩,_,_,_,_⟩:=(V.next (Below.new (jC #[jI jJ e,jI jJ f,jI jJ u,jI jJ v] 37))).keep;clear t V;go_wp2_with fail
   have N:=zA (Below.new (w:=wr) (jC #[jI jJ e,jI jJ f,jI jJ u,jI jJ v] 37));refine(HD.out _).mono ?_;rintro _ Y ⟨rfl,b0⟩;have m:=zA (N.out.trans (b0.mono N.out.size));have L:=zA (O.out.trans (m.out.mono O.out.size));have Q:=zA (a6.out.next m.out);have n:=zA (Below.new (w:=Y) (jC #[jI jJ y,jI jJ z,jI jJ B,jI jJ D] 33));have H:=zA (L.out.trans (n.out.mono L.out.size));have o:=zA (Q.out.next n.out);have j:=zA (show B4 (Y.alloc (jC #[jI jJ y,jI jJ z,jI jJ B,jI jJ D] 33)) Y.heap.size y z B D from heap_alloc_new Y _);have I:w.heap.size<Y.heap.size:=Q.out.lt;clear b0 p0 p1 p2 p3 l0 l1 l2 l3 O a6 N m Q L n HD;by_cases Z:r4=0
   ·subst Z;go_upto_region 13 with fail
    obtain⟨p,a7⟩:∃p,p=Y.alloc (jC #[jI jJ y,jI jJ z,jI jJ B,jI jJ D] 33):=⟨_,rfl⟩;rw[<-a7]at H o j ⊢;obtain⟨g9,b1⟩:∃g9,g9=Y.heap.size:=⟨_,rfl⟩;rw[<-b1]at j I ⊢;obtain⟨bw,x⟩:∃bw,bw=w.heap.size:=⟨_,rfl⟩;rw[<-x]at H o I ⊢;clear a7 b1;have c4:=zA I;have b4:=zA x;clear I x;have a2:=zA (show bT pK 33 p bw (.slice none 0 0) []from bT.nil);have b5:=zA (show bw<=p.heap.size from qZ o.out.lt);obtain⟨d0,d1,d2,d3⟩:=j.out.keep.1;obtain⟨e0,e1,e2,e3⟩:=(j.out.next (zD p.heap.size p).drew).keep.1;obtain⟨h0,h1,h2,h3⟩:=(j.out.next (Below.new (jC #[jI jJ y,jI jJ z,jI jJ B,jI jJ D] 33))).keep.1;obtain⟨i0,i1,i2,i3⟩:=(j.out.next ((zD p.heap.size p).drew.alloc (zC _) (jC #[jI jJ y,jI jJ z,jI jJ B,jI jJ D] 33))).keep.1;have b3:=World.new_ne p _ d0;have c0:¬g9=p.heap.size:=fun e=>b3 e.symm;go_region_law (first
      |(refine rJ (E:=pK) p (by (repeat' first|(with_reducible exact zD _ _)|(with_reducible refine Below.drew ?_)|(with_reducible refine Below.alloc ?_ ?_ _)|exact zC _)) (by rfl) _ _ _ (by rfl) 33 (.agg #[jI jJ 0,jI jJ 0,jI jJ 0,jI jJ 0]) 32 Tryz.underlying35 ZJ (by rfl) (by decide) (by omega) bw (.slice none 0 0) [] (by rfl) a2.out _ ((y,z,B,D):cF) #[jI jJ y,jI jJ z,jI jJ B,jI jJ D] 1 (by rfl) ⟨_,_,heap_alloc_new _ _⟩ (by rfl) (by simp) b5.out ?_;intro g3 c3 w4 s ho b2 a9;have M:=zA (s.grown b2 s.size (fun q hq=>by cases hq));obtain⟨m0,m1,m2,m3⟩:=(j.out.next M.out).keep.1;obtain⟨⟨q0,q1,q2,q3⟩,f0,f1,f2,f3⟩:=(o.out.next M.out).keep;have a1:=zA (aBk H.out o.out.lt M.out ho a9);clear s ho b2 a9)
      |fail)
    all_goals (
     clear b3 c0;go_wp2_with fail
     obtain⟨b7,b8⟩:=a1.out;have x:=b4.out;subst x;go_roundw
     case rel=>exact⟨1,rfl,b7,.inr ⟨rfl,rfl,b8⟩⟩
     case measure=>simp[intOf])
   ·have c7:(r4 != 0)=true:=bne_iff_ne.2 Z;have HF:=zA (show ∀W',Below w.heap.size w W'->RL (y,z,B,D,r4) w (.returned (.tuple #[.slice none 0 0,jI jJ r4])) W' from fun W' hb=>⟨.inr ⟨Z,rfl⟩,hb⟩);go_wp2_with fail
    go_ret2
    exact HF.out _ H.out
  ·have HF:=zA (show RL (y,z,B,D,r4) w (.returned (.tuple #[u7,jI jJ 0])) wr from⟨.inl ⟨Z,_,rfl,J⟩,t⟩);clear t Z J;go_wp2_with fail
   go_ret2
   exact HF.out
end
section
open Go.RowKit Rg
open Ev (aF)
attribute [local instance] nP
theorem aCJ:eM (oL 0 (fun a b=>((Sj a b).1,(Sj a b).2.1,(Sj a b).2.2.1,(Sj a b).2.2.2,0))) 2=true:=by kernel_rfl
theorem aCK:eM (oL 1 (fun a b=>((Sk a b).1,(Sk a b).2.1,(Sk a b).2.2.1,(Sk a b).2.2.2,0))) 8=true:=by kernel_rfl
theorem aCL:eM (oL 2 (fun a b=>((Sl a b).1,(Sl a b).2.1,(Sl a b).2.2.1,(Sl a b).2.2.2,0))) 32=true:=by kernel_rfl
theorem aCM:eM (oL 3 (fun a b=>((Sm a b).1,(Sm a b).2.1,(Sm a b).2.2.1,(Sm a b).2.2.2,0))) 128=true:=by kernel_rfl
theorem aCN:eM (oL 4 (fun a b=>((So a b).1,(So a b).2.1,(So a b).2.2.1,(So a b).2.2.2,0))) 512=true:=by kernel_rfl
theorem aCO:eM (oL 5 (fun a b=>((Sq a b).1,(Sq a b).2.1,(Sq a b).2.2.1,(Sq a b).2.2.2,0))) 2048=true:=by kernel_rfl
theorem O4(b:Rg.Blk)(i:b.l<=5)(j:b.n<2*4^b.l)(w:World):Calls zB 17 #[dD b] w (GP (QV (qB b)) w):=by
 obtain⟨l,n⟩:=b;dsimp only at i j ⊢;rcases(show l=0\/l=1\/l=2\/l=3\/l=4\/l=5 by omega)with rfl|rfl|rfl|rfl|rfl|rfl
 ·have h:=aI (Ig (aM 0 n:Int) (aN 0 n:Int)) w;have e:Sj (aM 0 n:Int) (aN 0 n:Int)=qB ⟨0,n⟩:=by
   have a:=cM aCJ (n:=n) (by omega);simp only[Prod.mk.injEq]at a;obtain⟨c,d,f,g,_⟩:=a;exact Prod.ext c (Prod.ext d (Prod.ext f g))
  rw[e]at h;exact h
 ·have h:=aI (Ih (aM 1 n:Int) (aN 1 n:Int)) w;have e:Sk (aM 1 n:Int) (aN 1 n:Int)=qB ⟨1,n⟩:=by
   have a:=cM aCK (n:=n) (by omega);simp only[Prod.mk.injEq]at a;obtain⟨c,d,f,g,_⟩:=a;exact Prod.ext c (Prod.ext d (Prod.ext f g))
  rw[e]at h;exact h
 ·have h:=aI (Ii (aM 2 n:Int) (aN 2 n:Int)) w;have e:Sl (aM 2 n:Int) (aN 2 n:Int)=qB ⟨2,n⟩:=by
   have a:=cM aCL (n:=n) (by omega);simp only[Prod.mk.injEq]at a;obtain⟨c,d,f,g,_⟩:=a;exact Prod.ext c (Prod.ext d (Prod.ext f g))
  rw[e]at h;exact h
 ·have h:=aI (Ij (aM 3 n:Int) (aN 3 n:Int)) w;have e:Sm (aM 3 n:Int) (aN 3 n:Int)=qB ⟨3,n⟩:=by
   have a:=cM aCM (n:=n) (by omega);simp only[Prod.mk.injEq]at a;obtain⟨c,d,f,g,_⟩:=a;exact Prod.ext c (Prod.ext d (Prod.ext f g))
  rw[e]at h;exact h
 ·have h:=aI (Ik (aM 4 n:Int) (aN 4 n:Int)) w;have e:So (aM 4 n:Int) (aN 4 n:Int)=qB ⟨4,n⟩:=by
   have a:=cM aCN (n:=n) (by omega);simp only[Prod.mk.injEq]at a;obtain⟨c,d,f,g,_⟩:=a;exact Prod.ext c (Prod.ext d (Prod.ext f g))
  rw[e]at h;exact h
 ·have h:=aI (Il (aM 5 n:Int) (aN 5 n:Int)) w;have e:Sq (aM 5 n:Int) (aN 5 n:Int)=qB ⟨5,n⟩:=by
   have a:=cM aCO (n:=n) (by omega);simp only[Prod.mk.injEq]at a;obtain⟨c,d,f,g,_⟩:=a;exact Prod.ext c (Prod.ext d (Prod.ext f g))
  rw[e]at h;exact h
end
section
open Go Go.RowKit
def cL(B:Nat)(I:World->Prop):Prop:=
 (∀X Y,I X->Below X.heap.size X Y->I Y)/\∀X k o o',I X->B<=k->X.heap[k]? =some o->o.isCells=false->I (X.putObj k o')
theorem cL.and{B:Nat}{I J:World->Prop}(h:cL B I)(k:cL B J):cL B (fun W=>I W/\J W):=
 ⟨fun X Y a b=>⟨h.1 X Y a.1 b,k.1 X Y a.2 b⟩,fun X j o f a c e d=>⟨h.2 X j o f a.1 c e d,k.2 X j o f a.2 c e d⟩⟩
theorem cL.ex{β:Type}{B:Nat}{I:β->World->Prop}(h:∀b,cL B (I b)):cL B (fun W=>∃b,I b W):=
 ⟨fun X Y ⟨b,a⟩ d=>⟨b,(h b).1 X Y a d⟩,fun X j o g ⟨b,a⟩ c f e=>⟨b,(h b).2 X j o g a c f e⟩⟩
theorem cL.pure{B:Nat}(p:Prop):cL B (fun _=>p):=⟨fun _ _ h _=>h,fun _ _ _ _ h _ _ _=>h⟩
theorem cL.kept{B:Nat}{I:World->Prop}(h:∀X Y row,I X->X.grownBy Y row->(∀r,row=some r->∃o:Obj,X.heap[r]? =some o/\o.isCells=false)->I Y):cL B I:=
 ⟨fun X Y a b=>h X Y none a ⟨b.os,b.tape,b.output,b.size,fun k d _=>b.block k d⟩ (fun r e=>by cases e),fun X k o g a _ f c=>h X _ (some k) a (grownBy_putObj' X k g) (fun r e=>by cases e;exact⟨o,f,c⟩)⟩
theorem cL.below{B n₀:Nat}{w0:World}(b:n₀<=w0.heap.size)(f:n₀<=B):cL B (fun W=>Below n₀ w0 W):=
 ⟨fun X Y a c=>a.trans (c.mono (zJ b a.size)),fun X k o d a g h _=>a.grown (grownBy_putObj' X k d) (zJ b a.size) (fun j e=>by cases e;omega)⟩
theorem cL.obj{B b:Nat}{o:Obj}(d:b<B):cL B (fun W=>W.heap[b]? =some o):=
 ⟨fun X Y a c=>(c.block b (Array.getElem?_eq_some_iff.1 a).1).trans a,fun X k g f a e _ _=>(yY (by omega)).trans a⟩
def aEe{α:Type}(n:Nat)(P:Program)(g:Nat)(lb:Array Value)(encs:α->Array Value)(Kp:World->World->Prop)(R:α->World->Prop)(S Sp:List α->Prop)(N:Nat)(w:World):Prop:=
 ∀(l:Nat) (J Jx:List α->World->Prop) (W:World),Below w.heap.size w W->(∀s X Y,J s X->Below X.heap.size X Y->J s Y)->(∀s X Y,Jx s X->Below X.heap.size X Y->Jx s Y)->
  (∀pre x W1,J pre W1->R x W1->pre.length<N->YieldAt Fence.wide (n-1) P l (encs x) W1 fun e W'=>
   (e=.returned (.bool true)/\J (pre++[x]) W'/\Kp W1 W')\/(e=.returned (.bool false)/\Jx (pre++[x]) W'))->
  J [] W->CallsIn Fence.wide n P g (#[.func (.yield l) #[] #[]]++lb) W fun e W'=>(∃v,e=.returned v)/\((∃xs,S xs/\J xs W')\/∃pre,Sp pre/\Jx pre W')
def aGo{α:Type}(Kp:World->World->Prop)(I Ix:List α->World->Prop)(xs:List α)(W:World):Exit->Act->World->Prop
 | .normal,_,W'=>KeepsOthers W W'/\Kp W W'/\I xs W'
 | .ret,_,W'=>KeepsOthers W W'/\Ix xs W'
 |_,_,_=>False
theorem aAZ{α:Type}{n:Nat}{P:Program}{g:Operand}{ps:Array Tmp}{assign body:Code}{Q:Exit->Act->World->Prop}{a:Act}{w:World}(h1:1<=n){gf:Nat}{lb:Array Value}
  (hg:a.eval g=.func (.func gf) #[] lb)(eg:∀args w,(callFunc gf args).run P w=.ok (.enter gf args) w){f:α->Array Value}{E:World->World->Prop}{R:α->World->Prop}{S Sp:List α->Prop}{N:Nat}
  (a4:aEe (n-1) P gf lb f E R S Sp N w)(a2:∀{A B C:World},E A B->E B C->E A C)(a1:∀(W:World) (l:Nat) (o o':Obj),W.heap[l]? =some o->o.isCells=false->E W (W.putObj l o'))
  (b7:∀x,(f x).size=ps.size)(I Ix:List α->World->Prop)(hI:∀s,cL w.heap.size (I s))(G:∀s,cL w.heap.size (Ix s))(hR:∀x,cL w.heap.size (R x))(h0:I [] w)
  (u:∀(l:Nat) (pre:List α) (x:α) (W:World),pre.length<N->assign.wpIn (Fence.wide.inRound l) (n-1-1) P (Exit.then (fun a₁ W₁=>W₁=W/\∀V,I pre V->R x V->body.wpIn (Fence.wide.inRound l) (n-1-1) P (aGo E I Ix (pre++[x]) V) a₁ V) (fun _ _ _=>False))
   {tmps:=(ps.zip (f x)).foldl (fun t (p,v)=>t.setIfInBounds p v) a.tmps,defers:=[]} W)
  (K:∀(D:Nat) (xs:List α) (W:World),w.heap.size<=D->S xs->I xs W->W.heap[D]? =some (.deferred (some []))->Q .normal {a with defers:={target:=.collected D,args:= #[]}::a.defers} W)
  (Z:∀(D:Nat) (pre:List α) (W:World),w.heap.size<=D->Sp pre->Ix pre W->W.heap[D]? =some (.deferred (some []))->Code.ret.wpIn Fence.wide n P Q {a with defers:={target:=.collected D,args:= #[]}::a.defers} W):
  (Code.rangeFunc g ps assign body).wpIn Fence.wide n P Q a w:=by
 refine wpIn_rangeFunc fun fn b1=>?_;obtain⟨rec,c⟩:∃rec:LoopState->Option Code->Loop,rec=fun st pe=>{state:=st,pending:=pe,fn,tmps:=a.tmps,params:=ps,assign,body,defers:=w.heap.size}:=⟨_,rfl⟩;obtain⟨b,hb⟩:∃b,b=w.heap.size:=⟨_,rfl⟩;obtain⟨q,r⟩:∃q,(w.alloc (.deferred (some []))).alloc (.loop (rec .ready none))=q:=⟨_,rfl⟩;have a0:Below w.heap.size w q:=by rw[<-r];exact((zD _ w).alloc (zC _) _).alloc (by simp) _
 have a6:q.heap[b+ 1]? =some (.loop (rec .ready none)):=by
  rw[<-r,hb];have:=World.alloc_heap_new (w.alloc (.deferred (some []))) (.loop (rec .ready none));rwa[qF]at this
 have a5:q.heap[b]? =some (.deferred (some [])):=by
  rw[<-r,hb];exact(zW _ _ _ (by simp)).trans (World.alloc_heap_new w _)
 have kp:∀{X Y:World} {k:Nat} {o:Obj},X.heap[k]? =some o->Below X.heap.size X Y->Y.heap[k]? =some o:=fun h hb=>(hb.block _ (Array.getElem?_eq_some_iff.1 h).1).trans h;refine⟨b+1,[{target:=.collected b,args:= #[]}],q,{target:=.fn (.func gf) lb,args:= #[.func (.yield (b+1)) #[] #[]]},q,gf,#[.func (.yield (b+1)) #[] #[]]++lb,q,?_,?_,fun _ _=>trivial,?_,fun _=>h1,?_⟩
 ·rw[<-r,c,hb];exact run_enterLoop_outer _ _ _ _ _
 ·simp only[resolve,hg];simp[go_sem]
 ·simp[invoke,go_sem,eg]
 ·refine(a4 (b+1) (fun s W=>I s W/\W.heap[b+ 1]? =some (.loop (rec .ready none))/\W.heap[b]? =some (.deferred (some [])))
   (fun s W=>Ix s W/\W.heap[b+ 1]? =some (.loop (rec .done (some .ret)))/\W.heap[b]? =some (.deferred (some []))) q a0
   (fun s X Y h k=>⟨(hI s).1 X Y h.1 k,kp h.2.1 k,kp h.2.2 k⟩) (fun s X Y h k=>⟨(G s).1 X Y h.1 k,kp h.2.1 k,kp h.2.2 k⟩) ?_ ⟨(hI []).1 w q h0 a0,a6,a5⟩).mono ?_
  ·rintro pre x W ⟨hi,m,hd⟩ hr hN;have hy:=run_yield (P:=P) (args:=f x) m (by rw[c];exact b7 x);rw[c]at hy;have b6:=(Array.getElem?_eq_some_iff.1 m).1;refine⟨fn,_,assign,body,hy,roundIn_of_wpIn b1 (wpIn_mono (u _ pre x W hN) ?_)⟩;intro ea a₁ W₁ j;cases ea with
   |exit id=>exact j.elim
   |goto t=>exact j.elim
   |ret=>exact j.elim
   |panic ch=>exact j.elim
   |outgrown=>exact j.elim
   |normal=>
   obtain⟨a9,H⟩:=j;rw[a9];refine⟨_,run_beginRound m (by rw[c]),?_⟩;obtain⟨V,hV⟩:∃V,V=W.putObj (b+1) (.loop {rec .ready none with state:=.busy}):=⟨_,rfl⟩;have b5:V.heap[b+ 1]? =some (.loop {rec .ready none with state:=.busy}):=by rw[hV];exact World.putObj_heap_same b6
   have b0:V.heap[b]? =some (.deferred (some [])):=by rw[hV];exact(yY (by omega)).trans hd
   have b3:E W V:=by rw[hV];exact a1 _ _ _ _ m rfl
   have b2:I pre V:=by rw[hV];exact(hI pre).2 W _ _ _ hi (by omega) m rfl
   have b8:R x V:=by rw[hV];exact(hR x).2 W _ _ _ hr (by omega) m rfl
   rw[<-hV];refine wpIn_mono (H V b2 b8) ?_;have fin:∀(d:Option Code) (y:World),KeepsOthers V y->∃U:World,(Instr.endRound (b+1) d).run P y=.ok (.bool d.isNone) U/\U=y.putObj (b+1) (.loop (rec (if d.isNone then .ready else .done) d))/\
     (∃o:Obj,y.heap[b+ 1]? =some o/\o.isCells=false)/\U.heap[b+ 1]? =some (.loop (rec (if d.isNone then .ready else .done) d))/\U.heap[b]? =some (.deferred (some [])):=fun d y i=>by
    have M:=i.same _ _ b5 rfl;have z:=run_endRound (P:=P) d M;rw[c]at z ⊢;exact⟨_,z,rfl,⟨_,M,rfl⟩,World.putObj_heap_same (Array.getElem?_eq_some_iff.1 M).1,(yY (by omega)).trans (i.same _ _ b0 rfl)⟩
   rintro e a3 y hp;cases e with
   |normal=>
    obtain⟨i,b4,L⟩:=hp;obtain⟨U,hr,hU,⟨o,ho,hc⟩,O,J⟩:=fin none y i;exact⟨_,_,hr,.inl ⟨rfl,⟨by rw[hU];exact(hI _).2 _ _ _ _ L (by omega) ho hc,O,J⟩,a2 (a2 b3 b4) (by rw[hU];exact a1 _ _ _ _ ho hc)⟩⟩
   |ret=>
    obtain⟨i,L⟩:=hp;obtain⟨U,hr,hU,⟨o,ho,hc⟩,O,J⟩:=fin (some .ret) y i;exact⟨_,_,hr,.inr ⟨rfl,by rw[hU];exact(G _).2 _ _ _ _ L (by omega) ho hc,O,J⟩⟩
   |exit id=>exact hp.elim
   |goto t=>exact hp.elim
   |panic ch=>exact hp.elim
   |outgrown=>exact hp.elim
  ·rintro e W2 ⟨⟨v,rfl⟩,⟨xs,hS,hi,m,hd⟩|⟨pre,a7,hi,m,hd⟩⟩
   ·have z:=run_endLoop (P:=P) m (by rw[c];simp);rw[c]at z;exact⟨none,_,z,K b xs _ (by omega) hS ((hI xs).2 _ _ _ _ hi (by omega) m rfl) ((yY (by omega)).trans hd)⟩
   ·have z:=run_endLoop (P:=P) m (by rw[c];simp);rw[c]at z;exact⟨some .ret,_,z,Z b pre _ (by omega) a7 ((G pre).2 _ _ _ _ hi (by omega) m rfl) ((yY (by omega)).trans hd)⟩
end
section
open Go.RowKit Rg
open Ev (aF lt Gl)
attribute [local instance] nP
def Is(c:fT)(b:Rg.Blk):Bool:= !decide (b.l<=5/\b.n<2*4^b.l)||DM b c
def suV(c:fT)(b:Rg.Blk):Bool:=Aj [c] b
def MA(c:fT)(level:Nat)(L:List Rg.Blk):Int ⊕ List Rg.Blk:=
 match looks (Is c) (suV c) level L (0,[])with
 |none=>.inl 6
 |some s=>if 4000<(AJ s.2 []).length then .inl 4 else if (AJ s.2 []).length=0 then .inl 23 else .inr (AJ s.2 []).reverse
def UJ(level:Nat)(g:cF)(L:List Rg.Blk):Int ⊕ List Rg.Blk:=iM (Yu (dF g) (fJ g) level) L (some [])
def bnd(r:Int ⊕ List Rg.Blk)(f:List Rg.Blk->Int ⊕ List Rg.Blk):Int ⊕ List Rg.Blk:=
 match r with
 | .inl e=>.inl e
 | .inr L=>f L
def wD(level:Nat):List cF->Int ⊕ List Rg.Blk->Int ⊕ List Rg.Blk
 | [],r=>r
 |g::l,r=>wD level l (bnd r (UJ level g))
def eA(level:Nat)(d:fT×List cF)(r:Int ⊕ List Rg.Blk):Int ⊕ List Rg.Blk:=bnd (wD level d.2 r) (MA d.1 level)
def dB(level:Nat):List (fT×List cF)->Int ⊕ List Rg.Blk->List (Int ⊕ List Rg.Blk)
 | [],_=>[]
 |d::l,r=>eA level d r::match eA level d r with
  | .inl _=>[]
  | .inr L=>dB level l (.inr L)
theorem aEh{c:fT}{A:Option Addr}{f:Nat}{a:World}(h:bT oS 49 a 0 (.slice A 1 f) [c])(p:kE c.1 c.2.1 c.2.2.1 c.2.2.2.1 c.2.2.2.2.1 c.2.2.2.2.2=true):CirH a A 1 f (Is c) (suV c):=by
 have k:=aEv (L:=[c]) (by omega) h (fun d o=>by rw[qG.1 o];exact p);refine⟨k.ok,k.few,⟨fun b g i x y z r w j q m=>?_,k.agr.sure⟩⟩;have e:Is c b=AO [c] b:=by
  unfold Is AO;rw[decide_eq_true (show b.l<=5/\b.n<2*4^b.l from⟨g,i⟩)];simp
 rw[e];exact k.agr.agr b g i x y z r w j q m
theorem TP{c:fT}{level:Nat}(k:level<=5){L b:List Rg.Blk}(e:Reg L)(h:MA c level L=.inr b):Reg b/\0<b.length:=by
 unfold MA at h;split at h
 ·cases h
 ·rename_i s f;split at h
  ·cases h
  ·split at h
   ·cases h
   ·rename_i i j;cases h;obtain⟨t1,t2,_⟩:=TO (P:=fun _ _=>False) (fun _ _ _ h=>h.elim) e.tidy e.top f;have g:Lv (AJ s.2 []).reverse 5:=Mk (by omega) (by omega) (fun d a=>(e.okc d a).1) f;exact⟨⟨t1,fun d a=>⟨g d a,AF (g d a) (t2 d a)⟩,by rw[zS];omega⟩,by rw[zS];omega⟩
theorem ZO{f:Rg.Blk->Int ⊕ List Rg.Blk}:∀(l S L:List Rg.Blk),(∀c∈l,∀A,f c=.inr A->Reg A)->Reg S->iM f l (some S)=.inr L->Reg L
 | [],S,L,_,a,h=>by
  cases h;exact a
 |c::l,S,L,b,a,h=>by
  unfold iM at h;split at h
  ·cases h
  ·rename_i A e;dsimp only at h;split at h
   ·rename_i i;exact ZO l _ L (fun d g=>b d (List.mem_cons_of_mem _ g)) (a.union (b c List.mem_cons_self A e) i) h
   ·exact absurd h (EP f l L)
theorem aAF{g:cF}(k:lX g){level:Nat}(f:level<=5){b:Rg.Blk}(m:b.l<=5)(o:b.n<2*4^b.l){A:List Rg.Blk}(h:Yu (dF g) (fJ g) level b=.inr A):Reg A:=by
 obtain⟨d,e⟩:=wG k;obtain⟨q,e,_,a|⟨_,c,_,j,i⟩⟩:=aDu (d1:=dF g) (d2:=fJ g) (by omega) (by omega) f b m o
 ·rw[a.2]at h;cases h
 ·cases c with
  |none=>
   rw[j rfl]at h;cases h
  |some B=>
   obtain⟨p,r,_⟩:=i B rfl;rw[p]at h;cases h;exact r
theorem TL{g:cF}(i:lX g){level:Nat}(e:level<=5){L a:List Rg.Blk}(d:Reg L)(h:UJ level g L=.inr a):Reg a:=
 ZO L [] a (fun c b _ f=>aAF i e (d.okc c b).1 (d.okc c b).2 f) Reg.nil h
theorem aDs{g:cF}(a:lX g){level:Nat}(b:level<=5){L:List Rg.Blk}(l:Reg L){w:World}{v:Value}(m:RC w 0 v L)(i:∀k,v.ownBlock=some k->k<w.heap.size):
  Calls zB 69 #[v,.agg #[jI jJ g.1,jI jJ g.2.1,jI jJ g.2.2.1,jI jJ g.2.2.2],jI jJ (level:Int)] w (kH w (UJ level g L)):=by
 obtain⟨c,d⟩:=wG a;have j:aAQ g.1 g.2.1 g.2.2.1 g.2.2.2=true:=by
  unfold aAQ;rw[a.1,decide_eq_true (show 0<=g.2.2.1/\g.2.2.1<=g.2.2.2/\g.2.2.2<=268435456 from⟨a.2.1,a.2.2.1,by have:=a.2.2.2;omega⟩)];rfl
 have h:=Yq (x1:=(dF g).1) (y1:=(dF g).2) (x2:=(fJ g).1) (y2:=(fJ g).2) (e:=0) (level:=level) (f:=Yu (dF g) (fJ g) level) Jg (fun w=>aI (Ge g.1 g.2.1 g.2.2.1 g.2.2.2 j) w)
  (fun _ _ _=>⟨aDu (d1:=dF g) (d2:=fJ g) (by omega) (by omega) b,fun w=>by
   have:=aI (US (dF g).1 (dF g).2 (fJ g).1 (fJ g).2) w;rw[show Iu (dF g).1 (dF g).2 (fJ g).1 (fJ g).2=true by
    unfold Iu FD;rw[aW (show -1099511627776<=(dF g).1 by omega) c.2.1 (by omega),aW (show -1099511627776<=(fJ g).1 by omega) d.2.1 (by omega),decide_eq_true (show(dF g).1>=-10800000 by omega),decide_eq_true (show(dF g).2<=10800000 by omega),decide_eq_true (show(fJ g).1>=-10800000 by omega),decide_eq_true (show(fJ g).2<=10800000 by omega)];rfl]at this
   exact this⟩) b l m i
 rw[if_pos rfl,if_pos (by
  unfold gT;dsimp only;rw[decide_eq_true (show -10800000<=(dF g).1 by omega),decide_eq_true (show(dF g).2<=10800000 by omega),decide_eq_true (show -10800000<=(fJ g).1 by omega),decide_eq_true (show(fJ g).2<=10800000 by omega)];rfl)]at h
 exact h
structure KpT (W W':World):Prop where
 size:W.heap.size<=W'.heap.size
 same:∀(k:Nat) (vs:Array Value) (t:TypeId) (r:Nat×Nat),W.heap[k]? =some (Obj.cells vs t r)->t≠60->t≠57->W'.heap[k]? =some (Obj.cells vs t r)
theorem KpT.trans{A B C:World}(h:KpT A B)(k:KpT B C):KpT A C:=⟨zJ h.size k.size,fun i c t r hi a b=>k.same i c t r (h.same i c t r hi a b) a b⟩
theorem KpT.below{W a:World}(h:Below W.heap.size W a):KpT W a:=⟨h.size,fun k _ _ _ b _ _=>(h.block k (Array.getElem?_eq_some_iff.1 b).1).trans b⟩
theorem KpT.putObj{W:World}{l:Nat}{o:Obj}(c:Obj)(h:W.heap[l]? =some o)(b:o.isCells=false):KpT W (W.putObj l c):=
 ⟨by simp,fun k d t r a _ _=>by
  by_cases e:k=l
  ·subst e;rw[h]at a;cases a;cases b
  ·exact(yY e).trans a⟩
theorem bT.kpt{α:Type}{E:Elem α}{e:TypeId}{w w':World}{B:Nat}{v:Value}{l:List α}(h:bT E e w B v l)(f:e≠60)(i:e≠57)(m:KpT w w'):bT E e w' B v l:=by
 obtain⟨a,b⟩:=h;refine⟨a,?_⟩;rcases b with b|⟨g,c,d,n,j,k,r⟩
 ·exact .inl b
 ·exact .inr ⟨g,c,d,n,j,m.same g _ _ _ k f i,r⟩
end
section
open Go Go.RowKit Go.Shelf Rg
open Ev (aF)
attribute [local instance] nP
attribute [local go_sem] Oper.semAt_some
def XF:Int ⊕ List Rg.Blk->Int
 | .inl e=>e
 | .inr _=>0
theorem wS(e:Int):XF (.inl e)=e:=rfl
theorem KK(L:List Rg.Blk):XF (.inr L)=0:=rfl
attribute [local go_sem] wS KK
def YQ(x:Value×(Int ⊕ List Rg.Blk))(W:World):Prop:=
 match x.2 with
 | .inl e=>e≠0
 | .inr L=>RC W 0 x.1 L/\Reg L/\0<L.length
structure EnvI (W:World) (bP bL bC bR:Nat) (p:cF) (level:Nat) (cv lv:Value) (D:List (fT×List cF)) (S:List sK):Prop where
 plc:W.heap[bP]? =some (Obj.cells #[jI jJ p.1,jI jJ p.2.1,jI jJ p.2.2.1,jI jJ p.2.2.2] 33 (0,0))
 lev:W.heap[bL]? =some (Obj.cells #[jI jJ (level:Int)] 3 (0,0))
 cir:W.heap[bC]? =some (Obj.cells #[cv] 28 (0,0))
 run:W.heap[bR]? =some (Obj.cells #[lv] 29 (0,0))
 rowC:bT oS 49 W 0 cv (D.map (·.1))
 rowS:bT SK 56 W 0 lv S
 legs:∀j s,S[j]? =some s->∃d,D[j+ 1]? =some d/\bT pK 37 W 0 (.slice s.1 s.2.1 s.2.2) d.2
theorem EnvI.kpt{W b:World}{f e c g:Nat}{p:cF}{level:Nat}{cv i:Value}{D:List (fT×List cF)}{S:List sK}(h:EnvI W f e c g p level cv i D S)(a:KpT W b):EnvI b f e c g p level cv i D S:=
 ⟨a.same _ _ _ _ h.plc (by decide) (by decide),a.same _ _ _ _ h.lev (by decide) (by decide),a.same _ _ _ _ h.cir (by decide) (by decide),a.same _ _ _ _ h.run (by decide) (by decide),h.rowC.kpt (by decide) (by decide) a,h.rowS.kpt (by decide) (by decide) a,
  fun j s m=>by
   obtain⟨d,k,l⟩:=h.legs j s m;exact⟨d,k,l.kpt (by decide) (by decide) a⟩⟩
theorem VX{W:World}{b:Nat}{v:Value}{t:TypeId}(h:W.heap[b]? =some (Obj.cells #[v] t (0,0))):W.cell? ⟨b,0,none⟩=some v:=by simp[World.cell?,h]
structure GivI (p:cF) (level:Nat) (D:List (fT×List cF)) (S:List sK):Prop where
 vp:cT p.1 p.2.1 p.2.2.1 p.2.2.2=true
 kp:iY p.2.2.1 p.2.2.2
 lev:level<=5
 len:D.length=S.length+1
 few:D.length<=40
 first:∀d,D[0]? =some d->d.2=[]
 cir:∀d∈D,kE d.1.1 d.1.2.1 d.1.2.2.1 d.1.2.2.2.1 d.1.2.2.2.2.1 d.1.2.2.2.2.2=true
 leg:∀d∈D,d.2.length<=60/\∀g∈d.2,lX g
def dV(p:cF)(level:Nat):Int ⊕ List Rg.Blk:=U4 (bX (gF p) (fI p) (min 4 level))
def S0(r:Int ⊕ List Rg.Blk)(v:Value)(W:World):Prop:=
 match r with
 | .inl e=>e≠0
 | .inr L=>RC W 0 v L/\Reg L
theorem S0.next{r:Int ⊕ List Rg.Blk}{v:Value}{W a:World}(h:S0 r v W)(b:Below W.heap.size W a):S0 r v a:=by
 unfold S0 at*;cases r with
 |inl e=>exact h
 |inr L=>exact⟨h.1.next b,h.2⟩
theorem Od{p:cF}{level:Nat}(f:level<=5){w w':World}{e:Ending}(h:iE w (bX (gF p) (fI p) (min 4 level)) e w'):∃r v,r=dV p level/\e=.returned (.tuple #[v,jI jJ (XF r)])/\S0 r v w'/\Below w.heap.size w w':=by
 obtain⟨⟨L,v,a,b,d⟩|⟨a,b⟩,c⟩:=h
 ·refine⟨.inr L,v,?_,b,⟨d.mono (zO _),rF (by omega) a⟩,c⟩;unfold dV;rw[a];rfl
 ·refine⟨.inl 4,.slice none 0 0,?_,b,(show(4:Int)≠0 by omega),c⟩;unfold dV;rw[a];rfl
theorem aB1{f:Rg.Blk->Int ⊕ List Rg.Blk}{l S:List Rg.Blk}{e:Int}(h:∀c∈l,∀e,f c=.inl e->e≠0)(a:iM f l (some S)=.inl e):e≠0:=CE (p:=fun e=>e≠0) (by omega) l _ e h a
theorem aDt{g:cF}(n:lX g){level:Nat}(l:level<=5){L:List Rg.Blk}(f:Reg L){e:Int}(h:UJ level g L=.inl e):e≠0:=
 aB1 (fun c b x a=>by
  obtain⟨d,e⟩:=wG n;obtain⟨q,e,_,⟨j,k⟩|⟨_,i,_,o,m⟩⟩:=aDu (d1:=dF g) (d2:=fJ g) (by omega) (by omega) l c (f.okc c b).1 (f.okc c b).2
  ·rw[k]at a;cases a;exact j
  ·cases i with
   |none=>
    rw[o rfl]at a;cases a;omega
   |some B=>
    rw[(m B rfl).1]at a;cases a) h
theorem aG2{g:cF}(f:lX g){level:Nat}(c:level<=5){L:List Rg.Blk}(i:Reg L){w w':World}{e:Ending}(h:kH w (UJ level g L) e w'):∃v,e=.returned (.tuple #[v,jI jJ (XF (UJ level g L))])/\S0 (UJ level g L) v w'/\Below w.heap.size w w':=by
 obtain⟨⟨A,v,a,b,j⟩|⟨x,a,b⟩,d⟩:=h
 ·refine⟨v,by rw[a];exact b,?_,d⟩;rw[a];exact⟨j.mono (zO _),TL f c i a⟩
 ·refine⟨.slice none 0 0,by rw[a];exact b,?_,d⟩;rw[a];exact aDt f c i a
theorem aFY{c:fT}{level:Nat}{L:List Rg.Blk}{w w':World}{e:Ending}(h:pM w (looks (Is c) (suV c) level L (0,[])) e w'):
  ((∃A n k d,e=.returned (.tuple #[.slice A n k,jI jJ 0])/\n=d.length/\RC w' 0 (.slice A n k) d/\((n=0/\MA c level L=.inl 23)\/(0<n/\MA c level L=.inr d)))\/∃x:Int,x≠0/\e=.returned (.tuple #[.slice none 0 0,jI jJ x])/\MA c level L=.inl x)/\Below w.heap.size w w':=by
 obtain⟨⟨s,v,a,i,b,j⟩|⟨s,a,i,b⟩|⟨a,b⟩,g⟩:=h
 ·obtain⟨A,k,rfl⟩:=j.slice;refine⟨.inl ⟨A,_,k,_,b,rfl,j.mono (zO _),?_⟩,g⟩;rw[zS];unfold MA;rw[a];dsimp only;rw[if_neg (by omega)];by_cases f:(AJ s.2 []).length=0
  ·exact .inl ⟨f,by rw[if_pos f]⟩
  ·exact .inr ⟨by omega,by rw[if_neg f]⟩
 ·refine⟨.inr ⟨4,by omega,b,?_⟩,g⟩;unfold MA;rw[a];dsimp only;rw[if_pos i]
 ·refine⟨.inr ⟨6,by omega,b,?_⟩,g⟩;unfold MA;rw[a]
theorem QU{level:Nat}{D:List (fT×List cF)}{k:Nat}{d:fT×List cF}(a:D[k]? =some d)(r:Int ⊕ List Rg.Blk):dB level (D.drop k) r=eA level d r::match eA level d r with
  | .inl _=>[]
  | .inr L=>dB level (D.drop (k+1)) (.inr L):=by
 obtain⟨b,rfl⟩:=List.getElem?_eq_some_iff.1 a;rw[zZ b];rfl
theorem pI{level:Nat}{D:List (fT×List cF)}{k:Nat}{d:fT×List cF}(b:D[k]? =some d){r:Int ⊕ List Rg.Blk}{T:List (Int ⊕ List Rg.Blk)}{pre:List (Value×(Int ⊕ List Rg.Blk))}(a:pre.map (·.2)++dB level (D.drop k) r=T){e:Int}(c:eA level d r=.inl e)(v:Value):((pre++[(v,Sum.inl e)]:List (Value×(Int ⊕ List Rg.Blk))).map (·.2))=T:=by
 rw[QU b,c]at a;simpa using a
theorem Nw{level:Nat}{D:List (fT×List cF)}{k:Nat}{d:fT×List cF}(b:D[k]? =some d){r:Int ⊕ List Rg.Blk}{T:List (Int ⊕ List Rg.Blk)}{pre:List (Value×(Int ⊕ List Rg.Blk))}(a:pre.map (·.2)++dB level (D.drop k) r=T){L:List Rg.Blk}(c:eA level d r=.inr L)(v:Value):((pre++[(v,Sum.inr L)]:List (Value×(Int ⊕ List Rg.Blk))).map (·.2))++dB level (D.drop (k+1)) (.inr L)=T:=by
 rw[QU b,c]at a;simpa using a
theorem I0{w:World}{bP bL bC bR:Nat}{p:cF}{level:Nat}{cv lv:Value}{D:List (fT×List cF)}{S:List sK}(G:GivI p level D S)(E:EnvI w bP bL bC bR p level cv lv D S):
  aEe 5 zB 67 #[.pointer (some ⟨bP,0,none⟩),.pointer (some ⟨bL,0,none⟩),.pointer (some ⟨bC,0,none⟩),.pointer (some ⟨bR,0,none⟩)] (fun x:Value×(Int ⊕ List Rg.Blk)=> #[x.1,jI jJ (XF x.2)]) KpT YQ
   (fun xs=>xs.map (·.2)=dB level D (dV p level)) (fun pre=>pre.map (·.2)<+:dB level D (dV p level)) D.length w:=by
 intro l J Jx W hW hJ g2 hY h0;have E0:=zA (E.kpt (KpT.below hW));obtain⟨⟨q0,q1,q2,q3⟩,-⟩:=B4.keep (show B4 W bP p.1 p.2.1 p.2.2.1 p.2.2.2 from E0.out.plc);have k1:=VX E0.out.lev;have i0:∀w,Calls zB 29 #[QV p] w (GP (.bool true) w):=fun w=>by
  have:=aI (fE p.1 p.2.1 p.2.2.1 p.2.2.2) w;rw[G.vp]at this;exact this
 have b4:=zA (fun w=>JI Jg (aBF (p:=p) G.vp G.kp) (lev:=min 4 level) (by omega) i0 w);have M:=zA G;have HY:=zA hY;have HJ:=zA hJ;have l8:=zA g2;have H0:=zA h0;have l0:(0:Int)<=(level:Int):=by omega
 have i6:min 4 (level:Int)=((min 4 level:Nat):Int):=by omega
 clear i0 G hY hJ g2 h0 hW E;unfold QV at b4;refine callsIn_of_wp Tryz.func67 rfl trivial ?_ rfl;simp only[Tryz.ntmps67,List.size_toArray,zM,xA,Nat.reduceAdd,Nat.reduceSub,Array.replicate_succ,Array.replicate_zero,List.push_toArray,List.append_toArray,agZ,xC];have X:0<D.length:=by have:=M.out.len;omega
 obtain⟨gC,cC,g7⟩:∃g c,cv=.slice (some ⟨g,0,none⟩) D.length c:=by
  obtain⟨g,c,h,_⟩:=E0.out.rowC.cir (i:=0) (b:=(D[0]'X).1) (by simp[X]);exact⟨g,c,by rw[h,qC]⟩
 gi_wp2
 refine⟨trivial,(callsIn_wide.2 (b4.out _)).mono ?_⟩;intro e w1 a;obtain⟨rs,vs,hr,rfl,a2,c9⟩:=Od M.out.lev a;have HR:=zA hr;have f9:=HJ.out _ _ _ H0.out c9;have E1:=zA (E0.out.kpt (KpT.below c9));have k2:=VX E1.out.cir;rw[g7]at k2;clear a c9 H0 k1 q0 q1 q2 q3 i6 b4 hr;gi_wp2
 gi_loopw [6,7,21] (fun v6 v7 d7 wr=>∃(k:Nat) (r:Int ⊕ List Rg.Blk) (pre:List (Value×(Int ⊕ List Rg.Blk))),d7=jI jJ (k:Int)/\v7=jI jJ (XF r)/\k<=D.length/\pre.length=k/\S0 r v6 wr/\(∀e,r=.inl e->k=0)/\pre.map (·.2)++dB level (D.drop k) r=dB level D (dV p level)/\J pre wr/\EnvI wr bP bL bC bR p level cv lv D S)
  (fun _ _ d7 _=>D.length-(intOf d7).toNat)
 case atStart=>exact⟨0,rs,[],rfl,rfl,zO _,rfl,a2,fun _ _=>rfl,by rw[HR.out];rfl,f9,E1.out⟩
 case round=>
  clear a2 f9 E1 k2 HR E0;obtain⟨k,r,pre,rfl,rfl,hk,i7,a2,i3,j1,g1,hE⟩:=hrel;have E:=zA hE;have q:=zA j1;have l9:=zA i3;have e9:=zA i7;have Q:=zA g1;have f7:=zA a2;clear g1 a2 hE j1 i3 i7;by_cases l1:k=D.length
  ·subst l1;gi_wp2
   go_end0
   refine⟨⟨_,rfl⟩,.inl ⟨pre,?_,Q.out⟩⟩;rw[<-q.out,List.drop_length];simp[dB]
  ·obtain⟨d,hd⟩:∃d,D[k]? =some d:=⟨D[k]'(by omega),List.getElem?_eq_getElem (by omega)⟩;have HD:=zA hd;have d5:=List.mem_of_getElem? hd;have e7:=zA (M.out.leg d d5);have j2:=zA (M.out.cir d d5);obtain⟨g,m0,hv,_,k8,x0,x1,x2,x3,x4,x5,g9,c0,c1,c2,c3,c4,c5⟩:=E.out.rowC.cir (i:=k) (b:=d.1) (by rw[List.getElem?_map,hd];rfl);rw[g7,qC]at hv;cases hv;have m3:(k:Int)<(D.length:Int):=by omega
   have HN:=zA (show pre.length<D.length by have:=e9.out;omega);have m2:(k:Int)<40:=by have:=M.out.few;omega
   have d9:=zA g9;clear d5 hd g9 k8;gi_upto_if 27 with fail
   obtain⟨WB,a6⟩:∃WB,WB=wr.alloc (jC #[jI jJ x0,jI jJ x1,jI jJ x2,jI jJ x3,jI jJ x4,jI jJ x5] 49):=⟨_,rfl⟩;rw[<-a6];have O:=zA (show Below wr.heap.size wr WB by rw[a6];exact Below.new _);have a5:=zA (show WB.heap[wr.heap.size]? =some (Obj.cells #[jI jJ x0,jI jJ x1,jI jJ x2,jI jJ x3,jI jJ x4,jI jJ x5] 49 (0,0)) by rw[a6];exact heap_alloc_new wr _);obtain⟨b9,d0⟩:∃b9,b9=wr.heap.size:=⟨_,rfl⟩;rw[<-d0]at a5 ⊢;have l7:=zA d0;clear a6 c0 c1 c2 c3 c4 c5 d0;gi_cut [6,7]from 28 (fun v6 v7 wx=>∃r',r'=wD level d.2 r/\v7=jI jJ (XF r')/\S0 r' v6 wx/\Below WB.heap.size WB wx)
   case first=>
    have EB:=zA (E.out.kpt (KpT.below O.out));have f8:=zA (f7.out.next O.out);by_cases h0:k=0
    ·subst h0;gi_wp2
     gi_meet
     case rel=>exact⟨r,by rw[M.out.first d HD.out];rfl,rfl,f8.out,zD _ _⟩
    ·obtain⟨m,rfl⟩:∃m,k=m+1:=⟨k-1,by omega⟩;have i5:m<S.length:=by have:=M.out.len;omega
     obtain⟨s,hs⟩:∃s,S[m]? =some s:=⟨S[m]'i5,List.getElem?_eq_getElem i5⟩;obtain⟨N,g8,a1⟩:=EB.out.legs m s hs;have k4:N=d:=zL.inj (g8.symm.trans HD.out);subst k4;obtain⟨gS,l6,a9,_,k6,s0,s1,s2,rfl,cS⟩:=EB.out.rowS.slv hs;have k3:=VX EB.out.run;rw[a9]at k3;have f6:=zA a1;have l2:s1=N.2.length:=by
      obtain⟨A,c,h⟩:=a1.slice;cases h;rfl
     subst l2;have m5:(m:Int)<(S.length:Int):=by omega
     have m4:(0:Int)<=(m:Int):=by omega
     have m6:(m:Int)<40:=by have:=M.out.few;omega
     clear a1 g8 hs k6;gi_wp2
     gi_loopw [6,7,34] (fun v6 v7 d8 wx=>∃(j:Nat) (r2:Int ⊕ List Rg.Blk),d8=jI jJ (j:Int)/\v7=jI jJ (XF r2)/\j<=N.2.length/\S0 r2 v6 wx/\wD level (N.2.drop j) r2=wD level N.2 r/\Below WB.heap.size WB wx)
      (fun _ _ d8 _=>N.2.length-(intOf d8).toNat)
     case atStart=>exact⟨0,r,rfl,rfl,zO _,f8.out,rfl,zD _ _⟩
     case round=>
      clear k3;obtain⟨j,r2,rfl,rfl,hj,b2,i4,g5⟩:=hrel;have K:=zA b2;have b5:=zA i4;have t:=zA g5;clear b2 i4 g5;by_cases k9:j=N.2.length
      ·subst k9;gi_wp2
       gi_meet
       case rel=>exact⟨r2,by have:=b5.out;rw[List.drop_length]at this;exact this,rfl,K.out,t.out⟩
      ·obtain⟨g0,a7⟩:∃g0,N.2[j]? =some g0:=⟨N.2[j]'(by omega),List.getElem?_eq_getElem (by omega)⟩;obtain⟨gL,l5,l3,_,k5,y0,y1,y2,y3,i1,f0,f1,f2,f3⟩:=(f6.out.next t.out).qua a7;cases l3;have Y:=e7.out.2 g0 (List.mem_of_getElem? a7);have e8:=zA Y;have a3:∀r3,wD level (N.2.drop j) r3=wD level (N.2.drop (j+1)) (bnd r3 (UJ level g0)):=fun r3=>by
        obtain⟨i2,he⟩:=List.getElem?_eq_some_iff.1 a7;rw[zZ i2,he];rfl
       have R:=zA a3;have I:=zA (Below.new (w:=wr) (jC #[jI jJ y0,jI jJ y1,jI jJ y2,jI jJ y3] 37));have i2:(j:Int)<(N.2.length:Int):=by omega
       have m1:(j:Int)<60:=by have:=e7.out.1;omega
       have e4:=zA i1;clear a7 k5 Y a3 i1;gi_upto_region 8 with fail
       obtain⟨WL,g4⟩:∃WL,WL=wr.alloc (jC #[jI jJ y0,jI jJ y1,jI jJ y2,jI jJ y3] 37):=⟨_,rfl⟩;have z:=heap_alloc_new wr (jC #[jI jJ y0,jI jJ y1,jI jJ y2,jI jJ y3] 37);rw[<-g4]at I z ⊢;obtain⟨b8,g6⟩:∃b8,b8=wr.heap.size:=⟨_,rfl⟩;rw[<-g6]at z ⊢;clear g4 g6 f0 f1 f2 f3;have EL:=EB.out.kpt (KpT.below (t.out.trans (I.out.mono t.out.size)));have a9:WL.cell? ⟨bL,0,none⟩=some (jI jJ (level:Int)):=VX EL.lev;have n0:WL.cell? ⟨b8,0,none⟩=some (jI jJ y0):=by simp[World.cell?,z]
       have n1:WL.cell? ⟨b8,1,none⟩=some (jI jJ y1):=by simp[World.cell?,z]
       have n2:WL.cell? ⟨b8,2,none⟩=some (jI jJ y2):=by simp[World.cell?,z]
       have n3:WL.cell? ⟨b8,3,none⟩=some (jI jJ y3):=by simp[World.cell?,z]
       clear z EL;cases r2 with
       |inl e=>
        have he:¬e=0:=K.out;gi_wp2
        go_roundw
        case rel=>exact⟨j+1,.inl e,rfl,rfl,by omega,he,by have:=b5.out;rw[R.out]at this;exact this,t.out.trans (I.out.mono t.out.size)⟩
        case measure=>simp[intOf];omega
       |inr L2=>
        have b6:=zA (fun(w2:World) (hb:Below wr.heap.size wr w2)=>aDs e8.out M.out.lev K.out.2 (K.out.1.next hb) (fun k hk=>(K.out.1.next hb).lt k hk|>.2));rw[e4.out]at b6;dsimp only at b6;gi_wp2
        refine⟨trivial,(callsIn_wide.2 (b6.out _ I.out)).mono ?_⟩;intro e3 w3 a;rw[<-e4.out]at a;obtain⟨v3,rfl,b3,Z⟩:=aG2 e8.out M.out.lev K.out.2 a;have j4:=zA b3;have H:=zA (t.out.trans ((I.out.trans (Z.mono I.out.size)).mono t.out.size));clear a b3 Z;gi_wp2
        go_roundw
        case rel=>exact⟨j+1,UJ level g0 L2,rfl,rfl,by omega,j4.out,by have:=b5.out;rw[R.out]at this;exact this,H.out⟩
        case measure=>simp[intOf];omega
   case rest=>
    obtain⟨r',j0,rfl,b1,c8⟩:=hcut;have c6:=zA (show eA level d r=bnd r' (MA d.1 level) by rw[j0];rfl);have U:=zA b1;have a4:=zA (O.out.trans (c8.mono O.out.size));have hX:=(c8.block b9 (Array.getElem?_eq_some_iff.1 a5.out).1).trans a5.out;have EC:=zA (E.out.kpt (KpT.below a4.out));clear j0 b1 c8 f7 O a5;have y0:wc.cell? ⟨b9,0,none⟩=some (jI jJ x0):=by simp[World.cell?,hX]
    have y1:wc.cell? ⟨b9,1,none⟩=some (jI jJ x1):=by simp[World.cell?,hX]
    have y2:wc.cell? ⟨b9,2,none⟩=some (jI jJ x2):=by simp[World.cell?,hX]
    have y3:wc.cell? ⟨b9,3,none⟩=some (jI jJ x3):=by simp[World.cell?,hX]
    have y4:wc.cell? ⟨b9,4,none⟩=some (jI jJ x4):=by simp[World.cell?,hX]
    have y5:wc.cell? ⟨b9,5,none⟩=some (jI jJ x5):=by simp[World.cell?,hX]
    have a9:wc.cell? ⟨bL,0,none⟩=some (jI jJ (level:Int)):=VX EC.out.lev;have k0:bL<wc.heap.size:=(Array.getElem?_eq_some_iff.1 EC.out.lev).1;clear hX;cases r' with
    |inl e=>
     have he:¬e=0:=U.out;gi_upto_region 15 with fail
     obtain⟨fn,tmps,assign,V,hy,hR⟩:=HY.out pre (u6,.inl e) wc (HJ.out _ _ _ Q.out a4.out) (show(e:Int)≠0 from he) HN.out;dsimp only[wS]at hy;gi_wp2
     refine hR.mono ?_;rintro e5 W5 (⟨rfl,v,a0⟩|⟨rfl,f⟩)
     ·gi_wp2
      refine bodyPost_ret (results_none rfl _ _ _) rfl ?_;exact⟨⟨_,rfl⟩,.inl ⟨_,pI HD.out q.out (by have:=c6.out;exact this) _,v⟩⟩
     ·gi_wp2
      refine bodyPost_ret (results_none rfl _ _ _) rfl ?_;exact⟨⟨_,rfl⟩,.inr ⟨_,by rw[pI HD.out q.out (by have:=c6.out;exact this) _];exact List.prefix_rfl,f⟩⟩
    |inr L=>
     have g3:=bT.new (E:=oS) (e:=49) (B:=0) wc d.1 (zO _);have y:=zA (Below.new (w:=wc) (jC ⟨oS.enc d.1⟩ 49));have b7:=zA (aAY Jg (aEh g3 j2.out) (zD _ _) U.out.2 (U.out.1.next y.out) (fun k hk=>((U.out.1.next y.out).lt k hk).2) M.out.lev);rw[d9.out]at b7 y;clear g3;gi_wp2
     refine⟨trivial,(callsIn_wide.2 b7.out).mono ?_⟩;intro e3 w3 a;rw[<-d9.out]at a y;obtain⟨o,Z⟩:=aFY a;have H:=zA (a4.out.trans ((y.out.trans (Z.mono y.out.size)).mono a4.out.size));clear a Z y0 y1 y2 y3 y4 y5 a9 k0 b7 y;have c7:=zA (show eA level d r=MA d.1 level L from c6.out);rcases o with⟨A,n,kk,L',rfl,hn,d6,⟨h0,o⟩|⟨h0,o⟩⟩|⟨x,hx,rfl,o⟩
     ·have u:=zA (c7.out.trans o);subst h0;clear hn d6 o;gi_upto_region 15 with fail
      obtain⟨fn,tmps,assign,V,hy,hR⟩:=HY.out pre (.slice A 0 kk,.inl 23) w3 (HJ.out _ _ _ Q.out H.out) (show(23:Int)≠0 from(by omega)) HN.out;dsimp only[wS]at hy;gi_wp2
      refine hR.mono ?_;rintro e5 W5 (⟨rfl,v,a0⟩|⟨rfl,f⟩)
      ·gi_wp2
       refine bodyPost_ret (results_none rfl _ _ _) rfl ?_;exact⟨⟨_,rfl⟩,.inl ⟨_,pI HD.out q.out u.out _,v⟩⟩
      ·gi_wp2
       refine bodyPost_ret (results_none rfl _ _ _) rfl ?_;exact⟨⟨_,rfl⟩,.inr ⟨_,by rw[pI HD.out q.out u.out _];exact List.prefix_rfl,f⟩⟩
     ·have u:=zA (c7.out.trans o);have f5:=zA d6;have m7:¬(n:Int)=0:=by omega
      have b0:=zA (TP M.out.lev U.out.2 o).1;have f4:=zA (show 0<L'.length by omega);clear hn d6 o h0;gi_upto_region 15 with fail
      obtain⟨fn,tmps,assign,V,hy,hR⟩:=HY.out pre (.slice A n kk,.inr L') w3 (HJ.out _ _ _ Q.out H.out) ⟨f5.out,b0.out,f4.out⟩ HN.out;dsimp only[KK]at hy;gi_wp2
      refine hR.mono ?_;rintro e5 W5 (⟨rfl,v,a0⟩|⟨rfl,f⟩)
      ·have j3:=zA v;have e6:=zA a0;clear v a0;gi_wp2
       go_roundw
       case rel=>exact⟨k+1,.inr L',_,rfl,rfl,by omega,by rw[List.length_append];exact congrArg (· +1) e9.out,⟨f5.out.kpt (by decide) (by decide) e6.out,b0.out⟩,(fun e h=>by cases h),Nw HD.out q.out u.out _,j3.out,(E.out.kpt (KpT.below H.out)).kpt e6.out⟩
       case measure=>simp[intOf];omega
      ·gi_wp2
       refine bodyPost_ret (results_none rfl _ _ _) rfl ?_;exact⟨⟨_,rfl⟩,.inr ⟨_,⟨_,Nw HD.out q.out u.out _⟩,f⟩⟩
     ·have u:=zA (c7.out.trans o);have l4:¬x=0:=hx;clear o hx;gi_upto_region 15 with fail
      obtain⟨fn,tmps,assign,V,hy,hR⟩:=HY.out pre (.slice none 0 0,.inl x) w3 (HJ.out _ _ _ Q.out H.out) (show(x:Int)≠0 from l4) HN.out;dsimp only[wS]at hy;gi_wp2
      refine hR.mono ?_;rintro e5 W5 (⟨rfl,v,a0⟩|⟨rfl,f⟩)
      ·gi_wp2
       refine bodyPost_ret (results_none rfl _ _ _) rfl ?_;exact⟨⟨_,rfl⟩,.inl ⟨_,pI HD.out q.out u.out _,v⟩⟩
      ·gi_wp2
       refine bodyPost_ret (results_none rfl _ _ _) rfl ?_;exact⟨⟨_,rfl⟩,.inr ⟨_,by rw[pI HD.out q.out u.out _];exact List.prefix_rfl,f⟩⟩
end
section
open Go Go.RowKit Rg
attribute [local go_sem] Oper.semAt_some
section
variable {P : Program}
theorem Gt(w:World)(m x y b:TypeId)(size g n d k:Nat)(a:Addr)(c:Array Value)(t:TypeId)(cs:List Value)(u:P.underlying m=some (.slice b))(p:(P.info? b).map (·.size)=some size)(r:w.heap[g]? =some (jC c t (0,0)))(s:cs.length=n*size)
  (f:∀j v,cs[j]? =some v->w.cell? (a.add j)=some v)(e:cs.length<=c.size)(q:∀v∈cs,v.oneCell'=true):
  (Builtin.copy_ #[m,x] y #[.slice (some ⟨g,0,none⟩) n d,.slice (some a) n k]).run P w=.ok (goInt n) (w.setRow g (cs++c.toList.drop cs.length).toArray):=by
 have o:=run_loadCells_list (P:=P) w a cs f;have h:=run_storeCells_at P g 0 t cs 0 c w r (by simpa using e) q;cases l:P.info? b with
 |none=>simp[l]at p
 |some i=>
  have hi:i.size=size:=by simpa[l]using p
  rw[s]at o;simp only[Nat.zero_add,Nat.add_zero,List.take_zero,agZ]at h;simp[Builtin.copy_,run_underlying u,Builtin.lenOf,Builtin.firstCells,sizeOf,typeInfo,l,hi,o,h]
theorem GM{F:Fence}{m:Nat}(w:World){ops:Array Oper}{rest:List Oper}{o:Oper}{a:Act}{Q:Exit->Act->World->Prop}(x:o.guard=none)(d s:Operand)(r A:TypeId)
  (y:o.op=.call {callee:=.builtin .copy,args:= #[d,s],argTypes:= #[r,A]})(b:TypeId)(size:Nat)(J:P.underlying r=some (.slice b))(z:(P.info? b).map (·.size)=some size)(g n f i:Nat)(q:Addr)
  (E:a.eval d=.slice (some ⟨g,0,none⟩) n f)(I:a.eval s=.slice (some q) n i)(e:Array Value)(t:TypeId)(G:w.heap[g]? =some (jC e t (0,0)))(cs:List Value)(H:cs.length=n*size)
  (p:∀j v,cs[j]? =some v->w.cell? (q.add j)=some v)(k:cs.length<=e.size)(B:∀v∈cs,v.oneCell'=true)(h:wpListIn F m P ops Q rest (a.put o.dst (goInt n)) (w.setRow g (cs++e.toList.drop cs.length).toArray)):wpListIn F m P ops Q (o::rest) a w:=by
 refine wpListIn_plain x fun K D=>?_;have l:=Gt (P:=P) w r A o.type b size g n f i q e t cs J z G H p k B;unfold Oper.wpIn;refine⟨?_,?_⟩
 ·simp[Oper.about,y,resolve,Target.leads,Sem.run_pure]
 ·rw[Oper.semAt_plain F _ _ (by rw[y];intro c u;cases u)];simp[execOp,y,resolve,invoke,builtin,E,I,l,Result.andThen];exact D _ _ h
theorem AG{F:Fence}{m:Nat}(w:World){ops:Array Oper}{rest:List Oper}{o:Oper}{a:Act}{Q:Exit->Act->World->Prop}(D:o.guard=none)(l c:Operand)(t:TypeId)(b:o.op=Op.makeSlice t l c)
  (base:Nat)(e:TypeId)(i:TypeInfo)(z:Value)(size:Nat)(r:P.underlying t=some (.slice e))(s:P.info? e=some i)(u:i.zero=some z)(v:i.size=size)
  (j h:IntKind)(L C:Int)(n:Nat)(E:a.eval l=.int j L)(B:a.eval c=.int h C)(A:L=(n:Int))(x:C=(n:Int))(k:i.bytes*n<=281474976710656)(p:n<=maxLen)(q:base<=w.heap.size)
  (y:∀w',w'.ownsRow base e size (.slice (some ⟨w.heap.size,0,none⟩) n n) n (madeCells z.cells (n*size)).toList->w.grownBy w' none->wpListIn F m P ops Q rest (a.put o.dst (.slice (some ⟨w.heap.size,0,none⟩) n n)) w'):
  wpListIn F m P ops Q (o::rest) a w:=by
 refine wpListIn_plain D fun K f=>?_;obtain⟨w',d,G,H⟩:=run_make_full (P:=P) w base t e i z size r s u v j h n k p q;subst A;subst x;unfold Oper.wpIn;refine⟨?_,?_⟩
 ·simp[Oper.about,b]
 ·rw[Oper.semAt_plain F _ _ (by rw[b];intro c g;cases g)];simp[execOp,b,E,B,d,Result.andThen];exact f _ _ (y w' G H)
end
end
section
open Go Go.RowKit Go.Shelf Rg
open Ev (aF)
attribute [local instance] nP
attribute [local go_sem] Oper.semAt_some wS KK
theorem G3:(zB.info? 60).map (fun i=>(i.zero,i.size,i.bytes))=some (some (.slice none 0 0),1,24):=by kernel_rfl
theorem I1(i:Option Addr)(m cC:Nat)(j:Option Addr)(n k:Nat)(p:cF)(lev:Int)(w:World):Calls zB 33 #[.slice i m cC,.slice j n k,.agg #[jI jJ p.1,jI jJ p.2.1,jI jJ p.2.2.1,jI jJ p.2.2.2],jI jJ lev] w
  (fun e w'=>e=.returned (.func (.func 67) #[] #[.pointer (some ⟨w.heap.size+2,0,none⟩),.pointer (some ⟨w.heap.size+3,0,none⟩),.pointer (some ⟨w.heap.size,0,none⟩),.pointer (some ⟨w.heap.size+1,0,none⟩)])/\
   w'.heap[w.heap.size]? =some (Obj.cells #[.slice i m cC] 28 (0,0))/\w'.heap[w.heap.size+ 1]? =some (Obj.cells #[.slice j n k] 29 (0,0))/\
   w'.heap[w.heap.size+2]? =some (Obj.cells #[jI jJ p.1,jI jJ p.2.1,jI jJ p.2.2.1,jI jJ p.2.2.2] 33 (0,0))/\w'.heap[w.heap.size+3]? =some (Obj.cells #[jI jJ lev] 3 (0,0))/\Below w.heap.size w w'):=by
 have H:∀a b c d:Obj,(((((w.alloc a).alloc b).alloc c).alloc d).heap[w.heap.size]? =some a/\((((w.alloc a).alloc b).alloc c).alloc d).heap[w.heap.size+ 1]? =some b/\((((w.alloc a).alloc b).alloc c).alloc d).heap[w.heap.size+2]? =some c/\((((w.alloc a).alloc b).alloc c).alloc d).heap[w.heap.size+3]? =some d)/\
   Below w.heap.size w ((((w.alloc a).alloc b).alloc c).alloc d):=fun a b c d=>by
  have l:=heap_alloc_new w a;have f:=heap_alloc_new (w.alloc a) b;have g:=heap_alloc_new ((w.alloc a).alloc b) c;have h:=heap_alloc_new (((w.alloc a).alloc b).alloc c) d;simp only[qF]at f g h;refine⟨⟨?_,?_,?_,h⟩,(((Below.new a).alloc (by simp) b).alloc (by simp;omega) c).alloc (by simp;omega) d⟩
  ·rw[zW _ _ _ (by simp;omega),zW _ _ _ (by simp;omega),zW _ _ _ (by simp)];exact l
  ·rw[zW _ _ _ (by simp),zW _ _ _ (by simp)];exact f
  ·rw[zW _ _ _ (by simp)];exact g
 have HH:=zA H;clear H;go_enter Tryz.func33,Tryz.ntmps33;go_wp2_with fail
 go_ret;obtain⟨⟨l,f,g,h⟩,o⟩:=HH.out (jC #[.slice i m cC] 28) (jC #[.slice j n k] 29) (jC #[jI jJ p.1,jI jJ p.2.1,jI jJ p.2.2.1,jI jJ p.2.2.2] 33) (jC #[jI jJ lev] 3);exact⟨rfl,l,f,g,h,o⟩
theorem cL.row{α:Type}{E:Elem α}{e:TypeId}{B b:Nat}{v:Value}{l:List α}:cL B (fun W=>bT E e W b v l):=
 cL.kept fun X Y row h n q=>h.kept n (by
  by_cases d:v.ownBlock=none
  ·exact .inl d
  ·right;intro e;obtain⟨k,c⟩:∃k,v.ownBlock=some k:=by
    cases h:v.ownBlock with
    |none=>exact absurd h d
    |some k=>exact⟨k,rfl⟩
   obtain⟨o,p,j⟩:=q k (by rw[<-e,c]);obtain⟨_,m|⟨g,f,i,r,_,a,_⟩⟩:=h
   ·rw[m.1]at c;cases c
   ·rw[r]at c;cases c;rw[show X.heap[g]? =some o from p]at a;cases a;cases j)
theorem cL.all{β:Type}{B:Nat}{I:β->World->Prop}(h:∀b,cL B (I b)):cL B (fun W=>∀b,I b W):=
 ⟨fun X Y a d b=>(h b).1 X Y (a b) d,fun X j o g a c f e b=>(h b).2 X j o g (a b) c f e⟩
theorem cL.imp{B:Nat}{I:World->Prop}{p:Prop}(h:cL B I):cL B (fun W=>p->I W):=
 ⟨fun X Y a d b=>h.1 X Y (a b) d,fun X j o g a c f e b=>h.2 X j o g (a b) c f e⟩
def FB(W:World)(n0:Nat)(v:Value)(Ss:List sK)(Ls:List (List Rg.Blk)):Prop:=
 bT SK 60 W n0 v Ss/\Ss.length=Ls.length/\∀(i:Nat) (s:sK),Ss[i]? =some s->∃L,Ls[i]? =some L/\RC W n0 (.slice s.1 s.2.1 s.2.2) L
theorem PJ{B c:Nat}{v:Value}{b:List sK}{a:List (List Rg.Blk)}:cL B (fun W=>FB W c v b a):=
 cL.row.and ((cL.pure _).and (cL.all fun _=>cL.all fun _=>cL.imp (cL.ex fun _=>(cL.pure _).and cL.row)))
structure OutI (w:World) (n0 bO b8 b9:Nat) (pre:List (Value×(Int ⊕ List Rg.Blk))) (Ls:List (List Rg.Blk)) (v:Value) (Ss:List sK) (W:World):Prop where
 all:pre.map (·.2)=Ls.map Sum.inr
 box:W.heap[bO]? =some (Obj.cells #[v] 57 (0,0))
 rows:FB W n0 v Ss Ls
 r8:W.heap[b8]? =some (Obj.cells #[.slice none 0 0] 57 (0,0))
 r9:W.heap[b9]? =some (Obj.cells #[jI jJ 0] 41 (0,0))
 bel:Below n0 w W
theorem Wk{w:World}{a f d e B:Nat}(q:a<=w.heap.size)(t:a<=B)(u:f<B)(r:d<B)(s:e<B)(pre:List (Value×(Int ⊕ List Rg.Blk))):cL B (fun W=>∃b v c,OutI w a f d e pre b v c W):=
 cL.ex fun b=>cL.ex fun v=>cL.ex fun c=>
  have k:cL B (fun W=>pre.map (·.2)=b.map Sum.inr/\W.heap[f]? =some (Obj.cells #[v] 57 (0,0))/\FB W a v c b/\W.heap[d]? =some (Obj.cells #[.slice none 0 0] 57 (0,0))/\W.heap[e]? =some (Obj.cells #[jI jJ 0] 41 (0,0))/\Below a w W):=
   (cL.pure _).and ((cL.obj u).and (PJ.and ((cL.obj r).and ((cL.obj s).and (cL.below q t)))))
  ⟨fun X Y h x=>by
   obtain⟨g,i,l,m,n,p⟩:=k.1 X Y ⟨h.all,h.box,h.rows,h.r8,h.r9,h.bel⟩ x;exact⟨g,i,l,m,n,p⟩,
  fun X j o D h z A y=>by
   obtain⟨g,i,l,m,n,p⟩:=k.2 X j o D ⟨h.all,h.box,h.rows,h.r8,h.r9,h.bel⟩ z A y;exact⟨g,i,l,m,n,p⟩⟩
def aEd(w:World)(n0 b8 b9:Nat)(xs:List (Value×(Int ⊕ List Rg.Blk)))(W:World):Prop:=
 ∃e0:Int,e0≠0/\(∃Ls:List (List Rg.Blk),xs.map (·.2)=Ls.map Sum.inr++[Sum.inl e0])/\W.heap[b8]? =some (Obj.cells #[.slice none 0 0] 57 (0,0))/\W.heap[b9]? =some (Obj.cells #[jI jJ e0] 41 (0,0))/\Below n0 w W
theorem Wj{w:World}{a b c B:Nat}(d:a<=w.heap.size)(g:a<=B)(e:b<B)(f:c<B)(h:List (Value×(Int ⊕ List Rg.Blk))):cL B (aEd w a b c h):=
 cL.ex fun _=>(cL.pure _).and ((cL.pure _).and ((cL.obj e).and ((cL.obj f).and (cL.below d g))))
def OT(w:World)(T:List (Int ⊕ List Rg.Blk))(e:Ending)(w':World):Prop:=
 ((∃(Ls:List (List Rg.Blk)) (v:Value) (Ss:List sK),T=Ls.map Sum.inr/\e=.returned (.tuple #[v,jI jJ 0])/\FB w' w.heap.size v Ss Ls)\/
  ∃e0:Int,e0≠0/\(∃Ls:List (List Rg.Blk),T=Ls.map Sum.inr++[Sum.inl e0])/\e=.returned (.tuple #[.slice none 0 0,jI jJ e0]))/\Below w.heap.size w w'
theorem QW{level:Nat}:∀(D:List (fT×List cF)) (r:Int ⊕ List Rg.Blk) (b:List (List Rg.Blk)) (e:Int),(b.map Sum.inr++[Sum.inl e])<+:dB level D r->dB level D r=b.map Sum.inr++[Sum.inl e]
 | [],r,b,e,h=>by
  obtain⟨t,a⟩:=h;unfold dB at a;simp at a
 |d::D,r,b,e,h=>by
  unfold dB at h ⊢;cases b with
  |nil=>
   obtain⟨t,a⟩:=h;simp only[List.map_nil,agZ,xC,akQ.injEq]at a;rw[<-a.1];rfl
  |cons L b=>
   obtain⟨t,a⟩:=h;simp only[List.map_cons,xC,akQ.injEq]at a;obtain⟨f,c⟩:=a;rw[<-f]at c ⊢;exact congrArg (Sum.inr L::·) (QW D _ b e ⟨t,c⟩)
end
end
end Go.Proofs.YtlbklncoihhfcaaGreatDoor
