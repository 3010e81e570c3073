/-
  Best: the walks of directions, Meet, All, and Best. Plain: what solutions have in common. Best at the example's triangle. TopRunning: all parts.
-/
import Derived.Test.YtlbklncoihhfcaaGreatDoorU5
import Derived.WalkKit
import Derived.Lib.Hide
import Derived.Deep.Draws
import Derived.Deep.AppendLies
import Derived.Deep.QuietTactic
import Derived.BigQuiet
import Derived.WalkSpells
import Derived.Laws.OwnMore
import Derived.Deep.RegionHeld3
import Derived.Deep.RegionWith
import Derived.Deep.CutRange
import Derived.Test.YtlbklncoihhfcaaGreatDoorU23
set_option maxRecDepth 100000
set_option maxHeartbeats 4000000
open Go.RowKit.Below renaming heap_alloc→zW,refl→zD
open Go.Lib renaming hid→zA
open _root_.Nat renaming add_assoc→xX,le_refl→zC,le_trans→zJ,lt_of_lt_of_le→zT
open Go.Proofs.Tryz renaming prog→zB
open Go.World renaming news_of_block→aaJ,setCell→qK
open Go.Value renaming int→jI
open Go.IntKind renaming i64→jJ
open Go.Obj renaming cells→jC
open Go.Value renaming agg→jA
namespace Go.Proofs.YtlbklncoihhfcaaGreatDoor
section
attribute [local instance] Ev.gl0
abbrev mU:=Int×Int×Int×Int
def OA:mU:=(0,0,0,0)
def JZ(a b c d k:Int):Option (Int×Int):=if mx a (c+k)>mn b (d+k) then none else some (mx a (c+k),mn b (d+k))
def Nu:List Int:=[-21600000,0,21600000]
def DX(a b c d:Int)(i:Nat):List (Int×Int):=(Nu.take i).filterMap (JZ a b c d)
def aD3(a b c d:Int):List (Int×Int)->Int×Int×Int
 | []=>(0,0,23)
 | [p]=>fX p.1 p.2
 |_=>if d-c<b-a then(c,d,0) else(a,b,0)
def gE(a b c d:Int):Int×Int×Int:=
 if a=0/\b=21600000 then(c,d,0) else if c=0/\d=21600000 then(a,b,0) else aD3 a b c d (DX a b c d 3)
theorem tK{α β:Type}(f:α->Option β)(l:List α)(x:α):(l++[x]).filterMap f=l.filterMap f++(f x).toList:=by
 rw[List.filterMap_append];cases h:f x<;>simp[h]
theorem Pb(a b c d:Int)(i:Nat)(h:i<3):DX a b c d (i+1)=DX a b c d i++(JZ a b c d (-21600000+21600000*(i:Int))).toList:=by
 unfold DX;have e:Nu.take (i+1)=Nu.take i++[-21600000+21600000*(i:Int)]:=by
  have:i=0\/i=1\/i=2:=by omega
  rcases this with rfl|rfl|rfl<;>rfl
 rw[e,tK]
theorem JY(a b c d:Int)(i:Nat):(DX a b c d i).length<=3:=by
 refine zJ (List.length_filterMap_le _ _) ?_;simp[Nu];omega
def uD(s:mU):Bool:=aB s.1 s.2.1&&(aB s.2.2.1 s.2.2.2&&((s.2.2.1==0&&s.2.2.2==21600000)||(decide (0<=s.2.2.1)&&(decide (s.2.2.1<21600000)&&decide (s.2.2.2-s.2.2.1<21600000)))))
theorem IM{s:mU}(h:uD s=true):aB s.1 s.2.1=true/\aB s.2.2.1 s.2.2.2=true/\0<=s.2.2.1/\s.2.2.1<21600000/\s.2.2.2<=43200000:=by
 unfold uD at h;simp only[Bool.and_eq_true,Bool.or_eq_true,beq_iff_eq,decide_eq_true_eq]at h;obtain⟨a,b,c⟩:=h;exact⟨a,b,by omega,by omega,by omega⟩
def LQ(o s:mU):Option mU:=
 if (cG o.1 o.2.1 s.1 s.2.1).2.2=0/\(gE o.2.2.1 o.2.2.2 s.2.2.1 s.2.2.2).2.2=0 then some ((cG o.1 o.2.1 s.1 s.2.1).1,(cG o.1 o.2.1 s.1 s.2.1).2.1,(gE o.2.2.1 o.2.2.2 s.2.2.1 s.2.2.2).1,(gE o.2.2.1 o.2.2.2 s.2.2.1 s.2.2.2).2.1) else none
def FP:mU->List mU->Option mU
 |o,[]=>some o
 |o,s::l=>match LQ o s with
  |none=>none
  |some x=>FP x l
def nY:List mU->Int×Int×Int×Int×Int
 | []=>(0,0,0,0,14)
 |s::r=>if 1000<(s::r).length then(0,0,0,0,4) else if (s::r).any (fun s=> !uD s) then(0,0,0,0,1) else
  match FP s r with
  |none=>(0,0,0,0,23)
  |some x=>(x.1,x.2.1,x.2.2.1,x.2.2.2,0)
theorem Qi{s:mU}{r:List mU}(h:¬1000<(s::r).length)(a:(s::r).any (fun s=> !uD s)=true):nY (s::r)=(0,0,0,0,1):=by
 simp only[nY];rw[if_neg h,if_pos a]
theorem Yj{s:mU}{r:List mU}(h:¬1000<(s::r).length)(a:(s::r).any (fun s=> !uD s)=false):nY (s::r)=match FP s r with
  |none=>(0,0,0,0,23)
  |some x=>(x.1,x.2.1,x.2.2.1,x.2.2.2,0):=by
 simp only[nY];rw[if_neg h,if_neg (by rw[a];simp)]
theorem WU(i:∀a b,aB a b=true->(fX a b).2.2=0->aB (fX a b).1 (fX a b).2.1=true){a b c d:Int}(h:aB a b=true)(j:aB c d=true)(_hb:-500000000000<=c/\d<=500000000000)(f:(gE a b c d).2.2=0):aB (gE a b c d).1 (gE a b c d).2.1=true:=by
 unfold gE at*;by_cases l:a=0/\b=21600000
 ·rw[if_pos l]at*;exact j
 ·rw [if_neg l]at*;by_cases m:c=0/\d=21600000
  ·rw[if_pos m]at*;exact h
  ·rw [if_neg m]at*;cases g:DX a b c d 3 with
   |nil=>rw[g]at f;cases f
   |cons p L=>
    rw[g]at f;cases L with
    |nil=>
     have e:p∈DX a b c d 3:=by rw[g];simp
     unfold DX at e;rw[List.mem_filterMap]at e;obtain⟨k,o,e⟩:=e;have n:=dW h;unfold JZ at e;split at e
     ·cases e
     ·cases e;refine i _ _ ?_ f;have r:a<=mx a (c+k)/\mn b (d+k)<=b:=by unfold mx mn;constructor<;>split<;>omega
      unfold aB;simp;omega
    |cons q L=>
     simp only[aD3];split
     ·exact j
     ·exact h
theorem YR(d:∀a b,aB a b=true->(fX a b).2.2=0->aB (fX a b).1 (fX a b).2.1=true){o s x:mU}(h:aB o.2.2.1 o.2.2.2=true)(f:uD s=true)(c:LQ o s=some x):aB x.2.2.1 x.2.2.2=true:=by
 have b:=IM f;unfold LQ at c;split at c
 ·cases c;rename_i e;exact WU d h b.2.1 (by omega) e.2
 ·cases c
def okS(r:Int×Int×Int×Int×Int):Option mU:=if r.2.2.2.2=0 then some (r.1,r.2.1,r.2.2.1,r.2.2.2.1) else none
def DO(by_:Int->Int×Int×Int×Int×Int)(i:Nat):List mU:=(List.range i).filterMap fun(j:Nat)=>okS (by_ ((j:Int)+1))
theorem Nz(by_:Int->Int×Int×Int×Int×Int)(i:Nat):DO by_ (i+1)=DO by_ i++(okS (by_ ((i:Int)+1))).toList:=by
 unfold DO;rw[List.range_succ,tK]
theorem UP(by_:Int->Int×Int×Int×Int×Int)(i:Nat):(DO by_ i).length<=i:=by
 refine zJ (List.length_filterMap_le _ _) ?_;simp
open Go.RowKit
open Ev (iX aF)
theorem Ev.iX.below{w w':World}(h:Ev.iX w)(a:Below w.heap.size w w'):Ev.iX w':=h.of fun g b _=>a.block g b
theorem aGr{P:Program}{g:FuncId}{V:Value}(h:aF P g [] V){w:World}(a:iX w):Calls P g #[] w (GP V w):=h w a
theorem aCz{P:Program}{g:FuncId}{a V:Value}(h:aF P g [a] V){w:World}(b:iX w):Calls P g #[a] w (GP V w):=h w b
theorem U9{P:Program}{g:FuncId}{a b V:Value}(h:aF P g [a,b] V){w:World}(c:iX w):Calls P g #[a,b] w (GP V w):=h w c
structure Sols (w:World) (A:Option Addr) (n:Nat) (l:List mU):Prop where
 len:l.length=n
 le:n<=9223372036854775807
 cells:0<n->∃b off,A=some ⟨b,off,none⟩/\b<w.heap.size/\∀i,i<n->w.cell? ⟨b,off+i*4,none⟩=some (jI jJ (l.getD i OA).1)/\w.cell? ⟨b,off+i*4+1,none⟩=some (jI jJ (l.getD i OA).2.1)/\w.cell? ⟨b,off+i*4+2,none⟩=some (jI jJ (l.getD i OA).2.2.1)/\w.cell? ⟨b,off+i*4+3,none⟩=some (jI jJ (l.getD i OA).2.2.2)
theorem Sols.below{w w':World}{A:Option Addr}{n:Nat}{l:List mU}{B:Nat}(h:Sols w A n l)(c:Below B w w')(d:w.heap.size<=B):Sols w' A n l:=
 ⟨h.len,h.le,fun g=>by
  obtain⟨b,off,e,a,f⟩:=h.cells g;have k:∀o,w'.cell? ⟨b,o,none⟩=w.cell? ⟨b,o,none⟩:=fun o=>c.cell (p:=⟨b,o,none⟩) (zT a d);exact⟨b,off,e,zT a c.size,fun i hi=>by rw[k,k,k,k];exact f i hi⟩⟩
theorem Sols.at_{w w':World}{A:Option Addr}{n:Nat}{l:List mU}{k:Nat}(h:Sols w A n l)(m:k<n)(i:Below w.heap.size w w'):∃b off c d f g,A=some ⟨b,off,none⟩/\b<w.heap.size/\l.getD k OA=(c,d,f,g)/\
  w'.cell? ⟨b,off+k*4,none⟩=some (jI jJ c)/\w'.cell? ⟨b,off+k*4+1,none⟩=some (jI jJ d)/\w'.cell? ⟨b,off+k*4+2,none⟩=some (jI jJ f)/\w'.cell? ⟨b,off+k*4+3,none⟩=some (jI jJ g):=by
 obtain⟨b,off,e,a,j⟩:=h.cells (by omega);have q:∀o,w'.cell? ⟨b,o,none⟩=w.cell? ⟨b,o,none⟩:=fun o=>i.cell (p:=⟨b,o,none⟩) a;refine⟨b,off,_,_,_,_,e,a,rfl,?_⟩;rw[q,q,q,q];exact j k m
theorem KY{l:List mU}{k:Nat}(h:k<l.length):l.getD k OA∈l:=by
 rw[List.getD_eq_getElem?_getD,List.getElem?_eq_getElem h];exact List.getElem_mem _
def IX(vS:mU->Bool)(l:List mU)(w:World)(e:Ending)(w':World):Prop:=(∃r:Int,e=.returned (jI jJ r)/\decide (0<=r)=l.any (fun s=> !vS s)/\-1<=r/\r<9223372036854775807)/\Below w.heap.size w w'
theorem Xl{vS:mU->Bool}(J:∀a b c d:Int,aF zB 77 [jA #[jI jJ a,jI jJ b,jI jJ c,jI jJ d]] (.bool (!vS (a,b,c,d))))
  (A:Option Addr)(n c:Nat)(l:List mU)(w:World)(H:iX w)(h:Sols w A n l):
  Calls zB 113 #[.slice A n c,.func (.func 77) #[] #[]] w (IX vS l w):=by
 have Y:=h.le;have M:=zA h;have v:=zA h.len;have N:=zA J;have L:=zA H;clear h J H;go_enter Tryz.func113,Tryz.ntmps113;go_wp2;go_loopw [8] (fun i wr=>∃k:Nat,k<=n/\i=jI jJ k/\(∀j,j<k->vS (l.getD j OA)=true)/\Below w.heap.size w wr) (fun i _=>n-(intOf i).toNat)
 case atStart=>exact⟨0,Nat.zero_le _,rfl,fun j I=>absurd I (by omega),zD _ _⟩
 case round=>
  obtain⟨k,X,rfl,g,f⟩:=hrel;have y:=zA g;have r:=zA f;clear g;by_cases p:k<n
  ·obtain⟨b,off,B,D,E,G,rfl,V,K,U,d1,d2,d3⟩:=M.out.at_ p f;have z:=zA K;clear f K;go_wp2_with fail
   refine(aCz (N.out B D E G) (L.out.below r.out)).mono ?_;rintro e R ⟨rfl,o⟩;have m:=zA (r.out.trans (o.mono r.out.size));clear o;cases q:vS (B,D,E,G)with
   |false=>
    have t:=zA (show IX vS l w (.returned (jI jJ (k:Int))) R from⟨⟨k,rfl,by
     rw[decide_eq_true (by omega)];exact(List.any_eq_true.2 ⟨_,KY (l:=l) (k:=k) (by rw[v.out];exact p),by rw[z.out,q];rfl⟩).symm,by omega,by omega⟩,m.out⟩)
    clear q;go_wp2;go_ret;exact t.out
   |true=>
    have u:=zA (show ∀j,j<k+1->vS (l.getD j OA)=true from fun j I=>by
     by_cases e:j=k
     ·rw[e,z.out];exact q
     ·exact y.out j (by omega))
    clear q;go_wp2;go_roundw
    case rel=>exact⟨k+1,by omega,by go_num,u.out,m.out⟩
    case measure=>simp[intOf];omega
  ·have g:l.any (fun s=> !vS s)=false:=by
    rw[List.any_eq_false];intro x Q;obtain⟨i,hi,O⟩:=List.getElem_of_mem Q;have:=y.out i (by have:=v.out;omega);rw[List.getD_eq_getElem?_getD,List.getElem?_eq_getElem hi]at this;simp only[Option.getD_some,O]at this;rw[this];simp
   have t:=zA (show IX vS l w (.returned (jI jJ (-1:Int))) wr from⟨⟨-1,rfl,by rw[g];rfl,by omega,by omega⟩,f⟩);clear g f;go_wp2;go_ret;exact t.out
theorem WH{vS:mU->Bool}(j:∀a b c d:Int,aF zB 77 [jA #[jI jJ a,jI jJ b,jI jJ c,jI jJ d]] (.bool (!vS (a,b,c,d))))
  (A:Option Addr)(n c:Nat)(l:List mU)(w:World)(g:iX w)(h:Sols w A n l):
  Calls zB 76 #[.slice A n c,.func (.func 77) #[] #[]] w fun e w'=>e=.returned (.bool (l.any fun s=> !vS s))/\Below w.heap.size w w':=by
 have m:=zA (Xl j A n c l w g h);clear h j g;go_enter Tryz.func76,Tryz.ntmps76;go_wp2_with fail
 refine m.out.mono ?_;rintro e w' ⟨⟨r,rfl,i,_,_⟩,f⟩;have o:=zA i;have k:=zA f;clear i f;go_wp2;go_ret;rw[<-o.out];exact⟨rfl,k.out⟩
theorem OC{w w1:World}{x y:Value}{t:TypeId}{B b:Nat}(d:Below B w w1)(c:b<B)(h:w.heap[b]? =some (jC #[x,y] t (0,0))):
  (w1.cell? ⟨b,0,none⟩=some x/\w1.cell? ⟨b,1,none⟩=some y)/\w1.frozen? ⟨b,0,none⟩=false/\w1.frozen? ⟨b,1,none⟩=false:=by
 have a:w1.heap[b]? =some (jC #[x,y] t (0,0)):=(d.block b c).trans h;refine⟨⟨?_,?_⟩,?_,?_⟩
 ·rw[cell_of_row w1 b 0 _ _ _ a];rfl
 ·rw[cell_of_row w1 b 1 _ _ _ a];rfl
 ·simp[World.frozen?,a]
 ·simp[World.frozen?,a]
theorem Pi(w:World)(a b c d:Int):let W:=(((w.alloc (jC ⟨[jI jJ a,jI jJ b]⟩ 31)).alloc (jC ⟨[jI jJ c,jI jJ d]⟩ 31)).alloc (jC #[jI jJ 0,jI jJ 0] 31))
  W.heap[w.heap.size]? =some (jC #[jI jJ a,jI jJ b] 31 (0,0))/\W.heap[w.heap.size+ 1]? =some (jC #[jI jJ c,jI jJ d] 31 (0,0))/\W.heap[w.heap.size+2]? =some (jC #[jI jJ 0,jI jJ 0] 31 (0,0))/\W.heap.size=w.heap.size+3/\Below w.heap.size w W:=by
 refine⟨?_,?_,?_,by simp,((((zD _ _).alloc (zC _) _).alloc (by simp) _).alloc (by simp;omega) _)⟩
 ·rw[zW _ _ _ (by simp;omega),zW _ _ _ (by simp),heap_alloc_new]
 ·rw[zW _ _ _ (by simp)];have:=heap_alloc_new (w.alloc (jC ⟨[jI jJ a,jI jJ b]⟩ 31)) (jC ⟨[jI jJ c,jI jJ d]⟩ 31);simpa using this
 ·have:=heap_alloc_new ((w.alloc (jC ⟨[jI jJ a,jI jJ b]⟩ 31)).alloc (jC ⟨[jI jJ c,jI jJ d]⟩ 31)) (jC #[jI jJ 0,jI jJ 0] 31);simpa using this
theorem L7(w:World)(o:Obj)(x y:Int):∀j u,[Value.int jJ x,jI jJ y][j]? =some u->((w.alloc o).alloc (jC #[jI jJ x,jI jJ y] 31)).cell? ((⟨w.heap.size+1,0,none⟩:Addr).add j)=some u:=by
 have a:((w.alloc o).alloc (jC #[jI jJ x,jI jJ y] 31)).heap[w.heap.size+ 1]? =some (jC #[jI jJ x,jI jJ y] 31):=by
  have:=heap_alloc_new (w.alloc o) (jC #[jI jJ x,jI jJ y] 31);simpa using this
 exact aaJ a
structure DirRel (a b c d:Int) (w0 wr:World) (B:Nat) (v6 v7:Value) (i:Nat):Prop where
 le:i<=3
 turn:v7=jI jJ (-21600000+21600000*(i:Int))
 own:wr.ownsRow B 31 2 v6 (DX a b c d i).length (mZ (DX a b c d i))
 below:Below B w0 wr
theorem KA(hm:∀a b c d,aF zB 58 [aG a b,aG c d] (aT (cG a b c d)))(ht:∀a b,aF zB 115 [aG a b] (aT (fX a b)))(hq:aF zB 114 [] (aG 0 21600000))
  (b5:∀(a b c d:Int) (w:World),(Op.equalIn 10000 31 (jA #[jI jJ a,jI jJ b]) (jA #[jI jJ c,jI jJ d])).run zB w=.ok (a==c&&b==d) w)
  (a b c d:Int)(hv:aB a b=true)(U:aB c d=true)(t:-500000000000<=c/\d<=500000000000)(w:World)(hg:iX w):Calls zB 79 #[aG a b,aG c d] w (GP (aT (gE a b c d)) w):=by
 have HM:=zA hm;have HT:=zA ht;have HQ:=zA hq;have bd:=dW hv;have b1:=dW U;have HV:=zA hv;have b0:=zA U;have HG:=zA hg;clear hm ht hq hv U hg;have HW:=zA (Pi w a b c d);have H0:=zA (aGr HQ.out (HG.out.below HW.out.2.2.2.2));unfold aG;go_enter Tryz.func79,Tryz.ntmps79;go_wp2_with fail
 refine H0.out.mono ?_;rintro e w1 ⟨rfl,m⟩;obtain⟨Z,k2,k3,V,k5⟩:=HW.out;generalize (((w.alloc (jC ⟨[jI jJ a,jI jJ b]⟩ 31)).alloc (jC ⟨[jI jJ c,jI jJ d]⟩ 31)).alloc (jC #[jI jJ 0,jI jJ 0] 31))=W at*;rw[V]at m;have a3:=m.size;rw[V]at a3;obtain⟨⟨p0,p1⟩,f0,f1⟩:=OC m (b:=w.heap.size) (by omega) Z;obtain⟨⟨q0,q1⟩,g0,g1⟩:=OC m (b:=w.heap.size+1) (by omega) k2;obtain⟨⟨G,H⟩,l0,l1⟩:=OC m (b:=w.heap.size+2) (by omega) k3;have M:=zA m;have D:=zA (And.intro Z (And.intro k2 (And.intro k3 (And.intro V k5))));clear Z k2 k3 V k5 m HW H0;unfold aG;by_cases Q:a=0/\b=21600000
 ·have e1:(0==a&&21600000==b)=true:=by simp[Q]
  have B:=zA (show ∀f,Below w.heap.size w f->GP (aT (gE a b c d)) w (.returned (.tuple #[jA #[jI jJ c,jI jJ d],jI jJ 0])) f from fun f t=>⟨by unfold gE;rw[if_pos Q];rfl,t⟩);have z:=zA (D.out.2.2.2.2.trans (M.out.mono (by omega)));clear Q;go_wp2;refine bodyPost_ret (v:=.tuple #[jA #[jI jJ c,jI jJ d],jI jJ 0]) (by simp[results,Tryz.results79,go_sem,G,H]) rfl (B.out _ ?_);exact(z.out.setCell (by simp;omega) _).setCell (by simp;omega) _
 have e1:(0==a&&21600000==b)=false:=by
  rw[Bool.and_eq_false_iff,beq_eq_false_iff_ne,beq_eq_false_iff_ne];omega
 by_cases h2:c=0/\d=21600000
 ·have e2:(0==c&&21600000==d)=true:=by simp[h2]
  have B:=zA (show ∀f,Below w.heap.size w f->GP (aT (gE a b c d)) w (.returned (.tuple #[jA #[jI jJ a,jI jJ b],jI jJ 0])) f from fun f t=>⟨by unfold gE;rw[if_neg Q,if_pos h2];rfl,t⟩);have z:=zA (D.out.2.2.2.2.trans (M.out.mono (by omega)));clear Q h2;go_wp2;refine bodyPost_ret (v:=.tuple #[jA #[jI jJ a,jI jJ b],jI jJ 0]) (by simp[results,Tryz.results79,go_sem,G,H]) rfl (B.out _ ?_);exact(z.out.setCell (by simp;omega) _).setCell (by simp;omega) _
 have e2:(0==c&&21600000==d)=false:=by
  rw[Bool.and_eq_false_iff,beq_eq_false_iff_ne,beq_eq_false_iff_ne];omega
 have HD:=zA (show gE a b c d=aD3 a b c d (DX a b c d 3) by unfold gE;rw[if_neg Q,if_neg h2]);have s:=zA (show DirRel a b c d W w1 (w.heap.size+3) (.slice none 0 0) (jI jJ (-21600000)) 0 from⟨by omega,rfl,World.ownsRow_nil _ _ _ _,M.out⟩);clear Q h2;go_wp2_with fail
 go_loopw [6,7] (fun v6 v7 wr=>∃i,DirRel a b c d W wr (w.heap.size+3) v6 v7 i) (fun _ v7 _=>(43200000-intOf v7).toNat)
 case atStart=>exact⟨_,s.out⟩
 case round=>
  clear s p0 p1 f0 f1 q0 q1 g0 g1 G H l0 l1;obtain⟨i,hi,rfl,K,h⟩:=hrel;obtain⟨Z,k2,k3,V,k5⟩:=D.out;have a5:=h.size;rw[V]at a5;obtain⟨⟨p0,p1⟩,f0,f1⟩:=OC h (b:=w.heap.size) (by omega) Z;obtain⟨⟨q0,q1⟩,g0,g1⟩:=OC h (b:=w.heap.size+1) (by omega) k2;obtain⟨⟨G,H⟩,l0,l1⟩:=OC h (b:=w.heap.size+2) (by omega) k3;have z:=zA h;have I:=zA K;clear Z k2 k3 V k5 h K;by_cases R:i<3
  ·have HS:=zA (Pb a b c d i R);have hk:-21600000+21600000*(i:Int)<=21600000:=by omega
   have b8:-21600000<=-21600000+21600000*(i:Int):=by omega
   have HI:=zA (show -21600000+21600000*(i:Int)+21600000=-21600000+21600000*((i+1:Nat):Int) by omega);generalize -21600000+21600000*(i:Int)=k at*;have X:=zA (U9 (HM.out a b (c+k) (d+k)) (HG.out.below (D.out.2.2.2.2.trans (z.out.mono (by omega)))));unfold aG at X;go_wp2_with fail
   refine X.out.mono ?_;rintro e w2 ⟨rfl,l⟩;have a4:=l.size;have o:=zA (z.out.trans (l.mono (by omega)));have a0:=zA (gG I.out l);have av:aB (c+k) (d+k)=true:=by unfold aB;simp;omega
   obtain⟨⟨b9,c0⟩,b2,b3⟩:=OC o.out (b:=w.heap.size) (by omega) D.out.1;clear p0 p1 f0 f1 q0 q1 g0 g1 G H l0 l1 l;by_cases Y:mx a (c+k)>mn b (d+k)
   ·have hr:cG a b (c+k) (d+k)=(0,0,23):=by unfold cG;rw[if_pos ⟨HV.out,av⟩,if_pos Y]
    have hp:JZ a b c d k=none:=by unfold JZ;rw[if_pos Y]
    rw[hr];rw[hp]at HS;have J:=zA (gG a0.out ((zD _ _).alloc (zC _) (jC #[jI jJ 0,jI jJ 0] 31)));have O:=zA (o.out.alloc (by omega) (jC #[jI jJ 0,jI jJ 0] 31));have s:=zA (show DirRel a b c d W (w2.alloc (jC #[jI jJ 0,jI jJ 0] 31)) (w.heap.size+3) u6 (jI jJ (k+21600000)) (i+1)from⟨R,by rw[HI.out],by rw[HS.out];simpa using J.out,O.out⟩);clear hr hp Y;unfold aT aG;go_wp2;go_roundw
    case rel=>exact⟨_,s.out⟩
    case measure=>simp[intOf];omega
   ·have hr:cG a b (c+k) (d+k)=(mx a (c+k),mn b (d+k),0):=by unfold cG;rw[if_pos ⟨HV.out,av⟩,if_neg Y]
    have hp:JZ a b c d k=some (mx a (c+k),mn b (d+k)):=by unfold JZ;rw[if_neg Y]
    rw[hr];rw[hp]at HS;generalize mx a (c+k)=x at*;generalize mn b (d+k)=y at*;have J:=zA (gG a0.out (((zD _ _).alloc (zC _) (jC #[jI jJ x,jI jJ y] 31)).alloc (by simp) (jC #[jI jJ x,jI jJ y] 31)));have O:=zA ((o.out.alloc (by omega) (jC #[jI jJ x,jI jJ y] 31)).alloc (by simp;omega) (jC #[jI jJ x,jI jJ y] 31));clear hr hp Y;obtain⟨i0,hi,a6,a7,a9⟩:=fH JH;unfold aT aG;go_wp2_with (at_builtin;refine wpList_append_own _ rfl (.tmp 39) (.tmp 41) 87 rfl (w.heap.size+3) 31 i0 (jA #[jI jJ 0,jI jJ 0]) 2 16 Tryz.underlying87 hi a6 a7 a9 rfl (by decide) u6 (DX a b c d i).length _ rfl J.out ⟨w2.heap.size+1,0,none⟩ 1 1 [jI jJ x,jI jJ y] rfl rfl ?c1 ?c2 ?c3 ?c4 ?c5 ?_)
    case c1=>exact L7 w2 _ x y
    case c2=>intro u hu;simp at hu;rcases hu with rfl|rfl<;>rfl
    case c3=>have:=JY a b c d i;unfold maxLen;omega
    case c4=>have:=JY a b c d i;omega
    case c5=>simp;omega
    intro v' w4 n hg _;rw[<-wU _ (x,y)]at n;have a1:=zA (O.out.grown hg (by simp;omega) (fun q hq=>(J.out.lt q hq).1));have s:=zA (show DirRel a b c d W w4 (w.heap.size+3) v' (jI jJ (k+21600000)) (i+1)from⟨R,by rw[HI.out],by rw[HS.out];simpa using n,a1.out⟩);clear hg n;go_wp2;go_roundw
    case rel=>exact⟨_,s.out⟩
    case measure=>simp[intOf];omega
  ·have a2:i=3:=by omega
   subst a2;have bz:=z.out;cases E:DX a b c d 3 with
   |nil=>
    rw[E]at I;obtain⟨A,cp,rfl⟩:=rC I.out;have B:=zA (show ∀f,Below w.heap.size w f->GP (aT (gE a b c d)) w (.returned (.tuple #[jA #[jI jJ 0,jI jJ 0],jI jJ 23])) f from fun f t=>⟨by rw[HD.out,E];rfl,t⟩);have j:=zA (D.out.2.2.2.2.trans (z.out.mono (by omega)));clear E bz;go_wp2;refine bodyPost_ret (v:=.tuple #[jA #[jI jJ 0,jI jJ 0],jI jJ 23]) (by simp[results,Tryz.results79,go_sem,G,H]) rfl (B.out _ ?_);exact(j.out.setCell (by simp;omega) _).setCell (by simp;omega) _
   |cons p L=>
    cases L with
    |nil=>
     rw[E]at I;obtain⟨g,cp,rfl,b6,b7⟩:=I.out.form (by simp);have cg:=I.out.cells (g:=g) rfl;have x0:=cg 0 (jI jJ p.1) rfl;have x1:=cg 1 (jI jJ p.2) rfl;have r:=zA (show gE a b c d=fX p.1 p.2 by rw[HD.out,E];rfl);have j:=zA (D.out.2.2.2.2.trans (z.out.mono (by omega)));obtain⟨x,y⟩:=p;have X:=zA (aCz (HT.out x y) (HG.out.below j.out));simp only[Addr.add]at x0 x1;simp at x0 x1;unfold aG at X;clear E bz cg;go_wp2_with fail
     refine X.out.mono ?_;rintro e w2 ⟨rfl,l⟩;have o:=zA (z.out.trans (l.mono (by omega)));have a4:=l.size;obtain⟨⟨G,H⟩,l0,l1⟩:=OC o.out (b:=w.heap.size+2) (by omega) D.out.2.2.1;have j:=zA (D.out.2.2.2.2.trans (o.out.mono (by omega)));have B:=zA (show ∀f,Below w.heap.size w f->GP (aT (gE a b c d)) w (.returned (.tuple #[jA #[jI jJ (fX x y).1,jI jJ (fX x y).2.1],jI jJ (fX x y).2.2])) f from fun f t=>⟨by rw[r.out];rfl,t⟩);clear l X;unfold aT aG;go_wp2;refine bodyPost_ret (v:=.tuple #[jA #[jI jJ (fX x y).1,jI jJ (fX x y).2.1],jI jJ (fX x y).2.2]) (by simp[results,Tryz.results79,go_sem,G,H]) rfl (B.out _ ?_);exact(j.out.setCell (by simp;omega) _).setCell (by simp;omega) _
    |cons q L=>
     rw[E]at I;obtain⟨A,cp,rfl⟩:=rC I.out;have hN:2<=(p::q::L).length:=by simp
     have b4:(p::q::L).length<=3:=by rw[<-E];exact JY a b c d 3
     have r:=zA (show gE a b c d=if d-c<b-a then(c,d,0) else(a,b,0) by rw[HD.out,E];rfl);have j:=zA (D.out.2.2.2.2.trans (z.out.mono (by omega)));clear I E bz;generalize (p::q::L).length=N at*;have e3:((N:Int)==0)=false:=beq_eq_false_iff_ne.2 (by omega);have e4:((N:Int)==1)=false:=beq_eq_false_iff_ne.2 (by omega);have e5:IntKind.i64.wrap (d-c)=d-c:=IntWalk.i64_in _ (by omega);have e6:IntKind.i64.wrap (b-a)=b-a:=IntWalk.i64_in _ (by omega);by_cases hw:d-c<b-a
     ·rw[if_pos hw]at r;have B:=zA (show ∀f,Below w.heap.size w f->GP (aT (gE a b c d)) w (.returned (.tuple #[jA #[jI jJ c,jI jJ d],jI jJ 0])) f from fun f t=>⟨by rw[r.out];rfl,t⟩);go_wp2;refine bodyPost_ret (v:=.tuple #[jA #[jI jJ c,jI jJ d],jI jJ 0]) (by simp[results,Tryz.results79,go_sem,G,H]) rfl (B.out _ ?_);exact(j.out.setCell (by simp;omega) _).setCell (by simp;omega) _
     ·rw[if_neg hw]at r;have B:=zA (show ∀f,Below w.heap.size w f->GP (aT (gE a b c d)) w (.returned (.tuple #[jA #[jI jJ a,jI jJ b],jI jJ 0])) f from fun f t=>⟨by rw[r.out];rfl,t⟩);go_wp2;refine bodyPost_ret (v:=.tuple #[jA #[jI jJ a,jI jJ b],jI jJ 0]) (by simp[results,Tryz.results79,go_sem,G,H]) rfl (B.out _ ?_);exact(j.out.setCell (by simp;omega) _).setCell (by simp;omega) _
def Bk(w:World)(b:Nat)(s:mU):Prop:=w.heap[b]? =some (jC #[jI jJ s.1,jI jJ s.2.1,jI jJ s.2.2.1,jI jJ s.2.2.2] 73 (0,0))
theorem Bk.lt{w:World}{b:Nat}{s:mU}(h:Bk w b s):b<w.heap.size:=(Array.getElem?_eq_some_iff.1 h).1
theorem Bk.below{w w':World}{b B:Nat}{s:mU}(h:Bk w b s)(c:Below B w w')(a:b<B):Bk w' b s:=(c.block b a).trans h
theorem Bk.next{w w':World}{b:Nat}{s:mU}(h:Bk w b s)(a:Below w.heap.size w w'):Bk w' b s:=h.below a h.lt
theorem Bk.new(w:World)(s:mU):Bk (w.alloc (jC #[jI jJ s.1,jI jJ s.2.1,jI jJ s.2.2.1,jI jJ s.2.2.2] 73)) w.heap.size s:=heap_alloc_new w _
theorem Bk.write{w:World}{b:Nat}{s:mU}(h:Bk w b s)(v:mU):
  Bk ((((w.setCell ⟨b,0,none⟩ (jI jJ v.1)).setCell ⟨b,1,none⟩ (jI jJ v.2.1)).setCell ⟨b,2,none⟩ (jI jJ v.2.2.1)).setCell ⟨b,3,none⟩ (jI jJ v.2.2.2)) b v:=by
 unfold Bk at*;simp[qK,h,Array.getElem?_modify]
theorem Bk.other{w:World}{b b':Nat}{s:mU}(h:Bk w b s)(c:b≠b')(d f g i:Value):
  Bk ((((w.setCell ⟨b',0,none⟩ d).setCell ⟨b',1,none⟩ f).setCell ⟨b',2,none⟩ g).setCell ⟨b',3,none⟩ i) b s:=by
 unfold Bk at*;have a:b'≠b:=fun e=>c e.symm;simp[qK,h,Array.getElem?_modify,a]
theorem Bk.keep{w:World}{b:Nat}{s:mU}(h:Bk w b s):
  (w.cell? ⟨b,0,none⟩=some (jI jJ s.1)/\w.cell? ⟨b,1,none⟩=some (jI jJ s.2.1)/\w.cell? ⟨b,2,none⟩=some (jI jJ s.2.2.1)/\w.cell? ⟨b,3,none⟩=some (jI jJ s.2.2.2))/\
  w.frozen? ⟨b,0,none⟩=false/\w.frozen? ⟨b,1,none⟩=false/\w.frozen? ⟨b,2,none⟩=false/\w.frozen? ⟨b,3,none⟩=false:=by
 unfold Bk at h;refine⟨⟨?_,?_,?_,?_⟩,?_,?_,?_,?_⟩<;>simp[World.cell?,World.frozen?,h]
theorem Sols.tail{w:World}{A:Option Addr}{n c:Nat}{l:List mU}(h:Sols w A n l)(e:0<n)(g:n<=c):Sols w (if c=1 then A else A.map (·.add 4)) (n-1) (l.drop 1):=by
 refine⟨by rw[List.length_drop,h.len],by have:=h.le;omega,fun f=>?_⟩;obtain⟨b,off,rfl,d,a⟩:=h.cells e;rw[if_neg (by omega)];refine⟨b,off+4,by simp[Addr.add],d,fun i hi=>?_⟩;have:=a (i+1) (by omega);rw[show(l.drop 1).getD i OA=l.getD (i+1) OA by rw[List.getD_eq_getElem?_getD,List.getD_eq_getElem?_getD,List.getElem?_drop,Nat.add_comm]];rw[show off+4+i*4=off+(i+1)*4 by omega];exact this
structure MeetRel (l:List mU) (w wr:World) (Bo:Nat) (v:Value) (o:mU) (k:Nat):Prop where
 le:k+1<=l.length
 num:v=jI jJ (k:Int)
 out:Bk wr Bo o
 res:Bk wr w.heap.size OA
 val:aB o.2.2.1 o.2.2.2=true
 eq:FP (l.getD 0 OA) (l.drop 1)=FP o (l.drop (k+1))
 below:Below w.heap.size w wr
theorem Qj(hm:∀a b c d,aF zB 58 [aG a b,aG c d] (aT (cG a b c d)))(hf:∀a b c d:Int,aF zB 77 [jA #[jI jJ a,jI jJ b,jI jJ c,jI jJ d]] (.bool (!uD (a,b,c,d))))
  (hd:∀a b c d,aB a b=true->aB c d=true->(-500000000000<=c/\d<=500000000000)->aF zB 79 [aG a b,aG c d] (aT (gE a b c d)))
  (c9:∀a b,aB a b=true->(fX a b).2.2=0->aB (fX a b).1 (fX a b).2.1=true)
  (A:Option Addr)(n c:Nat)(l:List mU)(w:World)(hg:iX w)(h:Sols w A n l)(hc:n<=c)(_hc':c<=9223372036854775807)(h0:0<n)(h1:¬1000<n)(g4:c≠1):
  Calls zB 39 #[.slice A n c] w (GP (nM (nY l)) w):=by
 have D:=zA h.len;have HS:=zA h;have HM:=zA hm;have HD:=zA hd;have e4:=zA c9;have Z:=zA ((zD w.heap.size w).alloc (zC _) (jC #[jI jJ 0,jI jJ 0,jI jJ 0,jI jJ 0] 73));have e3:=zA (Bk.new w OA);have HG:=zA hg;have HC:=zA (WH hf A n c l _ (hg.below Z.out) (h.below Z.out (zC _)));have e1:((n:Int)==0)=false:=beq_eq_false_iff_ne.2 (by omega);have e2:¬(1000:Int)<(n:Int):=by omega
 clear h hm hd c9 hf hg;go_enter Tryz.func39,Tryz.ntmps39;go_wp2_with fail
 refine HC.out.mono ?_;rintro e E ⟨rfl,K⟩;have a0:=zA (Z.out.trans (K.mono (by simp)));have b8:=zA (e3.out.next K);have e9:=K.size;simp at e9;clear K;cases hA:l.any (fun s=> !uD s)with
 |true=>
  have HF:=zA (show ∀B,Below w.heap.size w B->GP (nM (nY l)) w (.returned (.tuple #[jA #[jI jJ 0,jI jJ 0,jI jJ 0,jI jJ 0],jI jJ 1])) B from fun B hb=>⟨by
   have:=D.out;cases l with
   |nil=>simp at this;omega
   |cons s r=>rw[Qi (by omega) hA];rfl,hb⟩)
  obtain⟨⟨r0,r1,r2,r3⟩,l0,l1,l2,l3⟩:=b8.out.keep;clear hA;go_wp2;refine bodyPost_ret (v:=.tuple #[jA #[jI jJ 0,jI jJ 0,jI jJ 0,jI jJ 0],jI jJ 1]) (by simp[results,Tryz.results39,go_sem,r0,r1,r2,r3]) rfl (HF.out _ ?_);exact Below.set4 a0.out (zC _) _ _ _ _
 |false=>
  have HV:=zA (show ∀s∈l,uD s=true from fun s hs=>by
   rw[List.any_eq_false]at hA;have:=hA s hs;simpa using this)
  have HR:=zA (show nY l=match FP (l.getD 0 OA) (l.drop 1)with
   |none=>(0,0,0,0,23)
   |some x=>(x.1,x.2.1,x.2.2.1,x.2.2.2,0) by
   have:=D.out;cases l with
   |nil=>simp at this;omega
   |cons s r=>rw[Yj (by omega) hA];rfl)
  obtain⟨b,off,a1,a2,a3,a4,rfl,hb,hy,d0,d1,d2,d3⟩:=HS.out.at_ h0 a0.out;have HY:=zA hy;have HT:=zA (HS.out.tail h0 hc);clear hA hy;simp only[Nat.zero_mul,Nat.add_zero]at d0 d1 d2 d3;have c0:=zA (show Bk (E.alloc (jC #[jI jJ a1,jI jJ a2,jI jJ a3,jI jJ a4] 73)) E.heap.size (a1,a2,a3,a4)from Bk.new E (a1,a2,a3,a4));have b9:=zA (b8.out.next ((zD _ _).alloc (zC _) (jC #[jI jJ a1,jI jJ a2,jI jJ a3,jI jJ a4] 73)));have b7:=zA (a0.out.alloc (by omega) (jC #[jI jJ a1,jI jJ a2,jI jJ a3,jI jJ a4] 73));have b2:=(IM (HV.out _ (KY (l:=l) (k:=0) (by rw[D.out];exact h0)))).2.1;rw[HY.out]at b2;have J:=zA (show MeetRel l w (E.alloc (jC #[jI jJ a1,jI jJ a2,jI jJ a3,jI jJ a4] 73)) E.heap.size (jI jJ 0) (a1,a2,a3,a4) 0 from⟨by rw[D.out];omega,rfl,c0.out,b9.out,b2,by rw[HY.out],b7.out⟩);go_wp2_with fail
  obtain⟨m,hm⟩:∃m,n-1=m:=⟨_,rfl⟩;rw[hm];clear b2 c0 b9 b7;go_loopw [31] (fun v wr=>∃k o,MeetRel l w wr E.heap.size v o k) (fun v _=>m-(intOf v).toNat)
  case atStart=>exact⟨_,_,J.out⟩
  case round=>
   clear J d0 d1 d2 d3;obtain⟨k,o,hk,rfl,z,V,X,c7,i⟩:=hrel;rw[D.out]at hk;have HB:=zA i;have c2:=zA V;have I:=zA z;have c3:=zA X;have HE:=zA c7;have c8:=i.size;have g6:=z.lt;clear V z X c7;by_cases g5:k<m
   ·obtain⟨b',f8,M,N,O,Q,b1,f9,b4,d0,d1,d2,d3⟩:=HS.out.at_ (k:=k+1) (by omega) i;injection b1 with b1;injection b1 with c5 c6;subst c5 c6;rw[show off+(k+1)*4=off+4+k*4 by omega]at d0 d1 d2 d3;have e7:=zA b4;have b3:=HV.out _ (KY (l:=l) (k:=k+1) (by rw[D.out];omega));rw[b4]at b3;have a9:=zA b3;obtain⟨o1,o2,o3,o4⟩:=o;have e5:=zA (show Bk (wr.alloc (jC #[jI jJ M,jI jJ N,jI jJ O,jI jJ Q] 73)) wr.heap.size (M,N,O,Q)from Bk.new wr (M,N,O,Q));have b5:=zA ((zD wr.heap.size wr).alloc (zC _) (jC #[jI jJ M,jI jJ N,jI jJ O,jI jJ Q] 73));have a6:=zA (U9 (HM.out o1 o2 M N) (HG.out.below (HB.out.trans (b5.out.mono c8))));obtain⟨⟨p0,p1,p2,p3⟩,f0,f1,f2,f3⟩:=I.out.keep;clear i b4 b3;unfold aG at a6;go_wp2_with fail
    refine a6.out.mono ?_;rintro e w2 ⟨rfl,t⟩;obtain⟨f,g,u,hh⟩:∃h1 h2 he,cG o1 o2 M N=(h1,h2,he):=⟨_,_,_,rfl⟩;have HH:=zA hh;rw[hh];have G:=zA ((b5.out.trans (t.mono (by simp))).alloc (zJ (by simp) t.size) (jC #[jI jJ f,jI jJ g] 31));have f5:=G.out.size;have f4:=t.size;simp at f4 f5;have e6:=zA ((e5.out.next t).next ((zD _ _).alloc (zC _) (jC #[jI jJ f,jI jJ g] 31)));have c4:(w2.alloc (jC #[jI jJ f,jI jJ g] 31)).heap[w2.heap.size]? =some (jC #[jI jJ f,jI jJ g] 31 (0,0)):=heap_alloc_new w2 _;have d6:=zA c4;have a7:=zA (U9 (HD.out o3 o4 O Q c3.out (IM a9.out).2.1 (by have:=IM a9.out;dsimp only at this;omega)) (HG.out.below (HB.out.trans (G.out.mono c8))));obtain⟨⟨p0,p1,p2,p3⟩,f0,f1,f2,f3⟩:=(I.out.next G.out).keep;obtain⟨⟨q0,q1,q2,q3⟩,g0,g1,g2,g3⟩:=e6.out.keep;clear t hh c4 a6;unfold aG at a7;unfold aT aG;go_wp2_with fail
    refine a7.out.mono ?_;rintro e w4 ⟨rfl,L⟩;obtain⟨p,q,ze,hz⟩:∃p q ze,gE o3 o4 O Q=(p,q,ze):=⟨_,_,_,rfl⟩;have HZ:=zA hz;rw[hz];have f6:=L.size;simp at f6;have Y:=zA ((G.out.trans (L.mono (by simp;omega))).alloc (by omega) (jC #[jI jJ p,jI jJ q] 31));have d5:=zA (show(w4.alloc (jC #[jI jJ p,jI jJ q] 31)).heap[w4.heap.size]? =some (jC #[jI jJ p,jI jJ q] 31 (0,0))from heap_alloc_new w4 _);have b6:=zA (show(w4.alloc (jC #[jI jJ p,jI jJ q] 31)).heap[w2.heap.size]? =some (jC #[jI jJ f,jI jJ g] 31 (0,0))from((L.alloc (by simp;omega) (jC #[jI jJ p,jI jJ q] 31)).block _ (by simp)).trans d6.out);have R:=zA (I.out.next Y.out);have U:=zA (c2.out.next Y.out);have a5:=zA (HB.out.trans (Y.out.mono (by omega)));clear L hz a7 p0 p1 p2 p3 f0 f1 f2 f3 q0 q1 q2 q3 g0 g1 g2 g3 d0 d1 d2 d3;obtain⟨⟨p0,p1⟩,f0,f1⟩:=OC (zD (w4.heap.size+1) _) (b:=w4.heap.size) (by omega) d5.out;obtain⟨⟨q0,q1⟩,g0,g1⟩:=OC (zD (w4.heap.size+1) _) (b:=w2.heap.size) (by omega) b6.out;have H:=zA (show l.drop (k+1)=(M,N,O,Q)::l.drop (k+2) by
     rw[List.drop_eq_getElem_cons (by rw[D.out];omega)];congr 1;have:=e7.out;rw[List.getD_eq_getElem?_getD,List.getElem?_eq_getElem (by rw[D.out];omega)]at this;exact this)
    by_cases y:u=0/\ze=0
    ·obtain⟨rfl,rfl⟩:=y;have j:LQ (o1,o2,o3,o4) (M,N,O,Q)=some (f,g,p,q):=by
      unfold LQ;dsimp only;rw[HH.out,HZ.out];rfl
     have J:=zA (show ∀wf,Bk wf E.heap.size (f,g,p,q)->Bk wf w.heap.size OA->Below w.heap.size w wf->MeetRel l w wf E.heap.size (jI jJ ((k:Int)+1)) (f,g,p,q) (k+1)from fun wf i1 i2 i3=>⟨by rw[D.out];omega,rfl,i1,i2,YR e4.out c3.out a9.out j,by rw[HE.out,H.out];simp only[FP];rw[j],i3⟩);obtain⟨⟨r0,r1,r2,r3⟩,l0,l1,l2,l3⟩:=R.out.keep;have d7:=zA (R.out.write (f,g,p,q));have d8:=zA (U.out.other (b':=E.heap.size) (by omega) (jI jJ f) (jI jJ g) (jI jJ p) (jI jJ q));have d9:=zA (Below.set4 a5.out (b:=E.heap.size) (by omega) (jI jJ f) (jI jJ g) (jI jJ p) (jI jJ q));clear j;unfold aT aG;go_wp2;go_roundw
     case rel=>exact⟨_,_,J.out _ d7.out d8.out d9.out⟩
     case measure=>simp[intOf];omega
    ·have j:LQ (o1,o2,o3,o4) (M,N,O,Q)=none:=by
      unfold LQ;dsimp only;rw[HH.out,HZ.out];exact if_neg y
     have HF:=zA (show ∀B,Below w.heap.size w B->GP (nM (nY l)) w (.returned (.tuple #[jA #[jI jJ 0,jI jJ 0,jI jJ 0,jI jJ 0],jI jJ 23])) B from fun B hb=>⟨by
      rw[HR.out,HE.out,H.out];simp only[FP];rw[j];rfl,hb⟩)
     obtain⟨⟨r0,r1,r2,r3⟩,l0,l1,l2,l3⟩:=U.out.keep;have b0:(u != 0||ze != 0)=true:=by
      by_cases e:u=0
      ·have:ze≠0:=fun e2=>y ⟨e,e2⟩;simp[e,this]
      ·simp[e]
     clear j;unfold aT aG;by_cases e:u=0
     ·have f7:(ze != 0)=true:=by simpa[e]using b0
      subst e;clear b0 y;go_wp2;refine bodyPost_ret (v:=.tuple #[jA #[jI jJ 0,jI jJ 0,jI jJ 0,jI jJ 0],jI jJ 23]) (by simp[results,Tryz.results39,go_sem,r0,r1,r2,r3]) rfl (HF.out _ ?_);exact Below.set4 a5.out (zC _) _ _ _ _
     ·have f7:(u != 0)=true:=by simpa using e
      clear b0 y;go_wp2;refine bodyPost_ret (v:=.tuple #[jA #[jI jJ 0,jI jJ 0,jI jJ 0,jI jJ 0],jI jJ 23]) (by simp[results,Tryz.results39,go_sem,r0,r1,r2,r3]) rfl (HF.out _ ?_);exact Below.set4 a5.out (zC _) _ _ _ _
   ·have e8:k=m:=by omega
    subst e8;have H:=zA (show l.drop (k+1)=[]from List.drop_eq_nil_of_le (by rw[D.out];omega));obtain⟨o1,o2,o3,o4⟩:=o;have HF:=zA (show ∀B,Below w.heap.size w B->GP (nM (nY l)) w (.returned (.tuple #[jA #[jI jJ o1,jI jJ o2,jI jJ o3,jI jJ o4],jI jJ 0])) B from fun B hb=>⟨by
     rw[HR.out,HE.out,H.out];rfl,hb⟩)
    obtain⟨⟨p0,p1,p2,p3⟩,f0,f1,f2,f3⟩:=I.out.keep;obtain⟨⟨r0,r1,r2,r3⟩,l0,l1,l2,l3⟩:=c2.out.keep;dsimp only at p0 p1 p2 p3;go_wp2;refine bodyPost_ret (v:=.tuple #[jA #[jI jJ o1,jI jJ o2,jI jJ o3,jI jJ o4],jI jJ 0]) (by simp[results,Tryz.results39,go_sem,r0,r1,r2,r3]) rfl (HF.out _ ?_);exact Below.set4 HB.out (zC _) _ _ _ _
def UK(w:World)(e:Ending)(w':World):Prop:=∃g,e=.returned (.slice (some ⟨g,0,none⟩) 5 5)/\w.heap.size<=g/\w'.heap[g]? =some (jC #[jI jJ 1,jI jJ 2,jI jJ 3,jI jJ 4,jI jJ 5] 3 (0,0))/\Below w.heap.size w w'
theorem Ym(w:World):Calls zB 74 #[] w (UK w):=by
 have a:=zA (show UK w (.returned (.slice (some ⟨w.heap.size,0,none⟩) 5 5)) (w.alloc (jC #[jI jJ 1,jI jJ 2,jI jJ 3,jI jJ 4,jI jJ 5] 3))from⟨_,rfl,zC _,heap_alloc_new w _,(zD _ _).alloc (zC _) _⟩);go_enter Tryz.func74,Tryz.ntmps74;go_wp2;go_ret;exact a.out
def lK(l:List mU):List Value:=l.flatMap fun s=>[jI jJ s.1,jI jJ s.2.1,jI jJ s.2.2.1,jI jJ s.2.2.2]
theorem Pv(l:List mU):(lK l).length=l.length*4:=by
 induction l with
 |nil=>rfl
 |cons p l a=>rw[lK,List.flatMap_cons,List.length_append];rw[lK]at a;rw[a];simp;omega
theorem Ew(l:List mU)(s:mU):lK (l++[s])=lK l++[jI jJ s.1,jI jJ s.2.1,jI jJ s.2.2.1,jI jJ s.2.2.2]:=by simp[lK]
theorem Wv(l:List mU):∀(i:Nat),i<l.length->(lK l)[i*4]? =some (jI jJ (l.getD i OA).1)/\(lK l)[i*4+ 1]? =some (jI jJ (l.getD i OA).2.1)/\(lK l)[i*4+2]? =some (jI jJ (l.getD i OA).2.2.1)/\(lK l)[i*4+3]? =some (jI jJ (l.getD i OA).2.2.2):=by
 induction l with
 |nil=>intro i h;exact absurd h (by simp)
 |cons s l a=>
  intro i h;have e:lK (s::l)=jI jJ s.1::jI jJ s.2.1::jI jJ s.2.2.1::jI jJ s.2.2.2::lK l:=by simp[lK]
  rw[e];cases i with
  |zero=>simp
  |succ i=>
   have:=a i (by simpa using h);rw[show(i+1)*4=i*4+1+1+1+1 by omega,show i*4+1+1+1+1+1=(i*4+1)+1+1+1+1 by omega,show i*4+1+1+1+1+2=(i*4+2)+1+1+1+1 by omega,show i*4+1+1+1+1+3=(i*4+3)+1+1+1+1 by omega];simpa using this
theorem aBh{w:World}{B n:Nat}{A:Option Addr}{c:Nat}{l:List mU}(h:w.ownsRow B 73 4 (.slice A n c) n (lK l))(t:n<=9223372036854775807):Sols w A n l:=by
 have s:l.length=n:=by have:=h.1;rw[Pv]at this;omega
 refine⟨s,t,fun q=>?_⟩;obtain⟨g,f,u,_,b⟩:=h.form q;injection u with r _ _;subst r;refine⟨g,0,rfl,b,fun i hi=>?_⟩;have a:=h.cells (g:=g) rfl;obtain⟨k,m,o,p⟩:=Wv l i (by omega);have e:∀j,(⟨g,0,none⟩:Addr).add j=⟨g,0+j,none⟩:=fun j=>by unfold Addr.add;split<;>simp_all
 have e0:=a _ _ k;have e1:=a _ _ m;have e2:=a _ _ o;have d:=a _ _ p;rw[e]at e0 e1 e2 d;exact⟨e0,by rw[xX];exact e1,by rw[xX];exact e2,by rw[xX];exact d⟩
def CR(a b c d e f:Int):Value:=jA ⟨[jI jJ a,jI jJ b,jI jJ c,jI jJ d,jI jJ e,jI jJ f]⟩
def QZ(l:List mU)(w:World)(e:Ending)(w':World):Prop:=∃A c,e=.returned (.tuple #[.slice A l.length c,jI jJ 0])/\w'.ownsRow w.heap.size 73 4 (.slice A l.length c) l.length (lK l)/\Below w.heap.size w w'
theorem G5:(zB.info? 73).map (fun i=>(i.zero,i.size,i.bytes))=some (some (jA #[jI jJ 0,jI jJ 0,jI jJ 0,jI jJ 0]),4,32):=by kernel_rfl
def Tk(w:World)(k:Nat)(a b c d e f:Int):Prop:=w.heap[k]? =some (jC #[jI jJ a,jI jJ b,jI jJ c,jI jJ d,jI jJ e,jI jJ f] 47 (0,0))
theorem Tk.keep{w:World}{k:Nat}{a b c d e f:Int}(h:Tk w k a b c d e f):
  w.cell? ⟨k,0,none⟩=some (jI jJ a)/\w.cell? ⟨k,1,none⟩=some (jI jJ b)/\w.cell? ⟨k,2,none⟩=some (jI jJ c)/\w.cell? ⟨k,3,none⟩=some (jI jJ d)/\w.cell? ⟨k,4,none⟩=some (jI jJ e)/\w.cell? ⟨k,5,none⟩=some (jI jJ f):=by
 unfold Tk at h;refine⟨?_,?_,?_,?_,?_,?_⟩<;>simp[World.cell?,h]
theorem Tk.lt{w:World}{k:Nat}{a b c d e f:Int}(h:Tk w k a b c d e f):k<w.heap.size:=(Array.getElem?_eq_some_iff.1 h).1
theorem Tk.below{w w':World}{k B:Nat}{a b c d e f:Int}(h:Tk w k a b c d e f)(i:Below B w w')(g:k<B):Tk w' k a b c d e f:=(i.block k g).trans h
theorem aAD{w:World}{g:Nat}(h:w.heap[g]? =some (jC #[jI jJ 1,jI jJ 2,jI jJ 3,jI jJ 4,jI jJ 5] 3 (0,0)))(i:Nat)(hi:i<5):w.cell? ⟨g,i,none⟩=some (jI jJ ((i:Int)+1)):=by
 rw[cell_of_row w g i _ _ _ h];have:i=0\/i=1\/i=2\/i=3\/i=4:=by omega
 rcases this with rfl|rfl|rfl|rfl|rfl<;>rfl
theorem Qt{w:World}{base a e size n:Nat}{v:Value}{d:List Value}(h:w.ownsRow base e size v n d)(f:a<=base):w.ownsRow a e size v n d:=
 ⟨h.1,h.2.imp_right fun⟨g,b,c,j,i,r⟩=>⟨g,b,c,j,zJ f i,r⟩⟩
theorem Wx(w:World)(o:Obj)(x1 x2 a b:Int):∀j u,[Value.int jJ x1,jI jJ x2,jI jJ a,jI jJ b][j]? =some u->((w.alloc o).alloc (jC #[jI jJ x1,jI jJ x2,jI jJ a,jI jJ b] 73)).cell? ((⟨w.heap.size+1,0,none⟩:Addr).add j)=some u:=by
 have c:((w.alloc o).alloc (jC #[jI jJ x1,jI jJ x2,jI jJ a,jI jJ b] 73)).heap[w.heap.size+ 1]? =some (jC #[jI jJ x1,jI jJ x2,jI jJ a,jI jJ b] 73):=by
  have:=heap_alloc_new (w.alloc o) (jC #[jI jJ x1,jI jJ x2,jI jJ a,jI jJ b] 73);simpa using this
 exact aaJ c
structure AllRel (by_:Int->Int×Int×Int×Int×Int) (W wr:World) (B:Nat) (v4 v14:Value) (i:Nat):Prop where
 le:i<=5
 num:v14=jI jJ (i:Int)
 own:wr.ownsRow B 73 4 v4 (DO by_ i).length (lK (DO by_ i))
 below:Below B W wr
theorem U2{by_:Int->Int×Int×Int×Int×Int}{a b c d e f:Int}(hv:aF zB 25 [CR a b c d e f] (.bool true))(Q:∀m,1<=m->m<=5->aF zB 75 [jI jJ m,CR a b c d e f] (nM (by_ m)))(w:World)(E:iX w):
  Calls zB 38 #[CR a b c d e f] w (QZ (DO by_ 5) w):=by
 have Y:=zA Q;have HG:=zA E;have G:=zA ((zD w.heap.size w).alloc (zC _) (jC ⟨[jI jJ a,jI jJ b,jI jJ c,jI jJ d,jI jJ e,jI jJ f]⟩ 47));have J:=zA (show Tk (w.alloc (jC ⟨[jI jJ a,jI jJ b,jI jJ c,jI jJ d,jI jJ e,jI jJ f]⟩ 47)) w.heap.size a b c d e f from heap_alloc_new w _);have HV:=zA (aCz hv (E.below G.out));clear hv Q E;unfold CR at HV ⊢;obtain⟨p0,p1,p2,p3,p4,p5⟩:=J.out.keep;go_enter Tryz.func38,Tryz.ntmps38;go_wp2_with fail
 refine HV.out.mono ?_;rintro e w1 ⟨rfl,B⟩;have H:=zA (G.out.trans (B.mono (by simp)));have K:=zA (J.out.below B (by simp));clear B p0 p1 p2 p3 p4 p5 HV;go_wp2_with fail
 refine(Ym w1).mono ?_;rintro e l ⟨g,rfl,b0,hm,t⟩;have a3:=H.out.size;have b1:=t.size;have a0:g<l.heap.size:=(Array.getElem?_eq_some_iff.1 hm).1;have s:=zA (H.out.trans (t.mono a3));have L:=zA (K.out.below t K.out.lt);have HM:=zA hm;clear t hm;have k:=zA (show AllRel by_ l l l.heap.size (.slice none 0 0) (jI jJ 0) 0 from⟨by omega,rfl,by simpa[DO,lK]using World.ownsRow_nil l l.heap.size 73 4,zD _ _⟩);go_wp2_with fail
 go_loopw [4,14] (fun v4 a9 wr=>∃i,AllRel by_ l wr l.heap.size v4 a9 i) (fun _ v _=>5-(intOf v).toNat)
 case atStart=>exact⟨_,k.out⟩
 case round=>
  clear k;obtain⟨i,hi,rfl,z,h⟩:=hrel;have HB:=zA h;have HO:=zA z;have a4:=h.size;clear z;by_cases D:i<5
  ·obtain⟨p0,p1,p2,p3,p4,p5⟩:=(L.out.below h L.out.lt).keep;have c0:=aAD ((h.block g a0).trans HM.out) i D;have X:=zA (s.out.trans (h.mono s.out.size));have Z:=zA (U9 (Y.out ((i:Int)+1) (by omega) (by omega)) (HG.out.below X.out));have O:=zA (Nz by_ i);clear h;unfold CR at Z;go_wp2_with fail
   refine Z.out.mono ?_;rintro e w3 ⟨rfl,x⟩;obtain⟨n,o,p,r,R,hx⟩:∃n o p r R,by_ ((i:Int)+1)=(n,o,p,r,R):=⟨_,_,_,_,_,rfl⟩;rw[hx];rw[hx]at O;have b2:=x.size;have I:=zA ((HB.out.trans (x.mono a4)).alloc (by omega) (jC #[jI jJ n,jI jJ o,jI jJ p,jI jJ r] 73));have M:=zA ((gG HO.out x).alloc (jC #[jI jJ n,jI jJ o,jI jJ p,jI jJ r] 73));clear x hx Z p0 p1 p2 p3 p4 p5 c0;unfold nM;by_cases y:R=0
   ·subst y;rw[show okS (n,o,p,r,0)=some (n,o,p,r)from rfl]at O;have N:=zA (M.out.alloc (jC #[jI jJ n,jI jJ o,jI jJ p,jI jJ r] 73));have U:=zA (I.out.alloc (by simp;omega) (jC #[jI jJ n,jI jJ o,jI jJ p,jI jJ r] 73));obtain⟨i0,a1,a5,a6,a7⟩:=fH G5;go_wp2_with (at_builtin;refine wpList_append_own _ rfl (.tmp 26) (.tmp 28) 91 rfl l.heap.size 73 i0 (jA #[jI jJ 0,jI jJ 0,jI jJ 0,jI jJ 0]) 4 32 Tryz.underlying91 a1 a5 a6 a7 rfl (by decide) u4 (DO by_ i).length _ rfl N.out ⟨w3.heap.size+1,0,none⟩ 1 1 [jI jJ n,jI jJ o,jI jJ p,jI jJ r] rfl rfl ?c1 ?c2 ?c3 ?c4 ?c5 ?_)
    case c1=>exact Wx w3 _ n o p r
    case c2=>intro u hu;simp at hu;rcases hu with rfl|rfl|rfl|rfl<;>rfl
    case c3=>have:=UP by_ i;unfold maxLen;omega
    case c4=>have:=UP by_ i;omega
    case c5=>simp;omega
    intro v' w4 j E _;rw[<-Ew _ (n,o,p,r)]at j;have V:=zA (U.out.grown E (by simp;omega) (fun q hq=>(N.out.lt q hq).1));have k:=zA (show AllRel by_ l w4 l.heap.size v' (jI jJ ((i:Int)+1)) (i+1)from⟨D,rfl,by rw[O.out];simpa using j,V.out⟩);clear E j;go_wp2;go_roundw
    case rel=>exact⟨_,k.out⟩
    case measure=>simp[intOf];omega
   ·have he:(R==0)=false:=beq_eq_false_iff_ne.2 y;rw[show okS (n,o,p,r,R)=none by unfold okS;rw[if_neg y]]at O;have k:=zA (show AllRel by_ l (w3.alloc (jC #[jI jJ n,jI jJ o,jI jJ p,jI jJ r] 73)) l.heap.size u4 (jI jJ ((i:Int)+1)) (i+1)from⟨D,rfl,by rw[O.out];simpa using M.out,I.out⟩);clear y;go_wp2;go_roundw
    case rel=>exact⟨_,k.out⟩
    case measure=>simp[intOf];omega
  ·have a2:i=5:=by omega
   subst a2;obtain⟨A,cp,rfl⟩:=rC HO.out;have HF:=zA (show QZ (DO by_ 5) w (.returned (.tuple #[.slice A (DO by_ 5).length cp,jI jJ 0])) wr from⟨A,cp,rfl,Qt HO.out (by omega),s.out.trans (h.mono s.out.size)⟩);clear h;go_wp2;go_ret2
   exact HF.out
theorem aAM{w:World}{B n c:Nat}{A:Option Addr}{e:TypeId}{size:Nat}{j:List Value}(h:w.ownsRow B e size (.slice A n c) n j):n<=c/\c<=9223372036854775807:=by
 rcases h.2 with⟨a,l⟩|⟨g,d,f,a,_,_,k,i,_⟩
 ·injection a with _ _ b;omega
 ·injection a with _ _ b;subst b;unfold maxLen at i;omega
theorem Tx{a b c d e f:Int}{l:List mU}(J:l.length<=1000)(I:∀w,iX w->Calls zB 38 #[CR a b c d e f] w (QZ l w))(K:∀A n c w,iX w->Sols w A n l->n<=c->c<=9223372036854775807->Calls zB 39 #[.slice A n c] w (GP (nM (nY l)) w))(w:World)(D:iX w):
  Calls zB 20 #[CR a b c d e f] w (GP (nM (nY l)) w):=by
 have M:=zA D;have z:=zA K;have N:=zA J;have k:=zA (((zD w.heap.size w).alloc (zC _) (jC ⟨[jI jJ a,jI jJ b,jI jJ c,jI jJ d,jI jJ e,jI jJ f]⟩ 47)).alloc (by simp) (jC #[jI jJ 0,jI jJ 0,jI jJ 0,jI jJ 0] 73));have x:=zA (show Bk ((w.alloc (jC ⟨[jI jJ a,jI jJ b,jI jJ c,jI jJ d,jI jJ e,jI jJ f]⟩ 47)).alloc (jC #[jI jJ 0,jI jJ 0,jI jJ 0,jI jJ 0] 73)) (w.heap.size+1) OA by
  have:=Bk.new (w.alloc (jC ⟨[jI jJ a,jI jJ b,jI jJ c,jI jJ d,jI jJ e,jI jJ f]⟩ 47)) OA;simpa[OA]using this)
 have t:=zA (I _ (D.below k.out));clear I K D J;unfold CR at t ⊢;go_enter Tryz.func20,Tryz.ntmps20;go_wp2_with fail
 refine t.out.mono ?_;rintro e w1 ⟨A,Q,rfl,g,h⟩;have i:=zA (k.out.trans (h.mono (by simp;omega)));have y:=zA (x.out.below h (by simp));have B:=aAM g;have E:=h.size;simp at E;have O:=zA (z.out A _ Q _ (M.out.below i.out) (aBh g (by have:=N.out;omega)) B.1 B.2);clear h g t B;go_wp2_with fail
 refine O.out.mono ?_;rintro e w2 ⟨rfl,j⟩;have u:=zA (i.out.trans (j.mono i.out.size));have m:=y.out.next j;obtain⟨⟨U,V,X,Y⟩,Z,l1,l2,l3⟩:=m.keep;clear j m;obtain⟨o,p,q,r,s,G⟩:∃o p q r s,nY l=(o,p,q,r,s):=⟨_,_,_,_,_,rfl⟩;have L:=zA (show ∀H,Below w.heap.size w H->GP (nM (nY l)) w (.returned (.tuple #[jA #[jI jJ o,jI jJ p,jI jJ q,jI jJ r],jI jJ s])) H from fun H R=>⟨by rw[G];rfl,R⟩);rw[G];clear G;unfold nM;go_wp2;refine bodyPost_ret (v:=.tuple #[jA #[jI jJ o,jI jJ p,jI jJ q,jI jJ r],jI jJ s]) (by simp[results,Tryz.results20,go_sem,U,V,X,Y]) rfl (L.out _ ?_);exact Below.set4 u.out (by omega) _ _ _ _
end
section
attribute [local instance] Ev.gl0
open Ev
open Ev (lt iX aF)
open Go.RowKit
noncomputable def kBm:bW:=(23,eP (fun a b=>.bool (aB a b)))::[]
theorem Xq:aO zB kBm:=aA (cX (fun a b W _=>kM a b W)) dK
theorem Fz(a b c d:Int):aF zB 77 [jA #[jI jJ a,jI jJ b,jI jJ c,jI jJ d]] (.bool (!uD (a,b,c,d))):=by
 refine aD aP Xq (t:=cond (!(aB a b)) (some (.v (.bool true))) (cond (!(aB c d)) (some (.v (.bool true))) (cond ((c==0)&&((d==21600000)&&true)) (some (.v (.bool false))) (cond (decide (c>=0)) (cond (decide (c<21600000)) (some (.v (.bool (!(decide (IntKind.i64.wrap (d-c)<21600000)))))) (some (.v (.bool true)))) (some (.v (.bool true))))))) (by kernel_rfl) ?_;unfold uD;dsimp only;cases k:aB a b with
 |false=>rfl
 |true=>
  cases h:aB c d with
  |false=>rfl
  |true=>
   have j:=dW h;by_cases i:c=0/\d=21600000
   ·obtain⟨rfl,rfl⟩:=i;rfl
   ·have e:((c==0)&&(d==21600000))=false:=by
     rw[Bool.and_eq_false_iff,beq_eq_false_iff_ne,beq_eq_false_iff_ne];omega
    rw[Bool.and_true,e,bZ (x:=d-c) (by omega)];by_cases f:c>=0
    ·rw[decide_eq_true f];by_cases g:c<21600000
     ·rw[decide_eq_true g];simp
     ·rw[decide_eq_false g];simp
    ·rw[decide_eq_false f];simp
theorem K9(a b:Int)(h:aB a b=true)(_h0:(fX a b).2.2=0):aB (fX a b).1 (fX a b).2.1=true:=by
 have d:=Int.emod_nonneg a (show(21600000:Int)≠0 by omega);have e:=Int.emod_lt_of_pos a (show(0:Int)<21600000 by omega);have v:=dW h;unfold fX;rw[if_pos h];dsimp only;unfold K8 K7;by_cases c:21600000<=b-a
 ·rw[if_pos c,if_pos c];rfl
 ·rw[if_neg c,if_neg c];exact aW (by omega) (by omega) (by omega)
theorem XG:aF zB 114 [] (aG 0 21600000):=aD aP Xq (by kernel_rfl) rfl
theorem Dy(a b c d:Int)(h:aB a b=true)(e:aB c d=true)(f:-500000000000<=c/\d<=500000000000):aF zB 79 [aG a b,aG c d] (aT (gE a b c d)):=
 fun w g=>KA pP Ay XG (fun a b c d w=>SO 9998 a b c d w) a b c d h e f w g
theorem aCA:nY (DO exM 5)=(1800000,1800000,16200000,16200000,0):=by decide+kernel
theorem Cm:aF zB 20 [CR 0 0 0 0 3600000 3600000] (nM (1800000,1800000,16200000,16200000,0)):=fun w a=>by
 rw[<-aCA];have g:(DO exM 5).length=5:=by decide+kernel
 refine Tx (by omega) (fun w a=>U2 ?_ (fun m b f=>?_) w a) (fun A n c w a d b e=>?_) w a
 ·have:=NR 0 0 0 0 3600000 3600000;rwa[show Ax 0 0 0 0 3600000 3600000=true by decide+kernel]at this
 ·rcases(show m=1\/m=2\/m=3\/m=4\/m=5 by omega)with rfl|rfl|rfl|rfl|rfl
  ·exact oU aEi
  ·exact oU aEj
  ·exact oU aEk
  ·exact oU aEl
  ·exact oU aEm
 ·have h:=d.len;exact Qj pP Fz Dy K9 A n c _ w a d b e (by omega) (by omega) (by omega)
end
section
open Go.RowKit Rg
theorem V4{w:World}(a:@Ev.iX Ev.gl0 w):Calls zB 20 #[jA #[jI jJ 0,jI jJ 0,jI jJ 0,jI jJ 0,jI jJ 3600000,jI jJ 3600000]] w (GP (.tuple #[jA #[jI jJ 1800000,jI jJ 1800000,jI jJ 16200000,jI jJ 16200000],jI jJ 0]) w):=by
 exact Cm w a
theorem aBt(a c:Int)(A:Option Addr)(n cap h off:Nat)(s:Nat->Sig)(u v:Int)(w:World)(m:@Ev.iX Ev.gl0 w)(k:1<=n->A=some ⟨h,off,none⟩)(l:∀i,i<n->SigAt w h off i (s i))(d:n<=cap)(e:cap<=9223372036854775807)(o:0<=u/\u<=4294967295)(p:0<=v/\v<=255):
  Calls zB 3 #[jA #[jI jJ a,jI jJ c],.slice A n cap,jI .u32 u,jI .u8 v] w (GP (.bool true) w):=
 aBv k (fun _ j=>Oi fun _ b=>V4 (@Ev.iX.of Ev.gl0 _ _ m fun g f _=>(j.trans (b.mono j.size)).block g f)) l d e o p
end
end Go.Proofs.YtlbklncoihhfcaaGreatDoor
