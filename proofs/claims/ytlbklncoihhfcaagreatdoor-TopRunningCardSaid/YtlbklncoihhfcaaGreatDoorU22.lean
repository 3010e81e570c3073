/-
  The alternating series of sine and cosine, reckoned in whole units and rounded down at each term: how far it is from the sine and the cosine. No program here. No ties: the true sines and cosines of.
-/
import Derived.Test.YtlbklncoihhfcaaGreatDoorU19
import Derived.Test.YtlbklncoihhfcaaGreatDoorNr1
import Derived.Test.YtlbklncoihhfcaaGreatDoorNr2
import Derived.Test.YtlbklncoihhfcaaGreatDoorU4
import Derived.Test.YtlbklncoihhfcaaGreatDoorU3
import Derived.Test.YtlbklncoihhfcaaGreatDoorU5
import Derived.Test.YtlbklncoihhfcaaGreatDoorU17
import Derived.Test.YtlbklncoihhfcaaGreatDoorU18
import Derived.Lib.QuietBelow
import Derived.StillTail
set_option maxRecDepth 100000
set_option maxHeartbeats 4000000
open _root_.Array renaming replicate→qS
open Go.RowKit.Below renaming refl→zD
open _root_.Int renaming le_refl→zV
open Go.Lib renaming hid→zA
open _root_.List renaming all_eq_true→yH,any_eq_true→yN,drop_succ_cons→yE,drop_zero→xK,length_cons→zM,length_reverse→zS,map_cons→xY,mem_cons_of_mem→zF,mem_cons_self→zH,mem_range→xW,range→qL
open _root_.Nat renaming add_assoc→xX,add_comm→ajZ,le_refl→zC,le_trans→zJ,lt_or_ge→qJ,zero_add→qP,zero_le→zO
open _root_.Option renaming bind_some→yL,some→zL
open _root_.Rat renaming intCast_add→yI,intCast_mul→yO,mul_nonneg→zN
open Go.Proofs.Tryz renaming prog→zB
open Go.Value renaming int→jI
open Go.IntKind renaming i64→jJ
namespace Go.Proofs.YtlbklncoihhfcaaGreatDoor
noncomputable section
section
namespace TA
open SM
end TA
end
section
namespace TA
open SM
end TA
namespace NT
end NT
namespace TA
open SM
end TA
end
section
open SM
def vS(Q:Nat):Nat->Nat->Nat->Int
 | 0,T,_=>T
 |f+1,T,n=>if T=0 then 0 else T-vS Q f (oR T Q n) (n+2)
end
section
open SM
end
section
open SM
end
section
open SM
def F(x y:Nat):Nat:=EY (GJ x y) 23 0 5400000
def exF(x y:Nat):Bool:=(F x y==0&&y==0)||(F x y==2700000&&x==y)
def C(x y:Nat):Nat:=F x y+if exF x y then 0 else 1
def ex(x y:Int):Bool:=if 0<=y then exF x.toNat y.toNat else exF (-y).toNat x.toNat
def fwd(p:Int×Int):Nat->Int×Int
 | 0=>p
 |j+1=>(-(fwd p j).2,(fwd p j).1)
end
section
open SM
end
section
open SM TA
end
section
open Ev (Gl)
namespace TB
open SM TA
end TB
end
section
open Ev (Gl)
open SM Ev TB TA
theorem aC1(e:Int):lS 0 e=e:=rfl
theorem iT{a b:Int}(h:mA a b=true):aB a b=true/\-5400000<=a/\a<=b/\b<=5400000:=by
 unfold mA at h;simp only[Bool.and_eq_true,decide_eq_true_eq]at h;have:=dW h.1;exact⟨h.1,by omega,by omega,by omega⟩
theorem oO{a b:Int}(d:-5400000<=a)(c:a<=b)(e:b<=5400000):mA a b=true:=by
 unfold mA;rw[aW (by omega) c (by omega)];simp;omega
def RJ(r:Int×Int×Int):Prop:=-1073741824<=r.1/\r.1<=r.2.1/\r.2.1<=1073741824/\r.2.2=0
theorem RJ.val{r:Int×Int×Int}(h:RJ r):aX r.1 r.2.1=true:=kY (by have:=h.1;omega) h.2.1 (by have:=h.2.2.1;omega)
theorem gN{a b:Int}(h:aB a b=true):RJ (fK a b):=(wY h).1
theorem dE{a b:Int}(h:aB a b=true):RJ (bB a b):=(wY h).2.1
theorem cO{r s:Int×Int×Int}(h:RJ r)(k:RJ s):RJ (aZ r.1 r.2.1 s.1 s.2.1):=by
 have m:=mul_one h.1 h.2.1 h.2.2.1 k.1 k.2.1 k.2.2.1;exact⟨m.2.1,m.2.2.1,m.2.2.2,m.1⟩
theorem sR{r s:Int×Int×Int}(h:RJ r)(k:RJ s):aQ r.1 r.2.1 s.1 s.2.1=(r.1+s.1,r.2.1+s.2.1,0)/\aX (r.1+s.1) (r.2.1+s.2.1)=true:=by
 have a:=h.val;have b:=k.val;obtain⟨c,d,e,f⟩:=h;obtain⟨g,i,j,l⟩:=k;have v:aX (r.1+s.1) (r.2.1+s.2.1)=true:=kY (by omega) (by omega) (by omega);refine⟨?_,v⟩;unfold aQ;rw[if_pos (AT a b)];exact Et v
def aGq(r:Int×Int×Int):Prop:=-5400000<=r.1/\r.1<=r.2.1/\r.2.1<=5400000/\r.2.2=0
theorem Tt{r:Int×Int×Int}(a:aX r.1 r.2.1=true)(e:(dG r.1 r.2.1).2.2=0):aGq (dG r.1 r.2.1):=by
 have b:=Tr r.1 r.2.1;obtain⟨_,_,g,f,h⟩:=Og (c:=r.1) (d:=r.2.1) a e (zV _) (zV _);exact⟨by omega,f,by omega,e⟩
namespace TB
def eT:Rat:=pw 606
def eG:Rat:=pw 618
def cC:Rat:=((2^612:Nat):Rat)
end TB
end
section
open Rg
open Ev (lt lS Gl)
attribute [local instance] nP
theorem BI(n k:Int):mE (n+21600000*k)=mE n/\iQ (n+21600000*k)=iQ n:=by
 have e:(n+21600000*k)%21600000=n%21600000:=by omega
 unfold mE iQ lW mF;rw[e];exact⟨rfl,rfl⟩
theorem XE(a b k:Int):lJ (a+21600000*k) (b+21600000*k)=lJ a b/\lZ (a+21600000*k) (b+21600000*k)=lZ a b:=by
 unfold lJ lZ tP;rw[(BI a k).1,(BI b k).1,(BI a k).2,(BI b k).2,show(16200000-(a+21600000*k))%21600000=(16200000-a)%21600000 by omega,show(5400000-(a+21600000*k))%21600000=(5400000-a)%21600000 by omega,show b+21600000*k-(a+21600000*k)=b-a by omega];exact⟨rfl,rfl⟩
theorem JT{a b:Int}(h:aB a b=true):bB a b=(lJ (a+5400000) (b+5400000),lZ (a+5400000) (b+5400000),0):=by simp[bB,h]
theorem Ov{e f e' f':Int}(k:Int)(h:aB e f=true)(a:aB e' f'=true)(d:e+21600000*k<=e')(g:e'<=f')(i:f'<=f+21600000*k):lY (bB e' f') (bB e f):=by
 have b:=dW h;have c:=dW a;have v:aB (e'-21600000*k) (f'-21600000*k)=true:=aW (by omega) (by omega) (by omega);have e:bB e' f'=bB (e'-21600000*k) (f'-21600000*k):=by
  rw[JT a,JT v,<-(XE (e'-21600000*k+5400000) (f'-21600000*k+5400000) k).1,<-(XE (e'-21600000*k+5400000) (f'-21600000*k+5400000) k).2,show e'-21600000*k+5400000+21600000*k=e'+5400000 by omega,show f'-21600000*k+5400000+21600000*k=f'+5400000 by omega]
 rw[e];exact oV h (by omega) (by omega) (by omega)
def mY(a b c d e f:Int):Int×Int×Int:=
 let m:=aZ (fK a b).1 (fK a b).2.1 (fK c d).1 (fK c d).2.1
 let k:=aZ (bB a b).1 (bB a b).2.1 (bB c d).1 (bB c d).2.1
 let n:=aZ k.1 k.2.1 (bB e f).1 (bB e f).2.1
 aQ m.1 m.2.1 n.1 n.2.1
theorem DW{a b c d e f a' b' c' d' e' f':Int}(q:mA a b=true)(r:mA c d=true)(l:aB e f=true)(i:a<=a'/\a'<=b'/\b'<=b)(j:c<=c'/\c'<=d'/\d'<=d)(s:lY (bB e' f') (bB e f)):
  lY (mY a' b' c' d' e' f') (mY a b c d e f):=by
 have g:=(iT q).1;have h:=(iT r).1;have s1:=Ae g i.1 i.2.1 i.2.2;have c1:=oV g i.1 i.2.1 i.2.2;have D:=Ae h j.1 j.2.1 j.2.2;have p:=oV h j.1 j.2.1 j.2.2;obtain⟨_,_,t,u,v⟩:=s1;obtain⟨_,_,w,x,y⟩:=c1;obtain⟨_,_,z,A,B⟩:=D;obtain⟨_,_,t1,t2,t3⟩:=p;obtain⟨_,_,E,G,H⟩:=s;have m:=LT (cO (gN g) (gN h)).2.2.2 t u v z A B;have k:=LT (cO (dE g) (dE h)).2.2.2 w x y t1 t2 t3;have n:=LT (cO (cO (dE g) (dE h)) (dE l)).2.2.2 k.2.2.1 k.2.2.2.1 k.2.2.2.2 E G H;have o:=sR (cO (gN g) (gN h)) (cO (cO (dE g) (dE h)) (dE l));exact Tg (by rw[o.1]) m.2.2.1 m.2.2.2.1 m.2.2.2.2 n.2.2.1 n.2.2.2.1 n.2.2.2.2
theorem Jp{a b c d e f:Int}(j:mA a b=true)(k:mA c d=true)(l:aB e f=true):aX (mY a b c d e f).1 (mY a b c d e f).2.1=true:=by
 have h:=(iT j).1;have i:=(iT k).1;have g:=sR (cO (gN h) (gN i)) (cO (cO (dE h) (dE i)) (dE l));unfold mY;dsimp only;rw[g.1];exact g.2
theorem aCy{s t p:Int}(g:s<=t)(h:-1073741824<=min t 1073741824)(a:-rW (-min t 1073741824)<=p)(b:p<=5400000)(s1:s<=1073741824):s<=iQ p:=by
 have i:min t 1073741824<=1073741824:=by omega
 generalize j:min t 1073741824=m at*;obtain⟨c,d,f,_⟩:=mW (-m) (by omega);have o:=(IG (rW (-m)) (by omega) (by omega)).1;have l:=pD (m:=-rW (-m)) (n:=p) (by omega) a b;have e:=mK p;omega
theorem aCx{s t o:Int}(f:s<=t)(_:max s (-1073741824)<=1073741824)(b:o<=rW (max s (-1073741824)))(h:-5400000<=o)(t1:-1073741824<=t):mE o<=t:=by
 generalize g:max s (-1073741824)=m at*;obtain⟨c,a,d,_⟩:=mW m (by omega);have l:=pD (m:=o) (n:=rW m) (by omega) b a;have e:=mK (rW m);omega
theorem Qv{s S:Int×Int×Int}{o p:Int}(g:lY s S)(c:aX S.1 S.2.1=true)(s1:s.1<=1073741824)(j:-1073741824<=s.2.1)(a:o<=(dG S.1 S.2.1).1)(b:(dG S.1 S.2.1).2.1<=p)(h:-5400000<=o)(l:o<=p)(i:p<=5400000):
  s.1<=(bB (5400000-p) (5400000-o)).2.1/\(bB (5400000-p) (5400000-o)).1<=s.2.1:=by
 obtain⟨_,_,q,r,u⟩:=g;have f:max S.1 (-1073741824)<=min S.2.1 1073741824:=by have:=Hz c;omega
 unfold dG at a b;rw[c,if_neg (by decide),if_pos f]at a b;dsimp only at a b;have up:=aCy (s:=s.1) (t:=S.2.1) (by omega) (by omega) b i s1;have k:=aCx (s:=S.1) (t:=s.2.1) (by omega) (by omega) a h j;rw[JT (aW (show -1099511627776<=5400000-p by omega) (show 5400000-p<=5400000-o by omega) (by omega))];dsimp only;have e1:=tH (lo:=5400000-p+5400000) (hi:=5400000-o+5400000) (n:=10800000-p) (by omega) (by omega);have e2:=tI (lo:=5400000-p+5400000) (hi:=5400000-o+5400000) (n:=10800000-o) (by omega) (by omega);have d:=(nF (m:=10800000-p) (by omega) (by omega)).2;have e:=(nF (m:=10800000-o) (by omega) (by omega)).1;rw[show 10800000-(10800000-p)=p by omega]at d;rw[show 10800000-(10800000-o)=o by omega]at e;omega
end
section
namespace TA
open SM
def S(n:Int):Rat:=1073741824*bM n
def C(n:Int):Rat:=1073741824*cH n
theorem aGw:(-(1/2^80)<=bM 0/\bM 0<=1/2^80)/\(-(1/2^65)<=bM 1800000-1/2/\bM 1800000-1/2<=1/2^65):=by
 have e0:(rd 0:Rat)=0:=by decide+kernel
 have e1:(rd 1800000:Rat)=1800000:=by decide+kernel
 unfold bM;rw[e0,e1];decide+kernel
theorem aEP(k:Nat)(b:k<=5400000):(kJ k:Rat)-1/2^34<=S k/\S k<=(QS k:Rat)+1/2^34:=by
 have n:=aDx k b;have g:fF=77371252455336267181195264:=rfl;unfold S;cases a:FJ k with
 |false=>
  have e:((QS k:Int):Rat)=(kJ k:Rat)+1:=by
   unfold QS;rw[a];show(((kJ k:Int)+1:Int):Rat)=_;rw[yI];rfl
  have p:=gap k b a;rw[g]at p;rw[e];generalize bM (k:Int)=s at*;generalize T k=t at*;generalize (kJ k:Rat)=f at*;constructor<;>grind
 |true=>
  have e:((QS k:Int):Rat)=(kJ k:Rat):=by
   unfold QS;rw[a];rfl
  rw[e];have i:k=0\/k=1800000\/k=5400000:=by
   unfold FJ at a;simp only[Bool.or_eq_true,beq_iff_eq]at a;omega
  have c:((kJ 0:Nat):Rat)=0:=rfl;have d:((kJ 1800000:Nat):Rat)=536870912:=rfl;have h:((kJ 5400000:Nat):Rat)=1073741824:=rfl;have x:=aGw;have y:=MG.2;clear n;rcases i with rfl|rfl|rfl
  ·rw[c];show _<=1073741824*bM 0/\1073741824*bM 0<=_;generalize bM 0=s at*;constructor<;>grind
  ·rw[d];show _<=1073741824*bM 1800000/\1073741824*bM 1800000<=_;generalize bM 1800000=s at*;constructor<;>grind
  ·rw[h];show _<=1073741824*bM 5400000/\1073741824*bM 5400000<=_;generalize bM 5400000=s at*;constructor<;>grind
theorem aG1(n:Int):(mF n=false->-(1/2^40)<=S n-S (lW n)/\S n-S (lW n)<=1/2^40)/\(mF n=true->-(1/2^40)<=S n+S (lW n)/\S n+S (lW n)<=1/2^40):=by
 have fwd:∀{a b:Rat},(-(1/2^78)<=a-b/\a-b<=1/2^78)->-(1/2^40)<=1073741824*a-1073741824*b/\1073741824*a-1073741824*b<=1/2^40:=fun h=>⟨by grind,by grind⟩;have e:∀{a b:Rat},(-(1/2^78)<=a+b/\a+b<=1/2^78)->-(1/2^40)<=1073741824*a+1073741824*b/\1073741824*a+1073741824*b<=1/2^40:=fun h=>⟨by grind,by grind⟩;have same:∀m:Int,n%21600000=m%21600000->bM n=bM m:=fun m h=>(aCf n m h).2;have d:∀m:Int,-(1/2^78)<=bM (10800000-m)-bM m/\bM (10800000-m)-bM m<=1/2^78:=fun m=>by
  have a:=(Yw m).2;have b:=(aFZ (-m)).2;rw[show -m+10800000=10800000-m by omega]at b;generalize bM (10800000-m)=x at*;generalize bM (-m)=y at*;generalize bM m=z at*;constructor<;>grind
 unfold S mF lW;have g:=Int.emod_nonneg n (show(21600000:Int)≠0 by omega);have i:=Int.emod_lt_of_pos n (show(0:Int)<21600000 by omega);have f:bM n=bM (n%21600000):=same _ (by omega);rw[f];generalize n%21600000=m at*;clear f same;constructor
 ·intro h;have h:=of_decide_eq_false h;dsimp only;by_cases c:m<=5400000
  ·rw[if_pos c,show((m.toNat:Nat):Int)=m by omega];refine fwd ?_;generalize bM m=x;constructor<;>grind
  ·rw[if_neg c,if_pos (by omega),show(((10800000-m).toNat:Nat):Int)=10800000-m by omega];refine fwd ?_;have r:=d m;generalize bM (10800000-m)=x at*;generalize bM m=y at*;constructor<;>grind
 ·intro h;have h:=of_decide_eq_true h;dsimp only;rw[if_neg (by omega),if_neg (by omega)];by_cases c:m<=16200000
  ·rw[if_pos c,show(((m-10800000).toNat:Nat):Int)=m-10800000 by omega];refine e ?_;have r:=(aFZ (m-10800000)).2;rw[show m-10800000+10800000=m by omega]at r;generalize bM (m-10800000)=x at*;generalize bM m=y at*;constructor<;>grind
  ·rw[if_neg c,show(((21600000-m).toNat:Nat):Int)=21600000-m by omega];refine e ?_;have r:=(Yw m).2;rw[(aCf (-m) (21600000-m) (by omega)).2]at r;generalize bM (21600000-m)=x at*;generalize bM m=y at*;constructor<;>grind
theorem aC4(n:Int):(mE n:Rat)-1/2^32<=S n/\S n<=(iQ n:Rat)+1/2^32:=by
 have f:=aEP (lW n) (AB n);have r:=aG1 n;unfold mE iQ;cases a:mF n with
 |false=>
  have r:=r.1 a;simp only[Bool.false_eq_true,if_false];have e:(((kJ (lW n):Nat):Int):Rat)=(kJ (lW n):Rat):=rfl;rw[e];generalize S n=x at*;generalize S (lW n:Int)=y at*;generalize (kJ (lW n):Rat)=p at*;generalize (QS (lW n):Rat)=q at*;constructor<;>grind
 |true=>
  have r:=r.2 a;simp only[if_true];have e:(((kJ (lW n):Nat):Int):Rat)=(kJ (lW n):Rat):=rfl;rw[Rat.intCast_neg,Rat.intCast_neg,e];generalize S n=x at*;generalize S (lW n:Int)=y at*;generalize (kJ (lW n):Rat)=p at*;generalize (QS (lW n):Rat)=q at*;constructor<;>grind
theorem aED(n:Int):-(1/2^40)<=C n-S (n+5400000)/\C n-S (n+5400000)<=1/2^40:=by
 have a:=(coQ (-n)).1;have b:=(Yw n).1;rw[show 5400000- -n=n+5400000 by omega]at a;unfold C S;generalize bM (n+5400000)=x at*;generalize cH (-n)=y at*;generalize cH n=z at*;constructor<;>grind
def oI(e:Rat)(lo hi:Int)(X:Rat):Prop:=(lo:Rat)-e<=X/\X<=(hi:Rat)+e
theorem eE{a b:Int}(h:a<=b):(a:Rat)<=(b:Rat):=Rat.intCast_le_intCast.2 h
theorem Ml{a b:Int}{e:Rat}(h:(a:Rat)<=(b:Rat)+e)(c:e<1):a<=b:=by
 rcases Int.lt_or_le b a with q|q
 ·have:(((b+1:Int)):Rat)<=(a:Rat):=eE (by omega);rw[yI]at this;have z:((1:Int):Rat)=1:=rfl;rw[z]at this;grind
 ·exact q
theorem oI.wide{e e':Rat}{lo hi d c:Int}{X:Rat}(h:oI e lo hi X)(i:e<=e')(f:d<=lo)(g:hi<=c):oI e' d c X:=by
 have a:=eE f;have b:=eE g;unfold oI at*;constructor<;>grind
theorem Nc{lo hi x:Int}(e:aB lo hi=true)(c:lo<=x)(d:x<=hi):oI (1/2^32) (fK lo hi).1 (fK lo hi).2.1 (S x):=by
 have l:=aC4 x;have a:=tI c d;have b:=tH c d;refine oI.wide l (by decide+kernel) ?_ ?_<;>simp[fK,e,a,b]
theorem RY{lo hi x:Int}(d:aB lo hi=true)(e:lo<=x)(f:x<=hi):oI (1/2^31) (bB lo hi).1 (bB lo hi).2.1 (C x):=by
 have l:=aC4 (x+5400000);have a:=tI (lo:=lo+5400000) (hi:=hi+5400000) (n:=x+5400000) (by omega) (by omega);have b:=tH (lo:=lo+5400000) (hi:=hi+5400000) (n:=x+5400000) (by omega) (by omega);have c:=aED x;have:oI (1/2^31) (mE (x+5400000)) (iQ (x+5400000)) (C x):=by
  unfold oI;generalize S (x+5400000)=s at*;generalize C x=t at*;constructor<;>grind
 refine oI.wide this (by decide+kernel) ?_ ?_<;>simp[bB,d,a,b]
theorem T2{a b c d:Int}{e e' X Y:Rat}(f:oI e a b X)(g:oI e' c d Y):oI (e+e') (a+c) (b+d) (X+Y):=by
 unfold oI at*;rw[yI,yI];constructor<;>grind
theorem aBG{e:Rat}{a b:Int}{X:Rat}(g:0<=e)(h:oI e a b X)(d:a<=b):∃c:Rat,(a:Rat)<=c/\c<=(b:Rat)/\-e<=X-c/\X-c<=e:=by
 have q:=eE d;unfold oI at h;by_cases c1:X<=(a:Rat)
 ·exact⟨a,by grind,by grind,by grind,by grind⟩
 ·by_cases f:(b:Rat)<=X
  ·exact⟨b,by grind,by grind,by grind,by grind⟩
  ·exact⟨X,by grind,by grind,by grind,by grind⟩
theorem Yb{a x b:Rat}(y:Rat)(d:a<=x)(e:x<=b):(a*y<=x*y/\x*y<=b*y)\/(b*y<=x*y/\x*y<=a*y):=by
 by_cases c:0<=y
 ·have p:=zN (show 0<=x-a by grind) c;have q:=zN (show 0<=b-x by grind) c;left;constructor<;>grind
 ·have p:=zN (show 0<=x-a by grind) (show 0<=-y by grind);have q:=zN (show 0<=b-x by grind) (show 0<=-y by grind);right;constructor<;>grind
theorem Yt{a b c d:Int}{X Y:Rat}(g:(a:Rat)<=X)(h:X<=(b:Rat))(e:(c:Rat)<=Y)(f:Y<=(d:Rat)):((tR a b c d:Int):Rat)<=X*Y/\X*Y<=((tQ a b c d:Int):Rat):=by
 have l:=mn4 (a*c) (a*d) (b*c) (b*d);have u:=mx4 (a*c) (a*d) (b*c) (b*d);have i:=eE l.1.1;have j:=eE l.1.2.1;have k:=eE l.1.2.2.1;have o:=eE l.1.2.2.2;have u1:=eE u.1.1;have u2:=eE u.1.2.1;have u3:=eE u.1.2.2.1;have u4:=eE u.1.2.2.2;rw[yO]at i j k o u1 u2 u3 u4;have p:=Yb Y g h;have q:=Yb (a:Rat) e f;have r:=Yb (b:Rat) e f;rw[Rat.mul_comm (c:Rat),Rat.mul_comm Y,Rat.mul_comm (d:Rat)]at q r;unfold tR tQ;generalize (mn (mn (mn (a*c) (a*d)) (b*c)) (b*d):Rat)=m at*;generalize (mx (mx (mx (a*c) (a*d)) (b*c)) (b*d):Rat)=n at*;generalize X*Y=y at*;generalize (a:Rat)*Y=v at*;generalize (b:Rat)*Y=z at*;generalize (a:Rat)*(c:Rat)=s at*;generalize (a:Rat)*(d:Rat)=t at*;generalize (b:Rat)*(c:Rat)=w at*;generalize (b:Rat)*(d:Rat)=x at*;constructor<;>grind
theorem KW(x:Int):((x/1073741824:Int):Rat)*1073741824<=(x:Rat):=by
 have h:((x/1073741824*1073741824:Int):Rat)<=(x:Rat):=eE (by omega);rw[yO]at h;exact h
theorem pX{a b c d:Int}{e X Y:Rat}(i:0<=e)(D:e<=1/4)(v:oI e a b X)(w:oI e c d Y)(j:a<=b)(k:c<=d)
  (l:-1073741824<=a)(h:b<=1073741824)(n:-1073741824<=c)(o:d<=1073741824):
  oI (3*e) (aZ a b c d).1 (aZ a b c d).2.1 (X*Y/1073741824):=by
 obtain⟨x,G,H,p,q⟩:=aBG i v j;obtain⟨y,I,J,s,t⟩:=aBG i w k;have m:=mul_one l j h n k o;have u:aZ a b c d=(tR a b c d/1073741824,-(-tQ a b c d/1073741824),0):=by
  have:=m.1;unfold aZ at this ⊢;obtain⟨h,E⟩:=RS this;rw[if_pos h];exact(Wo E).2
 rw[u];have z:((1073741824:Int):Rat)=1073741824:=rfl;have za:-1073741824<=(a:Rat):=eE (a:=-1073741824) l;have zb:(b:Rat)<=1073741824:=eE (b:=1073741824) h;have zc:-1073741824<=(c:Rat):=eE (a:=-1073741824) n;have zd:(d:Rat)<=1073741824:=eE (b:=1073741824) o;have r:=Yt G H I J;have f:=KW (tR a b c d);have g:=KW (-tQ a b c d);rw[Rat.intCast_neg]at g;have N:=iD (a:=X-x) (b:=y) (A:=e) (B:=1073741824) p q (by grind) (by grind);have O:=iD (a:=x) (b:=Y-y) (A:=1073741824) (B:=e) (by grind) (by grind) s t;have Q:=iD (a:=X-x) (b:=Y-y) (A:=e) (B:=e) p q s t;have R:e*e<=e:=by have:=zN i (show 0<=1-e by grind);grind
 have ex:X*Y=x*y+(X-x)*y+x*(Y-y)+(X-x)*(Y-y):=by grind
 unfold oI;dsimp only;rw[ex,Rat.intCast_neg];generalize (tR a b c d:Rat)=L at*;generalize (tQ a b c d:Rat)=U at*;generalize ((tR a b c d/1073741824:Int):Rat)=K at*;generalize ((-tQ a b c d/1073741824:Int):Rat)=M at*;generalize x*y=V at*;generalize (X-x)*y=Z at*;generalize x*(Y-y)=p2 at*;generalize (X-x)*(Y-y)=p3 at*;clear ex;constructor<;>grind
theorem aCQ(n:Int):cH n*cH n+bM n*bM n<=1+1/2^70:=by
 have a:=(S5 n (-n)).1;have g:=Yw n;have b:=Cr n;have z:cH (n+-n)=1:=by
  rw[show n+-n=0 by omega];unfold cH;rw[show rd 0=0 from rfl];simpa using Io
 rw[z]at a;unfold t7 at a;have e:=eK b.1 g.1;have f:=eK b.2 g.2;generalize bM n=s at*;generalize cH n=c at*;generalize bM (-n)=h at*;generalize cH (-n)=d at*;grind
theorem eZ(x:Rat):0<=x*x:=by
 rcases(Rat.le_total:(0:Rat)<=x\/x<=0)with h|h
 ·exact zN h h
 ·have:=zN (show 0<=-x by grind) (show 0<=-x by grind);grind
theorem aD2(n:Int):-(1+1/2^69)<=cH n/\cH n<=1+1/2^69:=by
 have h:=aCQ n;have g:=eZ (bM n);generalize cH n=c at*;generalize bM n*bM n=q at*;constructor
 ·have k:=eZ (c+1);grind
 ·have k:=eZ (c-1);grind
theorem aGj(a d t:Int):-(1+1/2^60)<=bM a*bM d+cH a*cH d*cH t/\bM a*bM d+cH a*cH d*cH t<=1+1/2^60:=by
 have f:=aCQ a;have g:=aCQ d;have e:=aD2 t;generalize bM a=x at*;generalize cH a=y at*;generalize bM d=u at*;generalize cH d=v at*;generalize cH t=c at*;have h:=eZ (x-u);have i:=eZ (x+u);have j:=eZ (y-v);have k:=eZ (y+v);have l:=eZ x;have n:=eZ y;have o:=eZ u;have p:=eZ v;have m:=iD (a:=y*v) (b:=c) (A:=(y*y+v*v)/2) (B:=1+1/2^69) (by grind) (by grind) e.1 e.2;generalize y*v*c=z at*;grind
end TA
open TA
theorem PD{a d t:Int}(s:mA a a=true)(v:mA d d=true)(l:aB t t=true):(mY a a d d t t).1<=1073741824/\-1073741824<=(mY a a d d t t).2.1:=by
 have g:=(iT s).1;have i:=(iT v).1;have s1:=gN g;have c1:=dE g;have j:=gN i;have b:=dE i;have c:=dE l;have S1:=(Nc g (zV a) (zV a)).wide (e':=1/2^31) (by grind) (zV _) (zV _);have q:=(Nc i (zV d) (zV d)).wide (e':=1/2^31) (by grind) (zV _) (zV _);have C1:=RY g (zV a) (zV a);have o:=RY i (zV d) (zV d);have p:=RY l (zV t) (zV t);have m:=TA.pX (by grind) (by grind) S1 q s1.2.1 j.2.1 s1.1 s1.2.2.1 j.1 j.2.2.1;have k:=TA.pX (by grind) (by grind) C1 o c1.2.1 b.2.1 c1.1 c1.2.2.1 b.1 b.2.2.1;have f:=cO c1 b;have n:=TA.pX (e:=3*(1/2^31)) (by grind) (by grind) k (p.wide (by grind) (zV _) (zV _)) f.2.1 c.2.1 f.1 f.2.2.1 c.1 c.2.2.1;have r:=sR (cO s1 j) (cO f c);have h:=TA.T2 m n;unfold mY;dsimp only;rw[r.1];dsimp only;unfold oI at h;have u:=aGj a d t;have ex:S a*S d/1073741824+TA.C a*TA.C d/1073741824*TA.C t/1073741824=1073741824*(bM a*bM d+cH a*cH d*cH t):=by
  unfold S TA.C;grind
 rw[ex]at h;generalize bM a*bM d+cH a*cH d*cH t=X at*;constructor
 ·exact TA.Ml (e:=1/2) (by
   have:=h.1;rw[show((1073741824:Int):Rat)=1073741824 from rfl];grind) (by grind)
 ·exact TA.Ml (e:=1/2) (by
   have:=h.2;rw[show((-1073741824:Int):Rat)=-1073741824 from rfl];grind) (by grind)
end
section
open Rg
open Ev (lt lS Gl)
attribute [local instance] nP
theorem V8{a b c d e f:Int}(l:mA a b=true)(m:mA c d=true)(n:aB e f=true):OY a b c d e f=dG (mY a b c d e f).1 (mY a b c d e f).2.1:=by
 have s1:=gN (iT l).1;have c1:=dE (iT l).1;have r:=gN (iT m).1;have j:=dE (iT m).1;have t:=gN n;have k:=dE n;have z:((0:Int) != 0)=false:=rfl;unfold OY RU mY;simp only[lt,tG,AZ,tB,AU,sA,wB,OX,Jd];generalize fK a b=S1 at*;generalize bB a b=C1 at*;generalize fK c d=i at*;generalize bB c d=g at*;generalize fK e f=u at*;generalize bB e f=h at*;rw[s1.2.2.2,c1.2.2.2,r.2.2.2,j.2.2.2,t.2.2.2,k.2.2.2];have p:=cO s1 r;have o:=cO c1 j;generalize aZ S1.1 S1.2.1 i.1 i.2.1=M at*;generalize aZ C1.1 C1.2.1 g.1 g.2.1=K at*;have q:=cO o k;generalize aZ K.1 K.2.1 h.1 h.2.1=N at*;have s:=sR p q;rw[p.2.2.2,o.2.2.2,q.2.2.2,s.1];simp only[aC1,z,cond_false]
theorem aBd(S C:Int×Int×Int)(a:S.1<=C.2.1)(b:C.1<=S.2.1):(cond (decide (S.1>C.2.1)) ((1:Int),(0:Int)) (cond (decide (S.2.1<C.1)) (-1,0) (0,0))).1=0:=by
 rw[decide_eq_false (show ¬S.1>C.2.1 by omega),decide_eq_false (show ¬S.2.1<C.1 by omega)];rfl
theorem Oy{a b c d e f u v w x:Int}(y:kE a b c d e f=true)(A:cT u v w x=true)(k:mA a b=true)(l:mA u v=true)(p:aB (w-d) (x-c)=true)(B:aB e f=true)
  (s:(mY u v a b (w-d) (x-c)).1<=(bB e f).2.1)(t:(bB e f).1<=(mY u v a b (w-d) (x-c)).2.1):(sB a b c d e f u v w x).1=0:=by
 have D:=dW p;have s1:=gN (iT l).1;have c1:=dE (iT l).1;have o:=gN (iT k).1;have h:=dE (iT k).1;have i:=dE p;have q:=dE B;have z:((0:Int) != 0)=false:=rfl;unfold sB SE Jo;rw[y,A,bZ (x:=w-d) (by omega),bZ (x:=x-c) (by omega)];simp only[Bool.not_true,cond_false,lt,LN,YI,BH,LJ,FN,PU,EI,TI];have m:=cO s1 o;have j:=cO c1 h;have n:=cO j i;have g:=congrArg (fun r:Int×Int×Int=>r.2.2) (sR m n).1;dsimp only at g;rw[s1.2.2.2,c1.2.2.2,o.2.2.2,h.2.2.2,i.2.2.2,q.2.2.2,m.2.2.2,j.2.2.2,n.2.2.2,g];simp only[aC1,z,cond_false];exact aBd (mY u v a b (w-d) (x-c)) (bB e f) s t
theorem T4{b:Rg.Blk}(p:b.l<=5)(e:b.n<2*4^b.l)(c:fT):DM b c=((sB c.1 c.2.1 c.2.2.1 c.2.2.2.1 c.2.2.2.2.1 c.2.2.2.2.2 (qB b).1 (qB b).2.1 (qB b).2.2.1 (qB b).2.2.2).1==0):=by
 have d:∀(l m:Nat) (f:Int->Int->Int×Int×Int×Int),eM (oL l (fun a b=>((f a b).1,(f a b).2.1,(f a b).2.2.1,(f a b).2.2.2,0))) m=true->∀n,n<m->f (aM l n) (aN l n)=qB ⟨l,n⟩:=fun l m f h n e=>by
  have g:=cM h (n:=n) e;simp only[Prod.mk.injEq]at g;obtain⟨i,j,k,o,_⟩:=g;exact Prod.ext i (Prod.ext j (Prod.ext k o))
 obtain⟨l,n⟩:=b;dsimp only at p e;rcases(show l=0\/l=1\/l=2\/l=3\/l=4\/l=5 by omega)with rfl|rfl|rfl|rfl|rfl|rfl
 ·rw[<-d 0 2 GC Ub n (by omega)];unfold DM aCp;simp only[lt]
 ·rw[<-d 1 8 GD Uc n (by omega)];unfold DM aCq;simp only[lt]
 ·rw[<-d 2 32 GE Ud n (by omega)];unfold DM aCr;simp only[lt]
 ·rw[<-d 3 128 GG Ue n (by omega)];unfold DM aCs;simp only[lt]
 ·rw[<-d 4 512 GH Ug n (by omega)];unfold DM aCt;simp only[lt]
 ·rw[<-d 5 2048 GI Uh n (by omega)];unfold DM aCu;simp only[lt]
def sF(q:cF)(D G:Int):Int×Int×Int:=dG (mY q.1 q.2.1 D D (q.2.2.1+G) (q.2.2.2+G)).1 (mY q.1 q.2.1 D D (q.2.2.1+G) (q.2.2.2+G)).2.1
def Bq(q:cF)(D G n:Int):Int:=max (-5400000) ((sF q D G).1-n)
def Bp(q:cF)(D G n:Int):Int:=min 5400000 ((sF q D G).2.1+n)
def EV(q:cF)(D G n:Int):fT:=(D,D,AE (-G),AE (-G),5400000-Bp q D G n,5400000-Bq q D G n)
structure SgOk (D G n:Int):Prop where
 dec:-5400000<=D/\D<=5400000
 gha:0<=G/\G<21600000
 noi:0<=n/\n<=300000
structure PlOk (q:cF):Prop where
 lat:-5400000<=q.1/\q.1<=q.2.1/\q.2.1<=5400000
 lon:iY q.2.2.1 q.2.2.2
theorem RO{q:cF}{D G n:Int}(g:PlOk q)(h:SgOk D G n):(sF q D G).2.2=0/\-5400000<=(sF q D G).1/\(sF q D G).1<=(sF q D G).2.1/\(sF q D G).2.1<=5400000:=by
 have t:=iC g.lon;have a:=g.lat;have f:=h.dec;have s:=h.gha;have i:=oO a.1 a.2.1 a.2.2;have c:=oO f.1 (zV D) f.2;have d:aB (q.2.2.1+G) (q.2.2.2+G)=true:=aW (by omega) (by omega) (by omega);have o:=oO a.1 (zV q.1) (by omega);have p:aB (q.2.2.1+G) (q.2.2.1+G)=true:=aW (by omega) (by omega) (by omega);have w:=DW i c d (a':=q.1) (b':=q.1) (c':=D) (d':=D) (e':=q.2.2.1+G) (f':=q.2.2.1+G) ⟨by omega,by omega,by omega⟩ ⟨by omega,by omega,by omega⟩ (oV d (by omega) (by omega) (by omega));have r:=PD o c p;have b:=Jp i c d;have u:=Hz b;obtain⟨_,_,v,x,y⟩:=w;unfold sF;generalize mY q.1 q.2.1 D D (q.2.2.1+G) (q.2.2.2+G)=S at*;have m:max S.1 (-1073741824)<=min S.2.1 1073741824:=by omega
 have e:(dG S.1 S.2.1).2.2=0:=by
  unfold dG;rw[b,if_neg (by decide),if_pos m]
 obtain⟨j,k,l,_⟩:=Tt b e;exact⟨e,j,k,l⟩
theorem Ci{D g e f:Int}(c:-5400000<=D/\D<=5400000)(k:-10800000<=g/\g<10800000)(i:0<=e/\e<=f/\f<=10800000){b:Rg.Blk}{y x:Nat}(h:Rg.In b y x){Y X:Int}(v:Y=(y:Int)-5400000)(u:X=(x:Int)-10800000)
  (t1:(mY Y Y D D (X-g) (X-g)).1<=(bB e f).2.1)(t2:(bB e f).1<=(mY Y Y D D (X-g) (X-g)).2.1):Is (D,D,g,g,e,f) b=true:=by
 unfold Is;by_cases m:b.l<=5/\b.n<2*4^b.l
 case neg=>rw[decide_eq_false m];rfl
 obtain⟨d,o⟩:=m;rw[T4 d o,Bool.or_eq_true];right;obtain⟨z,A,B,E,_⟩:=SY d h;have gr:=iB b d o;generalize qB b=Q at*;rw[<-v]at z A;rw[<-u]at B E;have p:=oO c.1 (zV D) c.2;have q:=oO (a:=Q.1) (b:=Q.2.1) (by omega) (by omega) (by omega);have j:aB (Q.2.2.1-g) (Q.2.2.2-g)=true:=aW (by omega) (by omega) (by omega);obtain⟨_,_,u1,u2,u3⟩:=DW q p j (a':=Y) (b':=Y) (c':=D) (d':=D) (e':=X-g) (f':=X-g) ⟨by omega,by omega,by omega⟩ ⟨by omega,by omega,by omega⟩ (oV j (by omega) (by omega) (by omega));dsimp only;have r:=aW (show -1099511627776<=e by omega) i.2.1 (by omega);have w:kE D D g g e f=true:=by
  unfold kE;rw[mL c.1 (zV D) c.2 (.inr ⟨k.1,k.2,zV g,by omega⟩),r,decide_eq_true (show e>=0 from i.1),decide_eq_true i.2.2];rfl
 have t:cT Q.1 Q.2.1 Q.2.2.1 Q.2.2.2=true:=mL (by omega) (by omega) (by omega) (by
  by_cases s:Q.2.2.1=-10800000/\Q.2.2.2=10800000
  ·exact .inl s
  ·exact .inr ⟨by omega,by omega,by omega,by omega⟩)
 rw[Oy w t p q j r (by omega) (by omega)];rfl
theorem aCv{q:cF}{D G n:Int}(z:PlOk q)(A:SgOk D G n){b:Rg.Blk}{y x:Nat}(h:Rg.In b y x)(L:DI q y x):Is (EV q D G n) b=true:=by
 obtain⟨V,Z,k,p3,p4⟩:=L;obtain⟨e,a1,a2,a3⟩:=RO z A;obtain⟨d,hg,J⟩:=A;obtain⟨f,K⟩:=z;have kb:=iC K;obtain⟨H,I,m,g3⟩:=rI (-G);by_cases c:b.l<=5/\b.n<2*4^b.l
 case neg=>unfold Is;rw[decide_eq_false c];rfl
 obtain⟨M,N,O,R,_⟩:=SY c.1 h;have gr:=iB b c.1 c.2;generalize qB b=Q at*;obtain⟨Y,v⟩:∃Y:Int,Y=(y:Int)-5400000:=⟨_,rfl⟩;obtain⟨X,u⟩:∃X:Int,X=(x:Int)-10800000:=⟨_,rfl⟩;rw[<-v]at M N V Z;rw[<-u]at O R p3 p4;unfold EV;generalize AE (-G)=g at*;have B:=oO f.1 f.2.1 f.2.2;have i:=oO d.1 (zV D) d.2;have j:aB (q.2.2.1+G) (q.2.2.2+G)=true:=aW (by omega) (by omega) (by omega);have U:=oO (a:=Y) (by omega) (zV Y) (by omega);have E:aB (X-g) (X-g)=true:=aW (by omega) (by omega) (by omega);have r:=PD U i E;have w:=DW B i j (a':=Y) (b':=Y) (c':=D) (d':=D) (e':=X-g) (f':=X-g) ⟨by omega,by omega,by omega⟩ ⟨by omega,by omega,by omega⟩ (Ov (-k-m) j E (by omega) (by omega) (by omega));have s:Bq q D G n<=(sF q D G).1/\-5400000<=Bq q D G n:=by unfold Bq;omega
 have t:(sF q D G).2.1<=Bp q D G n/\Bp q D G n<=5400000:=by unfold Bp;omega
 obtain⟨t1,t2⟩:=Qv w (Jp B i j) r.1 r.2 (o:=Bq q D G n) (p:=Bp q D G n) s.1 t.1 s.2 (by omega) t.2;exact Ci d ⟨H,I⟩ ⟨by omega,by omega,by omega⟩ h v u t1 t2
end
section
open Rg
open Ev (lt Gl)
attribute [local instance] nP
def lB(q:cF)(L:List Rg.Blk):Prop:=∀y x:Nat,y<=10800000->x<=21600000->DI q y x->∃b∈L,Rg.In b y x
def iF(q:cF)(L:List Rg.Blk):Prop:=∃y x:Nat,DI q y x/\∃b∈L,Rg.In b y x
def RB(e:Int):Prop:=e=6\/e=4\/e=21\/e=5
theorem lB.some{q:cF}{L:List Rg.Blk}(a:PlOk q)(h:lB q L):iF q L:=by
 have b:=a.lat;have k:=iC a.lon;have c:q.2.2.1<10800000:=by rcases a.lon with h|h<;>omega
 have p:DI q (q.1+5400000).toNat (q.2.2.1+10800000).toNat:=⟨by omega,by omega,0,by omega,by omega⟩;exact⟨_,_,p,h _ _ (by omega) (by omega) p⟩
theorem YY{c:fT}{P:Nat->Nat->Prop}(g:∀b y x,P y x->Rg.In b y x->Is c b=true){level:Nat}{L a:List Rg.Blk}(d:Reg L)(h:MA c level L=.inr a){y x:Nat}(i:P y x)(f:∃b∈L,Rg.In b y x):∃e∈a,Rg.In e y x:=by
 unfold MA at h;split at h
 ·cases h
 ·rename_i s j;split at h
  ·cases h
  ·split at h
   ·cases h
   ·cases h;exact(TO g d.tidy d.top j).2.2 y x i f
theorem aAI{c:fT}{P:Nat->Nat->Prop}(i:∀b y x,P y x->Rg.In b y x->Is c b=true){level:Nat}{L:List Rg.Blk}(a:Reg L){e:Int}(h:MA c level L=.inl e){y x:Nat}(j:P y x)(f:∃b∈L,Rg.In b y x):RB e:=by
 unfold MA at h;split at h
 ·cases h;exact .inl rfl
 ·rename_i s k;split at h
  ·cases h;exact .inr (.inl rfl)
  ·split at h
   ·rename_i l;obtain⟨d,g,_⟩:=(TO i a.tidy a.top k).2.2 y x j f;have:=List.length_pos_of_mem g;rw[zS]at this;omega
   ·cases h
theorem aAG{d1 d2:Int×Int}{level:Nat}(e:level<=5)(c:Rg.Blk)(A:List Rg.Blk)(h:Yu d1 d2 level c=.inr A):pN A/\iK A 8589934592:=by
 unfold Yu at h;split at h
 ·cases a:bX (gF ((gH d1 d2 c).1,(gH d1 d2 c).2.1,(gH d1 d2 c).2.2.1,(gH d1 d2 c).2.2.2.1)) (fI ((gH d1 d2 c).1,(gH d1 d2 c).2.1,(gH d1 d2 c).2.2.1,(gH d1 d2 c).2.2.2.1)) level with
  |none=>rw[a]at h;cases h
  |some B=>
   rw[a]at h;cases h;obtain⟨b,d,_⟩:=wK (P:=fun _ _=>False) (fun _ _ _ h=>h.elim) (by omega) a;exact⟨b,d⟩
 ·cases h
theorem aDv{g:cF}(j:lX g){b:Rg.Blk}(c:b.l<=5)(d:b.n<2*4^b.l)(i:(gH (dF g) (fJ g) b).2.2.2.2=0):iY (gH (dF g) (fJ g) b).2.2.1 (gH (dF g) (fJ g) b).2.2.2.1:=by
 obtain⟨⟨d1,d2,d3⟩,e1,e2,o⟩:=wG j;have gr:=iB b c d;obtain⟨e,f,h⟩:=aC9 b gr;have a:=Yi (d1:=dF g) (d2:=fJ g) ⟨by omega,d2,by omega⟩ ⟨by omega,e2,by omega⟩ b c d;have m:kB (q5 b) (dF g).1 (dF g).2 (fJ g).1 (fJ g).2=gH (dF g) (fJ g) b:=by rw[gH]
 have k:=QD a e f h;rw[m]at k;exact(k i).2.2.2
theorem Tm{r:Int×Int×Int×Int×Int}{level:Nat}(j:level<=5){A:List Rg.Blk}(b:iY r.2.2.1 r.2.2.2.1)(h:U4 (bX (gF (r.1,r.2.1,r.2.2.1,r.2.2.2.1)) (fI (r.1,r.2.1,r.2.2.1,r.2.2.2.1)) level)=.inr A){y x:Nat}(l:y<=10800000)(k:x<=21600000)(c:DI (r.1,r.2.1,r.2.2.1,r.2.2.2.1) y x):∃d∈A,Rg.In d y x:=by
 obtain⟨e,f,g,i,m⟩:=r;dsimp only at b h c;cases a:bX (gF (e,f,g,i)) (fI (e,f,g,i)) level with
 |none=>rw[a]at h;cases h
 |some B=>
  rw[a]at h;cases h;exact around_holds b j a l k c
theorem LU{g:cF}(v:lX g){level:Nat}(m:level<=5){L f:List Rg.Blk}(h:UJ level g L=.inr f){b:Rg.Blk}(s:b∈L)(p:b.l<=5)(q:b.n<2*4^b.l):
  (gH (dF g) (fJ g) b).2.2.2.2=0/\∀y x:Nat,y<=10800000->x<=21600000->DI ((gH (dF g) (fJ g) b).1,(gH (dF g) (fJ g) b).2.1,(gH (dF g) (fJ g) b).2.2.1,(gH (dF g) (fJ g) b).2.2.2.1) y x->∃e∈f,Rg.In e y x:=by
 unfold UJ at h;obtain⟨_,_,_,o⟩:=Mu 8589934592 (fun c A t=>aAG m c A t) L [] f pN.nil (fun d i=>by cases i) h;obtain⟨A,a,B⟩:=o b s;have w:=aDv v p q;clear o h;unfold Yu at a;generalize gH (dF g) (fJ g) b=r at*;split at a
 ·rename_i k;refine⟨k,fun y x E D z=>?_⟩;obtain⟨d,i,hi⟩:=Tm m (w k) a E D z;obtain⟨e,u,j⟩:=B d i;exact⟨e,u,hi.subs j⟩
 ·cases a
theorem Yo{a b j l c d e f:Int}(n:-5400000<=a/\a<=b/\b<=5400000)(o:-10800000<=c/\c<=d/\d<=10800000)(h:(kB (a,b,j,l,0) c d e f).2.2.2.2≠0):RB (kB (a,b,j,l,0) c d e f).2.2.2.2:=by
 have p:=eJ a (a+c);have q:=dY b (b+d);have m:aB (mn a (a+c)) (mx b (b+d))=true:=aW (by omega) (by omega) (by omega);unfold kB at h ⊢;dsimp only at h ⊢;by_cases i:a+c< -5400000\/5400000<b+d
 ·rw[if_pos i];exact .inr (.inr (.inl rfl))
 rw[if_neg i]at h ⊢;by_cases g:(iG (mn a (a+c)) (mx b (b+d)) e f).2.2=0
 ·rw[if_pos g]at h;exact absurd rfl h
 rw[if_neg g];rcases o8 m g with k|k
 ·exact .inr (.inr (.inr k))
 ·exact .inr (.inr (.inl k))
theorem Mh{g:cF}(k:lX g){level:Nat}{L:List Rg.Blk}(m:∀b∈L,b.l<=5/\b.n<2*4^b.l){e:Int}(h:UJ level g L=.inl e):RB e:=by
 refine CE (p:=RB) (.inr (.inl rfl)) L (some []) e (fun b j e a=>?_) h;obtain⟨f,i⟩:=m b j;obtain⟨⟨d1,d2,d3⟩,_⟩:=wG k;have gr:=iB b f i;unfold Yu at a;split at a
 ·cases d:bX (gF ((gH (dF g) (fJ g) b).1,(gH (dF g) (fJ g) b).2.1,(gH (dF g) (fJ g) b).2.2.1,(gH (dF g) (fJ g) b).2.2.2.1)) (fI ((gH (dF g) (fJ g) b).1,(gH (dF g) (fJ g) b).2.1,(gH (dF g) (fJ g) b).2.2.1,(gH (dF g) (fJ g) b).2.2.2.1)) level with
  |none=>
   rw[d]at a;cases a;exact .inr (.inl rfl)
  |some B=>rw[d]at a;cases a
 ·rename_i c;cases a;unfold gH q5 at c ⊢;generalize qB b=Q at*;exact Yo (by omega) (by omega) c
theorem start_holds{p:cF}(b:PlOk p){level:Nat}{L:List Rg.Blk}(h:dV p level=.inr L):Reg L/\lB p L:=by
 unfold dV at h;cases a:bX (gF p) (fI p) (min 4 level)with
 |none=>rw[a]at h;cases h
 |some A=>
  rw[a]at h;cases h;exact⟨rF (by omega) a,fun y x e d c=>around_holds b.lon (by omega) a e d c⟩
theorem Rj{p:cF}{level:Nat}{e:Int}(h:dV p level=.inl e):RB e:=by
 unfold dV at h;cases a:bX (gF p) (fI p) (min 4 level)with
 |none=>rw[a]at h;cases h;exact .inr (.inl rfl)
 |some A=>rw[a]at h;cases h
def lD(I:List Rg.Blk->Prop):Int ⊕ List Rg.Blk->Prop
 | .inl e=>RB e
 | .inr L=>Reg L/\I L
theorem SX{q:cF}{D G n:Int}(i:PlOk q)(l:SgOk D G n){level:Nat}(j:level<=5){L:List Rg.Blk}(d:Reg L):(lB q L->lD (lB q) (MA (EV q D G n) level L))/\(iF q L->lD (iF q) (MA (EV q D G n) level L)):=by
 have g:∀b y x,DI q y x->Rg.In b y x->Is (EV q D G n) b=true:=fun b y x a hi=>aCv i l hi a;cases c:MA (EV q D G n) level L with
 |inl e=>
  have k:iF q L->RB e:=fun⟨y,x,a,f⟩=>aAI g d c a f;exact⟨fun h=>k (h.some i),k⟩
 |inr p=>
  have k:=(TP j d c).1;exact⟨fun h=>⟨k,fun y x o m a=>YY g d c a (h y x o m a)⟩,fun⟨y,x,a,f⟩=>⟨k,y,x,a,YY g d c a f⟩⟩
theorem nZ{q:cF}(a:PlOk q):cT q.1 q.2.1 q.2.2.1 q.2.2.2=true:=mL a.lat.1 a.lat.2.1 a.lat.2.2 a.lon
theorem Xc{g:cF}{a c:Int}(i:lX g)(m:PlOk (a,a,c,c))(near:-5340000<=a/\a<=5340000)(p:(OI (a,a,c,c) g).2.2.2.2=0){level:Nat}(n:level<=5){L:List Rg.Blk}(d:Reg L)(h:lB (a,a,c,c) L):lD (lB (TN (a,a,c,c) g)) (UJ level g L):=by
 cases j:UJ level g L with
 |inl e=>exact Mh i d.okc j
 |inr t=>
  refine⟨TL i n d j,fun y x s r q=>?_⟩;obtain⟨v,u,l,b,f,hi⟩:=h.some m;obtain⟨o,k⟩:=LU i n j f (d.okc b f).1 (d.okc b f).2;exact k y x s r (Yr i (nZ m) m.lon near p (d.okc b f).1 (d.okc b f).2 o hi l q)
theorem Xd{q g:cF}(d:lX g)(j:PlOk q)(near:-5340000<=q.1/\q.2.1<=5340000)(k:(OI q g).2.2.2.2=0){level:Nat}(i:level<=5){L:List Rg.Blk}(c:Reg L)(h:lB q L):lD (iF (TN q g)) (UJ level g L):=by
 cases f:UJ level g L with
 |inl e=>exact Mh d c.okc f
 |inr p=>
  refine⟨TL d i c f,?_⟩;obtain⟨b,a,y,x,o,n,m,l⟩:=Qk d (nZ j) j.lon near k c.okc (fun b a=>(LU d i f a (c.okc b a).1 (c.okc b a).2).1) h;exact⟨y,x,m,(LU d i f a (c.okc b a).1 (c.okc b a).2).2 y x o n l⟩
theorem lD.bnd{I J:List Rg.Blk->Prop}{r:Int ⊕ List Rg.Blk}{f:List Rg.Blk->Int ⊕ List Rg.Blk}(h:lD I r)(k:∀L,Reg L->I L->lD J (f L)):lD J (bnd r f):=by
 cases r with
 |inl e=>exact h
 |inr L=>exact k L h.1 h.2
structure Sig where
 dec:Int
 gha:Int
 noi:Int
 leg:cF
def oP(s:Nat->Sig)(p:cF):Nat->cF
 | 0=>p
 |i+1=>TN (oP s p i) (s i).leg
def Oo(s:Nat->Sig)(p:cF)(i:Nat):fT:=EV (oP s p i) (s i).dec (s i).gha (s i).noi
def leN(s:Nat->Sig):Nat->List cF
 | 0=>[]
 |i+1=>[(s i).leg]
def Vr(s:Nat->Sig)(p:cF)(m:Nat):List (fT×List cF):=(qL m).map fun i=>(Oo s p i,leN s i)
structure SigOk (s:Nat->Sig) (a c:Int) (m:Nat):Prop where
 near:-3600000<=a/\a<=3600000
 lon:-10800000<=c/\c<10800000
 sig:∀i,i<m->SgOk (s i).dec (s i).gha (s i).noi/\lX (s i).leg
 way:∀i,i+1<m->(OI (oP s (a,a,c,c) i) (s i).leg).2.2.2.2=0
theorem ZH{s:Nat->Sig}{a c:Int}{m:Nat}(h:SigOk s a c m):∀i,i<m->PlOk (oP s (a,a,c,c) i)/\-5340000<=(oP s (a,a,c,c) i).1/\(oP s (a,a,c,c) i).2.1<=5340000
 | 0,_=>by
  have n:=h.near;have l:=h.lon;exact⟨⟨⟨by show -5400000<=a;omega,zV a,by show a<=5400000;omega⟩,.inr ⟨l.1,l.2,zV c,by show c-c<21600000;omega⟩⟩,by show -5340000<=a;omega,by show a<=5340000;omega⟩
 |i+1,hi=>by
  obtain⟨b,d⟩:=ZH h i (by omega);obtain⟨e,f,g,j⟩:=Yy (h.sig i (by omega)).2 (nZ b) b.lon d (h.way i hi);have k:=uT e;exact⟨⟨k,f⟩,g,j⟩
def O8(P:Nat->cF)(m:Nat)(T:List (Int ⊕ List Rg.Blk)):Prop:=
 (∃Ls:List (List Rg.Blk),T=Ls.map Sum.inr/\Ls.length=m/\∀(i:Nat) (L:List Rg.Blk),Ls[i]? =some L->Reg L/\iF (P i) L)\/∃(Ls:List (List Rg.Blk)) (e:Int),T=Ls.map Sum.inr++[Sum.inl e]/\RB e
theorem IT{level:Nat}(r:Int ⊕ List Rg.Blk):dB level [] r=[]:=by rw[dB]
theorem aBD{level:Nat}{X:fT×List cF}{l:List (fT×List cF)}{S:Int ⊕ List Rg.Blk}{e:Int}(h:eA level X S=.inl e):dB level (X::l) S=[.inl e]:=by
 rw[dB,h]
theorem Ie{level:Nat}{X:fT×List cF}{l:List (fT×List cF)}{S:Int ⊕ List Rg.Blk}{L:List Rg.Blk}(h:eA level X S=.inr L):dB level (X::l) S=.inr L::dB level l (.inr L):=by
 rw[dB,h]
theorem TJ(P:Nat->cF):O8 P 0 []:=.inl ⟨[],rfl,rfl,fun i L h=>by simp at h⟩
theorem Xw{P:Nat->cF}{m:Nat}{L:List Rg.Blk}{T:List (Int ⊕ List Rg.Blk)}(f:Reg L)(h:iF (P 0) L)(k:O8 (fun i=>P (i+1)) m T):O8 P (m+1) (.inr L::T):=by
 rcases k with⟨a,rfl,d,c⟩|⟨a,e,rfl,b⟩
 ·refine .inl ⟨L::a,rfl,by rw[zM,d],fun i M hi=>?_⟩;cases i with
  |zero=>
   rw[List.getElem?_cons_zero]at hi;cases hi;exact⟨f,h⟩
  |succ i=>
   rw[List.getElem?_cons_succ]at hi;exact c i M hi
 ·exact .inr ⟨L::a,e,rfl,b⟩
theorem pC{level:Nat}{P:Nat->cF}{m:Nat}{X:fT×List cF}{l:List (fT×List cF)}{S:Int ⊕ List Rg.Blk}{I:List Rg.Blk->Prop}(h:lD I (eA level X S))(a:∀L,I L->iF (P 0) L)(k:∀L,Reg L->I L->O8 (fun i=>P (i+1)) m (dB level l (.inr L))):
  O8 P (m+1) (dB level (X::l) S):=by
 cases hR:eA level X S with
 |inl e=>
  rw[hR]at h;rw[aBD hR];exact .inr ⟨[],e,rfl,h⟩
 |inr L=>
  rw[hR]at h;rw[Ie hR];exact Xw h.1 (a L h.2) (k L h.1 h.2)
theorem aC7(s:Nat->Sig)(p:cF):oP s p 0=p:=by rw[oP]
theorem aC8(s:Nat->Sig)(p:cF)(i:Nat):oP s p (i+1)=TN (oP s p i) (s i).leg:=by rw[oP]
theorem ER{level:Nat}{c:fT}{r:Int ⊕ List Rg.Blk}:eA level (c,[]) r=bnd r (MA c level):=by rw[eA,wD]
theorem Qz{level:Nat}{c:fT}{g:cF}{L:List Rg.Blk}:eA level (c,[g]) (.inr L)=bnd (UJ level g L) (MA c level):=by
 rw[eA,wD,wD,bnd]
theorem aB5{q p:cF}{D G n:Int}{level:Nat}(c:PlOk q)(a:SgOk D G n)(g:level<=5)(i:PlOk p)(b:∀y x,DI q y x->DI p y x):lD (lB q) (eA level (EV q D G n,[]) (dV p level)):=by
 rw[ER];refine lD.bnd (I:=lB q) ?_ fun L j h=>(SX c a g j).1 h;cases a:dV p level with
 |inl e=>exact Rj a
 |inr L=>
  obtain⟨d,f⟩:=start_holds i a;exact⟨d,fun y x l k c=>f y x l k (b y x c)⟩
theorem Mv{q g:cF}{D G n:Int}{level:Nat}{I J:List Rg.Blk->Prop}(d:PlOk q)(e:SgOk D G n)(c:level<=5){L:List Rg.Blk}(k:lD I (UJ level g L))(j:(I=lB q/\J=lB q)\/(I=iF q/\J=iF q)):lD J (eA level (EV q D G n,[g]) (.inr L)):=by
 rw[Qz];rcases j with⟨rfl,rfl⟩|⟨rfl,rfl⟩
 ·exact lD.bnd k fun L b a=>(SX d e c b).1 a
 ·exact lD.bnd k fun L b a=>(SX d e c b).2 a
theorem Rc{P:Nat->cF}{s:Nat->Sig}{p:cF}{a c:Int}{level m:Nat}(g:level<=5)(t:PlOk p)(j:∀y x,DI (a,a,c,c) y x->DI p y x)(l:P 0=(a,a,c,c))(o:∀i,P (i+1)=TN (P i) (s i).leg)(z:1<=m)(A:m<=3)
  (f:∀i,i<m->PlOk (P i)/\-5340000<=(P i).1/\(P i).2.1<=5340000)(sig:∀i,i<m->SgOk (s i).dec (s i).gha (s i).noi/\lX (s i).leg)(way:∀i,i+1<m->(OI (P i) (s i).leg).2.2.2.2=0):
  O8 P m (dB level ((qL m).map fun i=>(EV (P i) (s i).dec (s i).gha (s i).noi,leN s i)) (dV p level)):=by
 have v:leN s 0=[]:=rfl;have w:∀i,leN s (i+1)=[(s i).leg]:=fun _=>rfl;have d:=f 0 (by omega);rw[l]at d;have R0:=aB5 d.1 (sig 0 (by omega)).1 g t j;rw[<-l]at R0;have n:∀L,lB (P 0) L->iF (P 0) L:=fun L b=>b.some (f 0 (by omega)).1;have R1:2<=m->∀L,Reg L->lB (P 0) L->lD (lB (P 1)) (eA level (EV (P 1) (s 1).dec (s 1).gha (s 1).noi,[(s 0).leg]) (.inr L)):=fun r L e b=>by
  have u:=way 0 (by omega);have e1:=o 0;rw[l]at u b e1;have k:=Xc (sig 0 (by omega)).2 d.1 d.2 u g e b;rw[<-e1]at k;exact Mv (f 1 (by omega)).1 (sig 1 (by omega)).1 g k (.inl ⟨rfl,rfl⟩)
 have R2:3<=m->∀L,Reg L->lB (P 1) L->lD (iF (P 2)) (eA level (EV (P 2) (s 2).dec (s 2).gha (s 2).noi,[(s 1).leg]) (.inr L)):=fun r L e b=>by
  have k:=Xd (sig 1 (by omega)).2 (f 1 (by omega)).1 (f 1 (by omega)).2 (way 1 (by omega)) g e b;rw[<-o 1]at k;exact Mv (f 2 (by omega)).1 (sig 2 (by omega)).1 g k (.inr ⟨rfl,rfl⟩)
 have q:2<=m->∀L,lB (P 1) L->iF (P 1) L:=fun r L b=>b.some (f 1 (by omega)).1;clear o f sig way d j t l;rcases(show m=1\/m=2\/m=3 by omega)with rfl|rfl|rfl
 ·rw[show qL 1=[0]from rfl];simp only[xY,List.map_nil];exact pC R0 n fun L _ _=>by rw[IT];exact TJ _
 ·rw[show qL 2=[0,1]from rfl];simp only[xY,List.map_nil];exact pC R0 n fun L e b=>pC (P:=fun i=>P (i+1)) (R1 (by omega) L e b) (q (by omega)) fun L _ _=>by rw[IT];exact TJ _
 ·rw[show qL 3=[0,1,2]from rfl];simp only[xY,List.map_nil];exact pC R0 n fun L e b=>pC (P:=fun i=>P (i+1)) (R1 (by omega) L e b) (q (by omega)) fun L e b=>pC (P:=fun i=>P (i+1+1)) (R2 (by omega) L e b) (fun L h=>h) fun L _ _=>by rw[IT];exact TJ _
theorem aBa{s:Nat->Sig}{a c:Int}{m:Nat}(h:SigOk s a c m)(d:1<=m)(e:m<=3){level:Nat}(f:level<=5){p:cF}(g:PlOk p)(b:∀y x,DI (a,a,c,c) y x->DI p y x):
  O8 (oP s (a,a,c,c)) m (dB level (Vr s (a,a,c,c) m) (dV p level)):=by
 unfold Vr Oo;exact Rc f g b (aC7 _ _) (aC8 _ _) d e (ZH h) h.sig h.way
end
section
open Rg
open Ev (lt Gl)
attribute [local instance] nP
theorem sz4{l:Nat}(h:l<=4):16777216<=sz l:=by
 have:=Ni h;have e:sz 4=16777216:=by decide
 omega
theorem aFJ:∀(L:List Rg.Blk) (lo hi:Nat),lo<=hi->AN L->Lv L 4->(∀d∈L,lo<=d.lo/\d.hi<=hi)->lo+L.length*16777216<=hi
 | [],lo,hi,h,_,_,_=>by simpa using h
 |b::l,lo,hi,h,f,g,c=>by
  have i:=c b zH;have s:=sz4 (g b zH);have e:=b.hi_eq;have k:=aFJ l b.hi hi i.2 f.tail (fun d a=>g d (zF _ a)) (fun d a=>⟨f.after d a,(c d (zF _ a)).2⟩);rw[zM];omega
theorem aEM{L:List Rg.Blk}(b:AN L)(e:Lv L 4)(c:iK L 8589934592):L.length<=512:=by
 have:=aFJ L 0 8589934592 (by omega) b e (fun d a=>⟨zO _,c d a⟩);omega
theorem Yg{L:List Rg.Blk}{m:Nat}(h:Lv L m):Lv L.reverse m:=fun d a=>h d (by simpa using a)
theorem M6{L:List Rg.Blk}{m:Nat}(h:iK L m):iK L.reverse m:=fun d a=>h d (by simpa using a)
theorem aBL{R:List Rg.Blk}(h:Rg.Good R)(b:Lv R 4)(a:iK R 8589934592):R.length<=512:=by
 have:=aEM h.ord (Yg b) (M6 a);rwa[zS]at this
theorem aEE{meets inside:Rg.Blk->Bool}:∀(k:Nat) (b:Rg.Blk) (R:List Rg.Blk),b.l+k=4->Rg.Good R->Lv R 4->iK R b.lo->b.hi<=8589934592->∃d,eN meets inside k b R=some d/\Lv d 4:=by
 have c:∀(b:Rg.Blk) (R:List Rg.Blk),b.l<=4->Rg.Good R->Lv R 4->iK R b.lo->b.hi<=8589934592->∃d,fin (push R b)=some d/\Lv d 4:=fun b R e f a g j=>by
  obtain⟨s,_⟩:=Rg.Step.push f (by omega) g;have v:=CC (m:=4) (by omega) a e;have:=aBL s.good v (s.upto.mono j);exact⟨_,by unfold fin;rw[if_pos (by omega)],v⟩
 intro k;induction k with
 |zero=>
  intro b R E f a g j;unfold eN;split
  ·exact c b R (by omega) f a g j
  ·exact⟨R,rfl,a⟩
 |succ k o=>
  intro b R E f a g j;unfold eN;split
  ·split
   ·exact c b R (by omega) f a g j
   ·have e:b.l<16:=by omega
    have n:∀i,(b.kid i).l+k=4:=fun i=>by show b.l+1+k=4;omega
    have q:=fun i R d=>mG (meets:=meets) (inside:=inside) (P:=fun _ _=>False) (fun _ _ _ h=>h.elim) k (b.kid i) R d (by have:=n i;omega);have r:=EH b e;have t:(b.kid 0).hi=(b.kid 1).lo:=iS b e 0;have u:(b.kid 1).hi=(b.kid 2).lo:=iS b e 1;have B:(b.kid 2).hi=(b.kid 3).lo:=iS b e 2;have K:=LL b e;have L:=(b.kid 1).lt;have M:=(b.kid 2).lt;have N:=(b.kid 3).lt;obtain⟨R0,w,G⟩:=o (b.kid 0) R (n 0) f a (by rw[r];exact g) (by omega);obtain⟨p,_⟩:=q 0 R R0 f (by rw[r];exact g) w;obtain⟨R1,x,H⟩:=o (b.kid 1) R0 (n 1) p.good G (by rw[<-t];exact p.upto) (by omega);obtain⟨s1,_⟩:=q 1 R0 R1 p.good (by rw[<-t];exact p.upto) x;obtain⟨R2,y,I⟩:=o (b.kid 2) R1 (n 2) s1.good H (by rw[<-u];exact s1.upto) (by omega);obtain⟨z,_⟩:=q 2 R1 R2 s1.good (by rw[<-u];exact s1.upto) y;obtain⟨A,D,J⟩:=o (b.kid 3) R2 (n 3) z.good I (by rw[<-B];exact z.upto) (by omega);exact⟨A,by rw[w,yL,x,yL,y,yL,D],J⟩
  ·exact⟨R,rfl,a⟩
theorem U5(meets inside:Rg.Blk->Bool):∃A,bX meets inside 4=some A/\Lv A 4:=by
 obtain⟨R0,c,g⟩:=aEE (meets:=meets) (inside:=inside) 4 ⟨0,0⟩ [] rfl Rg.Good.nil (fun d a=>by cases a) (fun d a=>by cases a) (by decide);obtain⟨b,_⟩:=mG (P:=fun _ _=>False) (fun _ _ _ h=>h.elim) 4 ⟨0,0⟩ [] R0 (by decide) Rg.Good.nil (fun d a=>by cases a) c;obtain⟨R1,e,f⟩:=aEE (meets:=meets) (inside:=inside) 4 ⟨0,1⟩ R0 rfl b.good g b.upto (by decide);obtain⟨s1,_⟩:=mG (P:=fun _ _=>False) (fun _ _ _ h=>h.elim) 4 ⟨0,1⟩ R0 R1 (by decide) b.good b.upto e;have:=aBL s1.good f (s1.upto.mono (by decide));exact⟨R1.reverse,by unfold bX;rw[c,yL,e,yL,if_pos (by omega)],Yg f⟩
theorem szW{l:Nat}(h:l<=4):∃W,sz l=16777216*W/\1<=W:=by
 refine⟨4^(4-l),?_,Nat.pow_pos (by omega)⟩;unfold sz;rw[show 16-l=12+(4-l) by omega,Nat.pow_add]
theorem aFK{agrees sure:Rg.Blk->Bool}:∀(k:Nat) (b:Rg.Blk) (n W:Nat) (L:List Rg.Blk),b.l+k=16->b.l<=4->sz b.l=16777216*W->1<=W->n+2*W<=100000->∃o p,dI agrees sure 4 k b (n,L)=some (o,p)/\o+1<=n+2*W:=by
 intro k;induction k with
 |zero=>intro b n W L z x;omega
 |succ k a=>
  intro b n W L z x m j H;unfold dI;rw[if_neg (show ¬100000<n+1 by omega)];split
  ·split
   ·exact⟨n+1,_,rfl,by omega⟩
   ·rename_i A;have y:b.l<4:=by
     rcases qJ b.l 4 with h|h
     ·exact h
     ·exact absurd (.inl h) A
    have d:∀i,(b.kid i).l+k=16:=fun i=>by show b.l+1+k=16;omega
    have c:∀i,(b.kid i).l<=4:=fun i=>by show b.l+1<=4;omega
    obtain⟨T,g,t1⟩:=szW (l:=b.l+1) (by omega);have e:=uZ (l:=b.l) (by omega);rw[m,g]at e;have f:∀i,sz (b.kid i).l=16777216*T:=fun _=>g;have e:W=4*T:=by omega
    clear g m;obtain⟨B,q,u,I⟩:=a (b.kid 0) (n+1) T L (d 0) (c 0) (f 0) t1 (by omega);obtain⟨D,r,j,J⟩:=a (b.kid 1) B T q (d 1) (c 1) (f 1) t1 (by omega);obtain⟨E,s,v,K⟩:=a (b.kid 2) D T r (d 2) (c 2) (f 2) t1 (by omega);obtain⟨G,t,w,M⟩:=a (b.kid 3) E T s (d 3) (c 3) (f 3) t1 (by omega);dsimp only;exact⟨G,t,by rw[u,yL,j,yL,v,yL,w],by omega⟩
  ·exact⟨n+1,_,rfl,by omega⟩
theorem Ye{agrees sure:Rg.Blk->Bool}:∀(l:List Rg.Blk) (n B lo hi:Nat) (L:List Rg.Blk),lo<=hi->AN l->Lv l 4->(∀d∈l,lo<=d.lo/\d.hi<=hi)->n+B<=100000->2*(hi-lo)<=16777216*B->∃s,looks agrees sure 4 l (n,L)=some s
 | [],n,B,lo,hi,L,_,_,_,_,_,_=>⟨_,rfl⟩
 |b::l,n,B,lo,hi,L,h,g,i,f,u,t=>by
  have o:=f b zH;have v:=i b zH;obtain⟨W,c,r⟩:=szW v;have e:=b.hi_eq;rw[c]at e;have m:2*W<=B:=by omega
  obtain⟨q,j,k,w⟩:=aFK (agrees:=agrees) (sure:=sure) (16-b.l) b n W L (by omega) v c r (by omega);obtain⟨s,p⟩:=Ye (agrees:=agrees) (sure:=sure) l q (B-2*W) b.hi hi j o.2 g.tail (fun d a=>i d (zF _ a)) (fun d a=>⟨g.after d a,(f d (zF _ a)).2⟩) (by omega) (by omega);exact⟨s,by unfold looks;rw[k,yL,p]⟩
theorem of4{c:fT}{L:List Rg.Blk}(a:Reg L)(k:Lv L 4){y x:Nat}(r:∀b,Rg.In b y x->Is c b=true)(p:∃b∈L,Rg.In b y x):∃f,MA c 4 L=.inr f/\Reg f/\Lv f 4/\∃b∈f,Rg.In b y x:=by
 obtain⟨s,h⟩:=Ye (agrees:=Is c) (sure:=suV c) L 0 1024 0 8589934592 [] (by omega) a.tidy.2.2 k (fun d q=>⟨zO _,a.top d q⟩) (by omega) (by omega);obtain⟨t1,t2,t3⟩:=TO (P:=fun n m=>n=y/\m=x) (fun b n m g hi=>r b (by rw[<-g.1,<-g.2];exact hi)) a.tidy a.top h;have l:Lv (AJ s.2 []).reverse 4:=Mk (zC 4) (by omega) k h;have o:=aEM t1.2.2 l t2;rw[zS]at o;obtain⟨e,i,hi⟩:=t3 y x ⟨rfl,rfl⟩ p;have g:=List.length_pos_of_mem i;rw[zS]at g;have j:MA c 4 L=.inr (AJ s.2 []).reverse:=by
  unfold MA;rw[h];dsimp only;rw[if_neg (by omega),if_neg (by omega)]
 exact⟨_,j,(TP (by omega) a j).1,l,e,i,hi⟩
def Q3(g:Int):fT:=(0,0,g,g,3600000,3600000)
def exP:cF:=(0,3000000,0,5400000)
theorem IB:((mY 2700000 2700000 0 0 2700000 2700000).1<=(bB 3600000 3600000).2.1/\(bB 3600000 3600000).1<=(mY 2700000 2700000 0 0 2700000 2700000).2.1)/\(mY 2700000 2700000 0 0 (-2700000) (-2700000)).1<=(bB 3600000 3600000).2.1/\(bB 3600000 3600000).1<=(mY 2700000 2700000 0 0 (-2700000) (-2700000)).2.1:=by decide+kernel
theorem aD9:∃d a,dB 4 [(Q3 0,[]),(Q3 5400000,[])] (dV exP 4)=[.inr d,.inr a]/\Reg a/\0<a.length:=by
 obtain⟨A,h,u⟩:=U5 (gF exP) (fI exP);have p:iY exP.2.2.1 exP.2.2.2:=.inr ⟨by decide,by decide,by decide,by decide⟩;have s:=rF (by omega) h;have o:=around_holds p (by omega) h (y:=8100000) (x:=13500000) (by omega) (by omega) ⟨by decide,by decide,0,by decide,by decide⟩;obtain⟨d,e0,q,t,m⟩:=of4 (c:=Q3 0) s u (fun b hi=>Ci (D:=0) (g:=0) (e:=3600000) (f:=3600000) (by omega) (by omega) (by omega) hi (Y:=2700000) (X:=2700000) (by omega) (by omega) IB.1.1 IB.1.2) o;obtain⟨a,e1,r,v,n⟩:=of4 (c:=Q3 5400000) q t (fun b hi=>Ci (D:=0) (g:=5400000) (e:=3600000) (f:=3600000) (by omega) (by omega) (by omega) hi (Y:=2700000) (X:=2700000) (by omega) (by omega) IB.2.1 IB.2.2) m;have l:dV exP 4=.inr A:=by
  unfold dV;rw[show min 4 4=4 from rfl,h];rfl
 have i:eA 4 (Q3 0,[]) (.inr A)=.inr d:=by rw[ER,bnd,e0]
 have j:eA 4 (Q3 5400000,[]) (.inr d)=.inr a:=by rw[ER,bnd,e1]
 refine⟨d,a,?_,r,?_⟩
 ·rw[l,Ie i,Ie j,IT]
 ·obtain⟨b,k,_⟩:=n;exact List.length_pos_of_mem k
end
section
open Go Go.RowKit Go.Sort
section
variable {P : Program} {ops : Array Oper} {w0 : World} {md : Region.Mode}
def Gro(W W':World):Prop:=Below W.heap.size W W'
def FS(P:Program)(W:World)(φ:Value->Prop):Result Next->Prop
 | .ok (.value u) w'=>w'=W/\φ u
 | .ok .skip w'=>w'=W/\φ undef
 | .ok (.enter f args) w'=>w'=W/\Calls P f args W (fun e w''=>∃v,e=.returned v/\φ v/\Gro W w'')
 |_=>False
def Yc(P:Program)(ops:Array Oper)(w0:World)(o:Oper)(φ:Value->Prop)(a:Act):Prop:=
 (Region.wanted o (yielded ops a.tmps)=true/\∀W,Below w0.heap.size w0 W->FS P W φ ((execOp a.eval o).run P W))\/(Region.wanted o (yielded ops a.tmps)=false/\φ undef)
theorem Yc.same{o:Oper}{φ:Value->Prop}{a a':Act}(h:Yc P ops w0 o φ a)(b:execOp a'.eval o=execOp a.eval o)(c:Region.wanted o (yielded ops a'.tmps)=Region.wanted o (yielded ops a.tmps)):Yc P ops w0 o φ a':=by
 unfold Yc at*;rw[b,c];exact h
def wpG(P:Program)(ops:Array Oper)(w0:World)(s:Nat->Bool)(Q:Act->Prop):Nat->List Oper->Act->Prop
 |_,[],a=>Q a
 |k,o::l,a=>(∃v,Yc P ops w0 o (fun u=>u=v) a/\wpG P ops w0 s Q (k+1) l (a.put o.dst v))\/(s k=true/\∃φ,Yc P ops w0 o φ a/\∀v,φ v->wpG P ops w0 s Q (k+1) l (a.put o.dst v))
theorem DC{s:Nat->Bool}{Q:Act->Prop}{a:Act}{k:Nat}{o:Oper}{l:List Oper}(h:∀K:Act->Prop,(∀a,wpG P ops w0 s Q (k+1) l a->K a)->if Region.wanted o (yielded ops a.tmps) then ∃v,(∀W,(∃p:Regrown,W=grow (redrawn w0 p.d) p.os)->Oper.quietUpon P (Gro W) W v ((execOp a.eval o).run P W))/\K (a.put o.dst v) else K (a.put o.dst undef)):wpG P ops w0 s Q k (o::l) a:=by
 have c:=h _ (fun _ h=>h);left;by_cases g:Region.wanted o (yielded ops a.tmps)=true
 ·rw[if_pos g]at c;obtain⟨v,j,m⟩:=c;refine⟨v,.inl ⟨g,fun W i=>?_⟩,m⟩;have b:=j W (regrown_of_below i);generalize (execOp a.eval o).run P W=r at*;cases r with
  |ok n t=>
   cases n<;>simp only[Oper.quietUpon]at b<;>simp only[FS]
   case value u=>exact b
   case skip=>exact⟨b.1,b.2.symm⟩
   case enter f args=>exact⟨b.1,b.2.mono fun e w ⟨q,i⟩=>⟨v,q,rfl,i⟩⟩
  |halt x t=>simp only[Oper.quietUpon]at b
 ·rw[if_neg g]at c;exact⟨undef,.inr ⟨by simpa using g,rfl⟩,c⟩
theorem O0{s:Nat->Bool}{Q:Act->Prop}{a:Act}{k:Nat}{o:Oper}{l:List Oper}(i:s k=true)(h:∀K:Act->Prop,(∀a,wpG P ops w0 s Q (k+1) l a->K a)->if Region.wanted o (yielded ops a.tmps) then ∃φ:Value->Prop,(∀W,(∃p:Regrown,W=grow (redrawn w0 p.d) p.os)->FS P W φ ((execOp a.eval o).run P W))/\∀v,φ v->K (a.put o.dst v) else K (a.put o.dst undef)):wpG P ops w0 s Q k (o::l) a:=by
 have b:=h _ (fun _ h=>h);right;refine⟨i,?_⟩;by_cases c:Region.wanted o (yielded ops a.tmps)=true
 ·rw[if_pos c]at b;obtain⟨φ,e,f⟩:=b;exact⟨φ,.inl ⟨c,fun W g=>e W (regrown_of_below g)⟩,f⟩
 ·rw[if_neg c]at b;exact⟨fun u=>u=undef,.inr ⟨by simpa using c,rfl⟩,fun v j=>by rw[j];exact b⟩
structure Inv2 (md:Region.Mode) (ops:Array Oper) (n j:Nat) (listed:Array Bool):Prop where
 size:listed.size=ops.size
 closed:∀k ok,ops[k]? =some ok->listed.getD k false=true->∀e∈ok.after,Region.binds md e=true->listed.getD e.on false=true
 tail:∀t,n<=t->t≠j->t<ops.size->listed.getD t true=false
theorem Inv2.set{n j i:Nat}{a:Array Bool}(b:Inv2 md ops n j a)(hi:i∈Region.ready md ops a)(q:i<n\/i=j):Inv2 md ops n j (a.setIfInBounds i true):=by
 obtain⟨_,u,f,c⟩:=mem_ready.1 hi;refine⟨by simp[b.size],fun k p m o e l h=>?_,fun t s r g=>by rw[getD_set_ne true (by omega)];exact b.tail t s r g⟩;by_cases d:i=k
 ·subst d;have:p=u:=zL.inj (m.symm.trans f);subst this;exact getD_set_true (c e l h)
 ·rw[getD_set_ne false d]at o;exact getD_set_true (b.closed k p m o e l h)
def QM(md:Region.Mode)(ops:Array Oper)(n j:Nat):Bool:=
 (qL n).all (fun i=>(qL (n+1)).any fun k=>decide (i<k)&&Region.waitsFor md ops k i)&&(qL ops.size).all fun t=>decide (t<=n)||t==j||(qL t).any fun s=>decide (n<=s)&&s != j&&Region.waitsFor md ops t s
theorem aGf{n j:Nat}{a:Array Bool}(w:QM md ops n j=true)(I:n<j)(N:n<ops.size)(l:Inv2 md ops n j a):∀(d i:Nat),n-i=d->i<n->a.getD i true=false->∀t,n<=t->t≠j->t∉Region.ready md ops a:=by
 simp only[QM,Bool.and_eq_true]at w;intro d;induction d using Nat.strongRecOn with
 | _ d K=>
  intro i M hi r t O p D;obtain⟨_,G,h,g⟩:=mem_ready.1 D;have q:t<ops.size:=(Array.getElem?_eq_some_iff.1 h).1;by_cases A:t=n
  ·subst A;obtain⟨k,H,m⟩:=yN.1 (yH.1 w.1 i (xW.2 hi));simp only[Bool.and_eq_true,decide_eq_true_eq]at m;obtain⟨E,o,e,v,u,b⟩:=Region.waitsFor_spec m.2;by_cases y:k=t
   ·subst y;have:E=G:=zL.inj (o.symm.trans h);subst this;have f:=g e v u;rw[b,getD_both r]at f;cases f
   ·have x:k<t:=by have:=xW.1 H;omega
    cases B:a.getD k false with
    |true=>
     have f:=l.closed k E o B e v u;rw[b,getD_both r]at f;cases f
    |false=>exact K (t-k) (by omega) k rfl x (getD_in (by rw[l.size];omega) B) t (zC _) p D
  ·have h1:=yH.1 w.2 t (xW.2 q);simp only[Bool.or_eq_true,decide_eq_true_eq,beq_iff_eq]at h1;rcases h1 with(h1|h1)|h1
   ·omega
   ·exact p h1
   ·obtain⟨s,J,c⟩:=yN.1 h1;simp only[Bool.and_eq_true,decide_eq_true_eq,bne_iff_ne]at c;obtain⟨L,z,e,v,u,b⟩:=Region.waitsFor_spec c.2;have:L=G:=zL.inj (z.symm.trans h);subst this;have f:=g e v u;have:=xW.1 J;rw[b,getD_both (l.tail s c.1.1 c.1.2 (by omega))]at f;cases f
def wpO(P:Program)(md:Region.Mode)(ops:Array Oper)(w0:World)(n:Nat)(L:Array Bool->Act->Prop):Nat->Array Bool->Act->Prop
 | 0,listed,a=>L listed a
 |f+1,listed,a=>(∃i,i∈Region.ready md ops listed)/\∀i∈Region.ready md ops listed,i<n/\∃o φ,ops[i]? =some o/\Yc P ops w0 o φ a/\∀v,φ v->wpO P md ops w0 n L f (listed.setIfInBounds i true) (a.put o.dst v)
theorem Sb{n N i:Nat}{m:Oper}{v:Value}{L:Array Bool->Act->Prop}(hi:ops[i]? =some m)(t:∀(j:Nat) (o:Oper) cs b,ops[j]? =some o->o.op≠.select cs b)
  (hB:QM md ops n N=true)(U:n<N)(hn:n<ops.size)(G:i<n)(x:∀c a,L c a->∀j∈Region.ready md ops c,n<=j)(f:Nat):
  ∀(c:Array Bool) (a:Act),Inv2 md ops n N c->c.getD N true=true->
   (∀j g,ops[j]? =some g->j≠i->c.getD j true=false->(∀e∈g.after,Region.binds md e=true->e.on≠i)->m.apart ops g=true)->
   i∈Region.ready md ops c->Yc P ops w0 m (fun u=>u=v) a->wpO P md ops w0 n L f (c.setIfInBounds i true) (a.put m.dst v)->wpO P md ops w0 n L (f+1) c a:=by
 induction f with
 |zero=>
  intro c a A z _ B M H;refine⟨⟨i,B⟩,fun j y=>?_⟩;have p:j<n:=Nat.lt_of_not_le fun h=>aGf hB U hn A _ i rfl G (mem_ready.1 B).1 j h (fun e=>by have:=(mem_ready.1 y).1;rw[e,z]at this;cases this) y;by_cases d:j=i
  ·subst d;exact⟨p,m,_,hi,M,fun u K=>by rw[K];exact H⟩
  ·have:=x _ _ H j (ready_mono y d);omega
 |succ f ih=>
  intro c a A z l B M H;have X:=(mem_ready.1 B).1;refine⟨⟨i,B⟩,fun j y=>?_⟩;by_cases d:j=i
  ·subst d;exact⟨G,m,_,hi,M,fun u K=>by rw[K];exact H⟩
  ·obtain⟨p,g,φ,q,Y,H'⟩:=H.2 j (ready_mono y d);obtain⟨r,a0,s,E⟩:=mem_ready.1 y;have J:∀e∈g.after,Region.binds md e=true->e.on≠i:=fun e he hb O=>by
    have D:=E e (by rw[q]at s;cases s;exact he) hb;rw[O,getD_both X]at D;cases D
   obtain⟨D,h2,Z⟩:=Oper.apart_spec (l j g q d r J);have Q:Yc P ops w0 g φ a:=Y.same (execOp_put g (fun cs b=>t j g cs b q) a m.dst v D).symm (wanted_put g a m.dst v D).symm;refine⟨p,g,φ,q,Q,fun u K=>ih (c.setIfInBounds j true) (a.put g.dst u) (A.set y (.inl p)) (by rw[getD_set_ne true (by omega)];exact z) (fun k ok hk R w V=>l k ok hk R ?_ V) (ready_mono B (Ne.symm d)) (M.same (execOp_put m (fun cs b=>t i m cs b hi) a g.dst u Z) (wanted_put m a g.dst u Z)) ?_⟩
   ·by_cases I:j=k
    ·subst I;exact r
    ·rw[getD_set_ne true I]at w;exact w
   ·rw[Array.setIfInBounds_comm _ _ d,<-Act.put_comm a v u h2];exact H' u K
def NF:Nat->Nat->Array Bool->Array Bool
 | 0,_,l=>l
 |f+1,k,l=>NF f (k+1) (l.setIfInBounds k true)
def aAu(md:Region.Mode)(ops:Array Oper)(s:Nat->Bool):Nat->Nat->Array Bool->Bool
 | 0,_,_=>true
 |f+1,k,listed=>(Region.ready md ops listed).contains k&&Region.free md ops listed k&&(!s k||Region.ready md ops listed==[k])&&aAu md ops s f (k+1) (listed.setIfInBounds k true)
theorem UH{s:Nat->Bool}{n w:Nat}{L:Array Bool->Act->Prop}{Q:Act->Prop}(d:Region.noSelect ops=true)(m:QM md ops n w=true)(p:n<w)(E:n<ops.size)(c:∀b a,L b a->∀j∈Region.ready md ops b,n<=j):
  ∀(l:List Oper) (k:Nat) (b:Array Bool) (a:Act),(∀j,j<l.length->l[j]? =ops[k+j]?)->k+l.length<=n->Inv2 md ops n w b->b.getD w true=true->aAu md ops s l.length k b=true->wpG P ops w0 s Q k l a->
  (∀a',Q a'->L (NF l.length k b) a')->wpO P md ops w0 n L l.length b a
 | [],k,b,a,_,_,_,_,_,h,x=>x a h
 |o::l,k,b,a,D,B,q,t,J,h,x=>by
  have z:ops[k]? =some o:=by simpa using(D 0 (by simp)).symm
  simp only[zM,aAu,Bool.and_eq_true]at J;obtain⟨⟨⟨N,K⟩,H⟩,r⟩:=J;have f:k<n:=by simp only[zM]at B;omega
  have g:k∈Region.ready md ops b:=by simpa using N
  have u:(b.setIfInBounds k true).getD w true=true:=by rw[getD_set_ne true (by omega)];exact t
  rcases h with⟨v,I,y⟩|⟨G,φ,I,y⟩
  case inr=>
   have e:Region.ready md ops b=[k]:=by simpa[G]using H
   refine⟨⟨k,g⟩,fun i hi=>?_⟩;have A:i=k:=by rw[e]at hi;simpa using hi
   subst A;exact⟨f,o,φ,z,I,fun v O=>UH d m p E c l (i+1) _ _ (fun j M=>by have:=D (j+1) (by simp;omega);simpa[xX,ajZ 1 j]using this) (by simp only[zM]at B;omega) (q.set g (.inl f)) u r (y v O) x⟩
  exact Sb z (Region.noSelect_spec d) m p E f c _ b a q t (Region.free_spec z K) g I
   (UH d m p E c l (k+1) _ _ (fun j M=>by have:=D (j+1) (by simp;omega);simpa[xX,ajZ 1 j]using this) (by simp only[zM]at B;omega) (q.set g (.inl f)) u r y x)
theorem NW{i:Nat}{o:Oper}{φ:Value->Prop}{a:Act}{K:Act->World->Prop}{Q:Exit->Act->World->Prop}{W:World}(hi:ops[i]? =some o)(k:Below w0.heap.size w0 W)(q:Yc P ops w0 o φ a)(h:∀v j,φ v->Below W.heap.size W j->K (a.put o.dst v) j):wpOp P ops Q i K a W:=by
 unfold wpOp;simp only[hi];rcases q with⟨g,d⟩|⟨g,p⟩
 ·rw[if_pos g];left;have b:=d W k;unfold Oper.wp;generalize (execOp a.eval o).run P W=r at*;cases r with
  |ok n s=>
   cases n<;>simp only[FS]at b<;>simp only[Oper.upon]
   case value u=>
    obtain⟨e1,e2⟩:=b;rw[e1];exact h _ _ e2 (zD _ _)
   case skip=>
    obtain⟨e1,e2⟩:=b;rw[e1];exact h _ _ e2 (zD _ _)
   case enter f args=>
    obtain⟨e1,l⟩:=b;rw[e1];exact l.mono fun e t ⟨v,m,d,c⟩=>by subst m;exact h _ _ d c
  |halt x s=>simp only[FS]at b
 ·rw[if_neg (by rw[g];decide)];exact h _ _ p (zD _ _)
structure BoxOp (P:Program) (ops:Array Oper) (n j:Nat) (d:Tmp) (obj:Obj):Prop where
 at_:∃oj,ops[j]? =some oj/\oj.dst=some d/\oj.guard=none/\oj.after= #[]/\∀(a:Act) (W:World),(execOp a.eval oj).run P W=.ok (.value (.pointer (some ⟨W.heap.size,0,none⟩))) (W.alloc obj)
 lt:n<j
 apart:∀i o,i<n->ops[i]? =some o->d∉o.looksAt ops/\o.dst≠some d
theorem UV{n j g:Nat}{d:Tmp}{obj:Obj}{L:Array Bool->Act->Prop}{Q:Exit->Act->World->Prop}(z:BoxOp P ops n j d obj)(e:Region.noSelect ops=true)
  (w:∀c a W m,L c a->Below w0.heap.size w0 W->w0.heap.size<=m->W.heap[m]? =some obj->wpAny P md ops Q g c (a.put (some d) (.pointer (some ⟨m,0,none⟩))) W):
  ∀(f:Nat) (c:Array Bool) (a:Act) (W:World) (m:Nat),Below w0.heap.size w0 W->w0.heap.size<=m->W.heap[m]? =some obj->wpO P md ops w0 n L f c a->wpAny P md ops Q (f+g) c (a.put (some d) (.pointer (some ⟨m,0,none⟩))) W
 | 0,c,a,W,m,l,t,r,h=>by rw[qP];exact w _ _ _ _ h l t r
 |f+1,c,a,W,m,l,t,r,h=>by
  rw[show f+1+g=(f+g)+1 by omega];refine⟨fun D=>(by obtain⟨i,hi⟩:=h.1;rw[D]at hi;cases hi),fun i hi=>?_⟩;obtain⟨s,o,φ,k,G,H⟩:=h.2 i hi;obtain⟨u,A⟩:=z.apart i o s k;refine NW k l (G.same (execOp_put o (fun B b=>Region.noSelect_spec e i o B b k) a (some d) _ (fun x q=>by cases q;exact u)) (wanted_put o a (some d) _ (fun x q=>by cases q;exact u))) fun v I E p=>?_;rw[Act.put_comm a (x:=some d) (y:=o.dst) _ v (fun x q=>by cases q;exact A)];exact UV z e w f _ _ _ _ (l.trans (p.mono l.size)) t ((p.block m (Array.getElem?_eq_some_iff.1 r).1).trans r) (H v E)
theorem UU{n j g:Nat}{d:Tmp}{obj:Obj}{L:Array Bool->Act->Prop}{Q:Exit->Act->World->Prop}(w:BoxOp P ops n j d obj)(l:Region.noSelect ops=true)(G:QM md ops n j=true)(K:n<ops.size)
  (B:∀b a W m,L b a->Below w0.heap.size w0 W->w0.heap.size<=m->W.heap[m]? =some obj->wpAny P md ops Q g b (a.put (some d) (.pointer (some ⟨m,0,none⟩))) W)
  (A:∀b a W,L (b.setIfInBounds j true) a->b.getD j true=false->Below w0.heap.size w0 W->wpAny P md ops Q (1+g) b a W):
  ∀(f:Nat) (b:Array Bool) (a:Act) (W:World),Inv2 md ops n j b->b.getD j true=false->Below w0.heap.size w0 W->wpO P md ops w0 n L f (b.setIfInBounds j true) a->wpAny P md ops Q (f+1+g) b a W
 | 0,b,a,W,_,s,k,h=>by rw[qP];exact A _ _ _ h s k
 |f+1,b,a,W,z,s,k,h=>by
  obtain⟨O,q,I,J,u,r⟩:=w.at_;have p:j∈Region.ready md ops b:=mem_ready.2 ⟨s,O,q,fun e D _=>by rw[u]at D;simp at D⟩;rw[show f+1+1+g=(f+1+g)+1 by omega];refine⟨fun E=>(by rw[E]at p;cases p),fun i hi=>?_⟩;by_cases c:i=j
  ·subst c;unfold wpOp;simp only[q];rw[if_pos (by simp[Region.wanted,J])];left;unfold Oper.wp;rw[r a W];simp only[Oper.upon];rw[I];exact UV w l B (f+1) _ _ _ _ (k.alloc k.size _) k.size (heap_alloc_new W obj) h
  ·obtain⟨x,o,φ,y,N,H⟩:=h.2 i (ready_mono hi c);refine NW y k N fun v R M t=>?_;refine UU w l G K B A f _ _ _ (z.set hi (.inl x)) ?_ (k.trans (t.mono k.size)) ?_
   ·rw[getD_set_ne true c];exact s
   ·rw[Array.setIfInBounds_comm _ _ c];exact H v M
theorem CM{x y:Array Bool}{j:Nat}(h:x.setIfInBounds j true=y.setIfInBounds j true)(c:x.getD j true=false)(d:y.getD j true=false):x=y:=by
 apply Array.ext_getElem?;intro k;by_cases b:j=k
 ·subst b;have e:∀z:Array Bool,z.getD j true=false->z[j]? =some false:=fun z a=>by
   rcases qJ j z.size with h'|h'
   ·simp[h']at a ⊢;exact a
   ·simp[Array.getElem?_eq_none h']at a
  rw[e x c,e y d]
 ·have:=congrArg (fun z:Array Bool=>z[k]?) h;simpa[Array.getElem?_setIfInBounds_ne b]using this
def aBJ(ops:Array Oper)(s:Nat->Bool)(n j:Nat)(d:Tmp):Bool:=
 Region.noSelect ops&&decide (n<j)&&decide (j<ops.size)&&QM .any ops n j&&(qL n).all (fun i=>match ops[i]? with
  |some o=> !(o.looksAt ops).contains d&&o.dst != some d
  |none=>true)&&
 aAu .any ops s n 0 ((qS ops.size false).setIfInBounds j true)&&(Region.ready .any ops (NF n 0 ((qS ops.size false).setIfInBounds j true))).all (fun i=>decide (n<=i))&&
 NF n 0 ((qS ops.size false).setIfInBounds j true)==(NF n 0 (qS ops.size false)).setIfInBounds j true&&(NF n 0 (qS ops.size false)).getD j true==false
def aBK(P:Program)(l:List Oper)(Q:Exit->Act->World->Prop)(w:World)(n j:Nat)(d:Tmp)(obj:Obj)(listed:Array Bool)(a':Act):Prop:=
 listed=NF n 0 ((qS l.length false).setIfInBounds j true)/\(∀m W,Below w.heap.size w W->w.heap.size<=m->W.heap[m]? =some obj->wpAny P .any l.toArray Q (l.length-n-1) (NF n 0 ((qS l.length false).setIfInBounds j true)) (a'.put (some d) (.pointer (some ⟨m,0,none⟩))) W)/\
   ∀W,Below w.heap.size w W->wpAny P .any l.toArray Q (l.length-n) (NF n 0 (qS l.length false)) a' W
theorem oF{id:Nat}{Q:Exit->Act->World->Prop}{a:Act}{w:World}{l:List Oper}(s:Nat->Bool)(n j:Nat)(d:Tmp)(obj:Obj)(hm:P.follows .mixedOrders=true)(Z:aBJ l.toArray s n j d=true)
  (ho:∃q,l.toArray[j]? =some q/\q.dst=some d/\q.guard=none/\q.after= #[]/\∀(a:Act) (W:World),(execOp a.eval q).run P W=.ok (.value (.pointer (some ⟨W.heap.size,0,none⟩))) (W.alloc obj))
  (h:wpG P l.toArray w s (fun a'=>(∀m W,Below w.heap.size w W->w.heap.size<=m->W.heap[m]? =some obj->wpAny P .any l.toArray Q (l.length-n-1) (NF n 0 ((qS l.length false).setIfInBounds j true)) (a'.put (some d) (.pointer (some ⟨m,0,none⟩))) W)/\
   ∀W,Below w.heap.size w W->wpAny P .any l.toArray Q (l.length-n) (NF n 0 (qS l.length false)) a' W) 0 (l.take n) a):(Code.region id l.toArray true).wp P Q a w:=by
 simp only[aBJ,Bool.and_eq_true,decide_eq_true_eq,beq_iff_eq]at Z;obtain⟨⟨⟨⟨⟨⟨⟨⟨f,v⟩,K⟩,B⟩,J⟩,c⟩,y⟩,z⟩,A⟩:=Z;have u:j<l.length:=by simpa using K
 have hn:n<l.toArray.size:=by omega
 have e1:(l.take n).length=n:=by simp;omega
 have k:l.toArray.size=l.length:=by simp
 rw[k]at c y z A;have bo:BoxOp P l.toArray n j d obj:=⟨ho,v,fun i o hi O=>by
  have E:=yH.1 J i (xW.2 hi);simp only[O,Bool.and_eq_true,Bool.not_eq_true',bne_iff_ne]at E;refine⟨fun hd=>?_,E.2⟩;have Y:=E.1;rw[List.contains_iff_mem.2 hd]at Y;cases Y⟩
 have D:Inv2 .any l.toArray n j ((qS l.length false).setIfInBounds j true):=by
  obtain⟨q,U,_,_,I,_⟩:=ho;refine⟨by simp,fun i oi hi c e he _=>?_,fun t B X V=>?_⟩
  ·by_cases r:j=i
   ·subst r;rw[U]at hi;cases hi;rw[I]at he;simp at he
   ·rw[getD_set_ne false r,getD_replicate_false]at c;cases c
  ·rw[getD_set_ne true (Ne.symm X)];exact getD_in (by simpa using V) (getD_replicate_false _ _)
 have H:=UH (P:=P) (w0:=w) (L:=aBK P l Q w n j d obj) f B v hn (fun b a p i hi=>by
   rw[p.1]at hi;exact of_decide_eq_true (yH.1 y i hi)) (l.take n) 0 _ a (fun i hi=>by
  have:i<n:=by rw[e1]at hi;exact hi
  simp[this]) (by rw[e1];omega) D (by simp[u]) (by rw[e1];exact c) h (fun a' ha=>by rw[e1];exact⟨rfl,ha⟩)
 rw[e1]at H;refine wp_region_any hm ?_;have R:=UU (Q:=Q) (w0:=w) (L:=aBK P l Q w n j d obj) (g:=l.length-n-1) bo f B hn (fun b a' W m p G N x=>by
  rw[p.1];exact p.2.1 m W G N x) (fun b a' W p M G=>by
  have e2:=CM (p.1.trans z) M A;rw[e2,show 1+(l.length-n-1)=l.length-n by omega];exact p.2.2 W G) _ (qS l.toArray.size false) a {w with drawn:=w.drawn+1}
  ⟨by simp,fun i oi _ c=>(by rw[getD_replicate_false]at c;cases c),fun t _ _ B=>getD_in (by simpa using B) (getD_replicate_false _ _)⟩ (getD_in (by simpa using u) (getD_replicate_false _ _)) (zD w.heap.size w).drew (by rw[k];exact H)
 rw[show n+1+(l.length-n-1)=l.toArray.size by rw[k];omega]at R;exact R
theorem lH{Q:Exit->Act->World->Prop}{k g:Nat}{b:Array Bool}{a:Act}{w:World}(c:Region.seqB md ops g k b=true)(d:k+g=ops.size)(h:wpList P ops Q (ops.toList.drop k) a w):wpAny P md ops Q g b a w:=by
 have e:(ops.toList.drop k).length=g:=by simp;omega
 have:=wpAny_of_seq (md:=md) (Q':=Q) (ops.toList.drop k) k b a w (fun i=>by simp[List.getElem?_drop]) (by rw[e];exact c) h;rwa[e]at this
end
end
section
open Go.RowKit Go.Sort Rg
open Ev (aF)
attribute [local instance] nP
attribute [local go_sem] Oper.semAt_some
attribute [local go_sem] FS
structure NineC (w:World) (c bs bi gp:Nat) (x y z:Int) (sv:Value) (i:Int) (o:Nat) (p0 p1 p2 p3:Int):Prop where
 a0:w.cell? ⟨c,0,none⟩=some (jI jJ x)
 a1:w.cell? ⟨c,1,none⟩=some (jI jJ y)
 a2:w.cell? ⟨c,2,none⟩=some (jI jJ z)
 s:w.cell? ⟨bs,0,none⟩=some sv
 i:w.cell? ⟨bi,0,none⟩=some (jI jJ i)
 b0:w.cell? ⟨gp,o,none⟩=some (jI jJ p0)
 b1:w.cell? ⟨gp,o+1,none⟩=some (jI jJ p1)
 b2:w.cell? ⟨gp,o+2,none⟩=some (jI jJ p2)
 b3:w.cell? ⟨gp,o+3,none⟩=some (jI jJ p3)
theorem Yk{a b c d e f g h:Int}{m:Bool}{w:World}(k:Calls zB 16 #[.agg #[jI jJ a,jI jJ b,jI jJ c,jI jJ d],.agg #[jI jJ e,jI jJ f,jI jJ g,jI jJ h]] w (AM m w)):
  Calls zB 16 #[.agg #[jI jJ a,jI jJ b,jI jJ c,jI jJ d],.agg #[jI jJ e,jI jJ f,jI jJ g,jI jJ h]] w (fun r w'=>∃v,r=.returned v/\(∃x y z u:Int,v=.tuple #[.agg #[jI jJ x,jI jJ y,jI jJ z,jI jJ u],jI jJ (cond m 0 23)])/\Gro w w'):=
 k.mono fun _ _ ⟨x,y,z,u,j,i⟩=>⟨_,j,⟨x,y,z,u,rfl⟩,i⟩
theorem J7(b:Rg.Blk)(M:b.l<=5)(O:b.n<2*4^b.l){L:List cF}{i:Nat}{p:cF}(U:L[i]? =some p)(vp:cT p.1 p.2.1 p.2.2.1 p.2.2.2=true)(kp:iY p.2.2.1 p.2.2.2){w:World}{bs bi:Nat}{sv:Value}(hs:w.cell? ⟨bs,0,none⟩=some sv)(hi:w.cell? ⟨bi,0,none⟩=some (jI jJ (i:Int)))(hL:bT pK 33 w 0 sv L):
  Calls zB 15 #[dD b,.pointer (some ⟨bs,0,none⟩),.pointer (some ⟨bi,0,none⟩)] w (GP (.bool (GB (qB b).1 (qB b).2.1 (qB b).2.2.1 (qB b).2.2.2 p.1 p.2.1 p.2.2.1 p.2.2.2)) w):=by
 have a4:i<L.length:=(List.getElem?_eq_some_iff.1 U).1;obtain⟨gp,Q,hv,_,R,p0,p1,p2,p3,rfl,l0,l1,l2,l3⟩:=hL.qua U;have f:=O4 b M O;have q:=fun w=>PX (XR b M O) vp (LC b M O) kp w;subst hv;obtain⟨x,y,z,hx⟩:∃x y z:Int,fW b=[jI jJ x,jI jJ y,jI jJ z]:=⟨_,_,_,rfl⟩;unfold dD at f ⊢;unfold QV at f;rw[hx]at f ⊢;dsimp only at f q ⊢;generalize (qB b).1=q1 at*;generalize (qB b).2.1=q2 at*;generalize (qB b).2.2.1=q3 at*;generalize (qB b).2.2.2=q4 at*;obtain⟨m,hm⟩:∃m,m=GB q1 q2 q3 q4 p0 p1 p2 p3:=⟨_,rfl⟩;rw[<-hm]at q ⊢;obtain⟨W,N⟩:∃W,W=w.alloc (.cells #[jI jJ x,jI jJ y,jI jJ z] 63):=⟨_,rfl⟩;have D:B3 W 63 w.heap.size x y z:=by rw[N];exact B3.new _ _ _ _ _
 have o:Below w.heap.size w W:=by rw[N];exact Below.new _
 have k:∀{a:Addr} {v:Value},w.cell? a=some v->W.cell? a=some v:=fun {a v} h=>(o.cell (p:=a) (World.block_lt_of_cell? w _ h)).trans h;obtain⟨Z,c1,c2⟩:=D.keep;have j:=zA (show NineC W w.heap.size bs bi gp x y z (.slice (some ⟨gp,0,none⟩) L.length Q) (i:Int) (i*4) p0 p1 p2 p3 from⟨Z,c1,c2,k hs,k hi,k l0,k l1,k l2,k l3⟩);have c:=zA o;generalize L.length=n at*;have a5:(i:Int)<(n:Int):=by omega
 have a3:(0:Int)<=(i:Int):=by omega
 clear hs hi hL U vp kp M O hx hm R l0 l1 l2 l3 D o k Z c1 c2;have X:∀d I,Calls zB 17 #[.agg #[jI jJ x,jI jJ y,jI jJ z]] (grow (redrawn W d) I) (fun e V=>e=.returned (.agg #[jI jJ q1,jI jJ q2,jI jJ q3,jI jJ q4])/\Gro (grow (redrawn W d) I) V):=fun d I=>f _;have Y:=fun d I=>Yk (q (grow (redrawn W d) I));have t:=zA X;have A:=zA Y;clear f q X Y;go_enter Tryz.func15,Tryz.ntmps15;go_upto_region 1 with fail
 rw[<-N];clear N;have g0:=cell_regrown j.out.a0;have g1:=cell_regrown j.out.a1;have g2:=cell_regrown j.out.a2;have g3:=cell_regrown j.out.s;have g4:=cell_regrown j.out.i;have g5:=cell_regrown j.out.b0;have g6:=cell_regrown j.out.b1;have g7:=cell_regrown j.out.b2;have g8:=cell_regrown j.out.b3;refine oF (fun k=>decide (k=6)) 7 10 5 (.cells #[jI jJ 0,jI jJ 0,jI jJ 0,jI jJ 0] 33) (by kernel_rfl) (by kernel_rfl) ⟨_,rfl,rfl,rfl,rfl,fun a W=>?_⟩ ?_
 ·simp[go_sem]
 ·repeat (refine DC (fun K r=>?_);go_simp;first|(refine r _ ?_;clear r K)|(apply Exists.intro;refine⟨fun _=>?_,r _ ?_⟩;(with_reducible exact t.out _ _);clear r K))
  refine O0 (by decide) (fun K r=>?_);go_simp
  refine⟨fun v=>∃x y z u:Int,v=.tuple #[.agg #[jI jJ x,jI jJ y,jI jJ z,jI jJ u],jI jJ (cond m 0 23)],fun _=>A.out _ _,?_⟩;rintro v ⟨x6,y6,z6,u6,rfl⟩;refine r _ ?_;clear r K g0 g1 g2 g3 g4 g5 g6 g7 g8 t A;refine⟨?_,?_⟩
  ·intro H J g E G;refine wpAny_take (i:=7) (v:=?_) rfl (by kernel_rfl) (by kernel_rfl) (by kernel_rfl) (fun _ _ _ h=>h) (Or.inl ⟨by rfl,?_⟩) ?_;rotate_left
   ·intro w;go_simp
    try (with_reducible rfl)
   refine wpAny_take (i:=8) (v:=?_) rfl (by kernel_rfl) (by kernel_rfl) (by kernel_rfl) (fun _ _ _ h=>h) (Or.inl ⟨by rfl,?_⟩) ?_;rotate_left
   ·intro w;go_simp
    try (with_reducible rfl)
   refine wpAny_take (i:=9) (v:=?_) rfl (by kernel_rfl) (by kernel_rfl) (by kernel_rfl) (fun _ _ _ h=>h) (Or.inl ⟨by rfl,?_⟩) ?_;rotate_left
   ·intro w;go_simp
    try (with_reducible rfl)
   refine lH (k:=11) (by kernel_rfl) (by kernel_rfl) ?_;simp only[yE,xK];obtain⟨⟨m0,m1,m2,m3⟩,m4,m5,m6,m7⟩:=B4.keep (show B4 J H 0 0 0 0 from G);have B:=zA (show Below w.heap.size w ((((J.setCell ⟨H,0,none⟩ (jI jJ x6)).setCell ⟨H,1,none⟩ (jI jJ y6)).setCell ⟨H,2,none⟩ (jI jJ z6)).setCell ⟨H,3,none⟩ (jI jJ u6))from Below.set4 (c.out.trans (g.mono c.out.size)) (zJ c.out.size E) _ _ _ _);clear g E G c j;cases m with
   |true=>
    go_wp2_with fail
    go_ret;exact⟨rfl,B.out⟩
   |false=>
    go_wp2_with fail
    go_ret;exact⟨rfl,B.out⟩
  ·intro J g;refine wpAny_take (i:=7) (v:=?_) rfl (by kernel_rfl) (by kernel_rfl) (by kernel_rfl) (fun _ _ _ h=>h) (Or.inl ⟨by rfl,?_⟩) ?_;rotate_left
   ·intro w;go_simp
    try (with_reducible rfl)
   refine wpAny_take (i:=8) (v:=?_) rfl (by kernel_rfl) (by kernel_rfl) (by kernel_rfl) (fun _ _ _ h=>h) (Or.inl ⟨by rfl,?_⟩) ?_;rotate_left
   ·intro w;go_simp
    try (with_reducible rfl)
   refine wpAny_take (i:=9) (v:=?_) rfl (by kernel_rfl) (by kernel_rfl) (by kernel_rfl) (fun _ _ _ h=>h) (Or.inl ⟨by rfl,?_⟩) ?_;rotate_left
   ·intro w;go_simp
    try (with_reducible rfl)
   refine lH (k:=10) (by kernel_rfl) (by kernel_rfl) ?_;simp only[yE,xK];have B:=zA (show Below w.heap.size w (J.alloc (.cells #[jI jJ x6,jI jJ y6,jI jJ z6,jI jJ u6] 33))from(c.out.trans (g.mono c.out.size)).alloc (zJ c.out.size g.size) _);clear g c j;cases m with
   |true=>
    go_wp2_with fail
    go_ret;exact⟨rfl,B.out⟩
   |false=>
    go_wp2_with fail
    go_ret;exact⟨rfl,B.out⟩
end
end
end Go.Proofs.YtlbklncoihhfcaaGreatDoor
