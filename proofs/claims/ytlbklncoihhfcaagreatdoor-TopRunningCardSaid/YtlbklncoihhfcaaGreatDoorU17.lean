/-
  Rhumb's whole meridional parts: the walk. Meridional parts, and the place that a rhumb line reaches: what each function gives. Moved cells (MvH); regions around a place hold each of its points..
-/
import Derived.Test.YtlbklncoihhfcaaGreatDoorU16
import Derived.Deep.QuietTactic
import Derived.Test.YtlbklncoihhfcaaGreatDoorU15
import Derived.Test.YtlbklncoihhfcaaGreatDoorU14
set_option maxRecDepth 100000
set_option maxHeartbeats 4000000
open Go.RowKit.Below renaming refl→zD
open _root_.Int renaming le_refl→zV,le_trans→aeX
open Go.Lib renaming hid→zA
open _root_.List renaming drop_succ_cons→yE,drop_zero→xK
open _root_.Nat renaming add_mod_right→aaQ,div_le_of_le_mul→yR,div_le_self→abX,div_mul_le_self→xL,le_refl→zC,le_trans→zJ,lt_of_le_of_lt→yJ,lt_or_ge→qJ,mod_eq_of_lt→zP,mul_assoc→qN,mul_comm→qH,mul_le_mul_left→qD,mul_le_mul_right→zR,mul_one→xF,pow_le_pow_right→yS,pow_succ→yT
open Go.Proofs.Tryz renaming prog→zB
open Go.IntKind (i64 u64)
open Go.Value renaming int→jI
open Go.IntKind renaming i64→jJ
open Go.IntKind renaming u64→jU
open Go.Obj renaming cells→jC
open Go.Value renaming agg→jA
namespace Go.Proofs.YtlbklncoihhfcaaGreatDoor
noncomputable section
section
open Go.RowKit
open Rh (iN xn)
attribute [local go_sem] Oper.semAt_some
theorem Iw{q U:Nat}(a:2*q<=aE)(b:U<bV):∀(f P t k:Nat),1<=k->P+2*t<=U->P<=DP f P t q k
 | 0,P,t,k,_,h=>by unfold DP;omega
 |f+1,P,t,k,e,h=>by
  unfold DP;split
  ·omega
  ·have c:=sV (t:=t) a;have d:t/k<=t:=abX _ _;rw[zP (show P+t/k<bV by omega),zP (show t*q/aE<bV by omega)];exact zJ (Nat.le_add_right _ _) (Iw a b f (P+t/k) (t*q/aE) (k+2) (by omega) (by omega))
theorem U6{z:Nat}(h:2*z<=aE):z<=wL z:=by
 unfold wL;have b:2*z<bV:=by unfold aE at h;unfold bV;omega
 rcases Nat.eq_zero_or_pos z with rfl|hz
 ·omega
 ·have a:=UD h;have c:=sV (t:=z) a;rw[show(300:Nat)=299+1 from rfl,DP,if_neg (by omega),Nat.div_one,Nat.zero_add,zP (show z<bV by omega),zP (show z*(z*z/aE)/aE<bV by omega)];exact Iw a b 299 z _ 3 (by omega) (by omega)
theorem NB.drewN{w:World}{b:Nat}{a c d e:Int}(h:NB w b a c d e):NB w.drew b a c d e:=h
theorem wC{w0 W w1:World}{k:Nat}{e f g i:Value}(h:(W.cell? ⟨k,0,none⟩=some e/\W.cell? ⟨k,1,none⟩=some f/\W.cell? ⟨k,2,none⟩=some g/\W.cell? ⟨k,3,none⟩=some i)/\Below w0.heap.size w0 W)(b:Below W.heap.size W w1):
  (w1.cell? ⟨k,0,none⟩=some e/\w1.cell? ⟨k,1,none⟩=some f/\w1.cell? ⟨k,2,none⟩=some g/\w1.cell? ⟨k,3,none⟩=some i)/\Below w0.heap.size w0 w1:=by
 obtain⟨⟨c,j,l,m⟩,d⟩:=h;have a:=World.block_lt_of_cell? W _ c;exact⟨⟨(b.cell (p:=⟨k,0,none⟩) a).trans c,(b.cell (p:=⟨k,1,none⟩) a).trans j,(b.cell (p:=⟨k,2,none⟩) a).trans l,(b.cell (p:=⟨k,3,none⟩) a).trans m⟩,d.trans (b.mono d.size)⟩
theorem Xt{w0 W:World}{k:Nat}{a b c d:Value}(h:(W.cell? ⟨k,0,none⟩=some a/\W.cell? ⟨k,1,none⟩=some b/\W.cell? ⟨k,2,none⟩=some c/\W.cell? ⟨k,3,none⟩=some d)/\Below w0.heap.size w0 W)(o:Obj):
  ((W.alloc o).cell? ⟨k,0,none⟩=some a/\(W.alloc o).cell? ⟨k,1,none⟩=some b/\(W.alloc o).cell? ⟨k,2,none⟩=some c/\(W.alloc o).cell? ⟨k,3,none⟩=some d)/\Below w0.heap.size w0 (W.alloc o):=wC h ((zD _ _).alloc (zC _) _)
theorem Ff{w0 W:World}{k:Nat}{a b c d:Value}(h:(W.cell? ⟨k,0,none⟩=some a/\W.cell? ⟨k,1,none⟩=some b/\W.cell? ⟨k,2,none⟩=some c/\W.cell? ⟨k,3,none⟩=some d)/\Below w0.heap.size w0 W):
  (W.drew.cell? ⟨k,0,none⟩=some a/\W.drew.cell? ⟨k,1,none⟩=some b/\W.drew.cell? ⟨k,2,none⟩=some c/\W.drew.cell? ⟨k,3,none⟩=some d)/\Below w0.heap.size w0 W.drew:=wC h (Below.drew (zD _ _))
theorem Xu{w0 W:World}{k b:Nat}{c d f g:Value}(q:k<w0.heap.size)(p:w0.heap.size<=b)(h:(W.cell? ⟨k,0,none⟩=some c/\W.cell? ⟨k,1,none⟩=some d/\W.cell? ⟨k,2,none⟩=some f/\W.cell? ⟨k,3,none⟩=some g)/\Below w0.heap.size w0 W)(off:Nat)(u:Value):
  ((W.setCell ⟨b,off,none⟩ u).cell? ⟨k,0,none⟩=some c/\(W.setCell ⟨b,off,none⟩ u).cell? ⟨k,1,none⟩=some d/\(W.setCell ⟨b,off,none⟩ u).cell? ⟨k,2,none⟩=some f/\(W.setCell ⟨b,off,none⟩ u).cell? ⟨k,3,none⟩=some g)/\Below w0.heap.size w0 (W.setCell ⟨b,off,none⟩ u):=by
 obtain⟨⟨i,j,l,m⟩,n⟩:=h;have a:b≠k:=by omega
 have e:∀o,(W.setCell ⟨b,off,none⟩ u).cell? ⟨k,o,none⟩=W.cell? ⟨k,o,none⟩:=fun o=>by
  simp[World.setCell,World.cell?,Array.getElem?_modify,a]
 exact⟨⟨(e 0).trans i,(e 1).trans j,(e 2).trans l,(e 3).trans m⟩,n.setCell p _⟩
theorem Qf{n:Nat}(c:n<=5340000){S:Nat}(b:Rh.iN 300 0 0 (xn n) (xn n*xn n/aE) 2=S):S+aE/131072<aE/\(aE+S)*aE/(aE-S)<262144*aE/\aE<=(aE+S)*aE/(aE-S):=by
 have h:=Rh.aDN c 298;rw[My]at h;have a:S+aE/131072<aE:=by rw[<-b];exact h
 refine⟨a,?_,?_⟩
 ·refine(Nat.div_lt_iff_lt_mul (by omega)).2 ?_;have e:aE=131072*(aE/131072):=by unfold aE;omega
  calc (aE+S)*aE<(2*aE)*aE:=Nat.mul_lt_mul_of_pos_right (by omega) (by unfold aE;omega)
   _=(2*aE)*(131072*(aE/131072)):=by rw[<-e]
   _=262144*aE*(aE/131072):=by generalize aE/131072=x;generalize aE=y;grind
   _<=262144*aE*(aE-S):=qD _ (by omega)
 ·refine(Nat.le_div_iff_mul_le (by omega)).2 ?_;rw[qH aE];exact zR _ (by omega)
def Qg:Nat->Nat->Nat->Nat×Nat
 | 0,u,k=>(u,k)
 |f+1,u,k=>if u<aE+aE/2 then(u,k) else Qg f (u/2) (k+1)
theorem aDp:∀(f U k:Nat),f+k=100->3*aE<=4*U->U*2^k<262144*aE->(k=0->aE<=U)->(Qg f U k).1<aE+aE/2/\3*aE<=4*(Qg f U k).1/\(Qg f U k).2<=20/\((Qg f U k).2=0->aE<=(Qg f U k).1):=by
 have d:∀U k:Nat,3*aE<=4*U->U*2^k<262144*aE->k<=20:=fun U k a b=>by
  rcases qJ 20 k with h|h
  ·exfalso;have c:2^20<=2^k:=yS (by omega) (by omega);have l:=qD U c;unfold aE at*;omega
  ·exact h
 intro f;induction f with
 |zero=>intro U k g a b _;have:=d U k a b;omega
 |succ f i=>
  intro U k g a b c;unfold Qg;split
  ·exact⟨by assumption,a,d U k a b,c⟩
  ·have e:aE=aE/4*4:=by unfold aE;omega
   have j:aE/2=aE/4*2:=by omega
   refine i (U/2) (k+1) (by omega) (by omega) ?_ (by omega);rw[yT,qH (2^k) 2,<-qN];exact yJ (zR _ (xL U 2)) b
structure WTail (Kf:Nat) (u0 u1 u2 u3:Int) (lb:Bool) (N:Nat) (t0 t1 t2 t3 e0 e1 e2 e3 g0 g1 g2 g3 m0 m1 m2 m3 d0 d1 d2 d3 z0 z1 z2 z3 y0 y1 y2 y3 x0 x1 x2 x3 k0 k1 k2 k3 o0 o1 o2 o3 p0 p1 p2 p3 q0 q1 q2 q3:Int):Prop where
 third:∀w,Calls zB 185 #[jA #[jI jU 0,jI jU 0,jI jU 0,jI jU 1],jI jU 3] w (GQ (jA #[jI jU t0,jI jU t1,jI jU t2,jI jU t3]) w)
 art:∀w,Calls zB 186 #[jA #[jI jU t0,jI jU t1,jI jU t2,jI jU t3]] w (GQ (jA #[jI jU e0,jI jU e1,jI jU e2,jI jU e3]) w)
 by_:∀w,Calls zB 187 #[jA #[jI jU e0,jI jU e1,jI jU e2,jI jU e3],jI jU ((2*Kf:Nat):Int)] w (GQ (jA #[jI jU g0,jI jU g1,jI jU g2,jI jU g3]) w)
 sum:∀w,Calls zB 180 #[jA #[jI jU u0,jI jU u1,jI jU u2,jI jU u3],jA #[jI jU 0,jI jU 0,jI jU 0,jI jU 1]] w (GQ (jA #[jI jU m0,jI jU m1,jI jU m2,jI jU m3]) w)
 less:∀w,Calls zB 184 #[jA #[jI jU u0,jI jU u1,jI jU u2,jI jU u3],jA #[jI jU 0,jI jU 0,jI jU 0,jI jU 1]] w (GQ (.bool lb) w)
 fd1:lb=true->∀w,Calls zB 182 #[jA #[jI jU 0,jI jU 0,jI jU 0,jI jU 1],jA #[jI jU u0,jI jU u1,jI jU u2,jI jU u3]] w (GQ (jA #[jI jU d0,jI jU d1,jI jU d2,jI jU d3]) w)
 fd2:lb=false->∀w,Calls zB 182 #[jA #[jI jU u0,jI jU u1,jI jU u2,jI jU u3],jA #[jI jU 0,jI jU 0,jI jU 0,jI jU 1]] w (GQ (jA #[jI jU d0,jI jU d1,jI jU d2,jI jU d3]) w)
 quo:∀w,Calls zB 181 #[jA #[jI jU d0,jI jU d1,jI jU d2,jI jU d3],jA #[jI jU m0,jI jU m1,jI jU m2,jI jU m3]] w (GQ (jA #[jI jU z0,jI jU z1,jI jU z2,jI jU z3]) w)
 arz:∀w,Calls zB 186 #[jA #[jI jU z0,jI jU z1,jI jU z2,jI jU z3]] w (GQ (jA #[jI jU y0,jI jU y1,jI jU y2,jI jU y3]) w)
 two:∀w,Calls zB 188 #[jA #[jI jU y0,jI jU y1,jI jU y2,jI jU y3]] w (GQ (jA #[jI jU x0,jI jU x1,jI jU x2,jI jU x3]) w)
 fl1:lb=true->∀w,Calls zB 182 #[jA #[jI jU g0,jI jU g1,jI jU g2,jI jU g3],jA #[jI jU x0,jI jU x1,jI jU x2,jI jU x3]] w (GQ (jA #[jI jU k0,jI jU k1,jI jU k2,jI jU k3]) w)
 fl2:lb=false->∀w,Calls zB 180 #[jA #[jI jU g0,jI jU g1,jI jU g2,jI jU g3],jA #[jI jU x0,jI jU x1,jI jU x2,jI jU x3]] w (GQ (jA #[jI jU k0,jI jU k1,jI jU k2,jI jU k3]) w)
 half:∀w,Calls zB 183 #[jA #[jI jU k0,jI jU k1,jI jU k2,jI jU k3]] w (GQ (jA #[jI jU o0,jI jU o1,jI jU o2,jI jU o3]) w)
 deg:∀w,Calls zB 187 #[jA #[jI jU o0,jI jU o1,jI jU o2,jI jU o3],jI jU 10800000] w (GQ (jA #[jI jU p0,jI jU p1,jI jU p2,jI jU p3]) w)
 rad:∀w,Calls zB 181 #[jA #[jI jU p0,jI jU p1,jI jU p2,jI jU p3],jA #[jI jU 11820040416388919760,jI jU 1376283091369227076,jI jU 2611923443488327891,jI jU 3]] w (GQ (jA #[jI jU q0,jI jU q1,jI jU q2,jI jU q3]) w)
 top:q3=(N:Int)/\N<=67108864
theorem Id{a b:Nat}{u0 u1 u2 u3:Int}(m:RN a u0 u1 u2 u3)(h1:a<aE+aE/2)(h2:3*aE<=4*a)(h3:b<=20)(h4:b=0->aE<=a):
  ∃lb N t0 t1 t2 t3 e0 e1 e2 e t u v x O Q R U l d1 d2 d3 z0 z1 z2 z3 y0 y1 y2 y3 x0 x1 x2 x3 I J K L X Y o2 o3 p0 p1 p2 p3 q0 q1 q2 q3,WTail b u0 u1 u2 u3 lb N t0 t1 t2 t3 e0 e1 e2 e t u v x O Q R U l d1 d2 d3 z0 z1 z2 z3 y0 y1 y2 y3 x0 x1 x2 x3 I J K L X Y o2 o3 p0 p1 p2 p3 q0 q1 q2 q3:=by
 have w0:1000<=aE:=by unfold aE;omega
 have wb:1000000000*aE<bV:=by unfold aE bV;omega
 have wl:aE=2*(aE/2):=by unfold aE;omega
 have a3:=GT (z:=aE/3) (by omega);have s:=U6 (z:=aE/3) (by omega);have w3:aE<3*(aE/3)+3:=by omega
 obtain⟨A,hA⟩:∃A,A=wL (aE/3):=⟨_,rfl⟩;rw[<-hA]at a3 s;have a2:A*(2*b)<=40*A:=by
  rw[qH];exact zR A (by omega)
 have H:b≠0->2*A<=A*(2*b):=fun G=>by
  rw[qH 2 A];exact qD A (by omega)
 obtain⟨t0,t1,t2,t3,rT⟩:=dA (aE/3) (by omega);obtain⟨e0,e1,e2,e,rE⟩:=dA A (by omega);obtain⟨t,u,v,x,p⟩:=dA (A*(2*b)) (by omega);obtain⟨O,Q,R,U,rM⟩:=dA (a+aE) (by omega);have M:∃D Z c:Nat,((a<aE->D=aE-a)/\(¬a<aE->D=a-aE))/\Z=D*aE/(a+aE)/\2*Z<=aE/\D<aE/\(a<aE->c=A*(2*b)-2*wL Z/\2*wL Z<=A*(2*b))/\(¬a<aE->c=A*(2*b)+2*wL Z)/\c<=30*aE:=by
  by_cases d:a<aE
  ·have hz:7*((aE-a)*aE/(a+aE))<=aE:=by
    have e1:4*(aE-a)<=aE:=by omega
    have e2:7*aE<=4*(a+aE):=by omega
    have e:=xL ((aE-a)*aE) (a+aE);generalize (aE-a)*aE/(a+aE)=Z at*;have e4:Z*(7*aE)<=Z*(4*(a+aE)):=qD _ e2;have e5:4*(aE-a)*aE<=aE*aE:=zR _ e1;have e6:7*Z*aE<=aE*aE:=by
     calc 7*Z*aE=Z*(7*aE):=by grind
      _<=Z*(4*(a+aE)):=e4
      _=4*(Z*(a+aE)):=by grind
      _<=4*((aE-a)*aE):=qD _ e
      _=4*(aE-a)*aE:=by grind
      _<=aE*aE:=e5
    exact Nat.le_of_mul_le_mul_right e6 (by omega)
   have ha:=GT (z:=(aE-a)*aE/(a+aE)) (by omega);have G:=H (fun G=>by have:=h4 G;omega);exact⟨aE-a,_,A*(2*b)-2*wL ((aE-a)*aE/(a+aE)),⟨fun _=>rfl,fun h=>absurd d h⟩,rfl,by omega,by omega,fun _=>⟨rfl,by omega⟩,fun h=>absurd d h,by omega⟩
  ·have hz:2*((a-aE)*aE/(a+aE))<=a-aE:=by
    have e:(a-aE)*aE/(a+aE)<=(a-aE)*aE/(2*aE):=Nat.div_le_div_left (by omega) (by omega);rw[Nat.mul_div_mul_right _ _ (by omega)]at e;omega
   have ha:=GT (z:=(a-aE)*aE/(a+aE)) (by omega);exact⟨a-aE,_,A*(2*b)+2*wL ((a-aE)*aE/(a+aE)),⟨fun h=>absurd h d,fun _=>rfl⟩,rfl,by omega,by omega,fun h=>absurd h d,fun _=>rfl,by omega⟩
 obtain⟨D,Z,c,⟨y,B⟩,hZ,i,a0,E,g,a1⟩:=M;have az:=GT i;obtain⟨l,d1,d2,d3,o⟩:=dA D (by omega);obtain⟨z0,z1,z2,z3,rZ⟩:=dA Z (by omega);obtain⟨y0,y1,y2,y3,rY⟩:=dA (wL Z) (by omega);obtain⟨x0,x1,x2,x3,r⟩:=dA (2*wL Z) (by omega);obtain⟨I,J,K,L,q⟩:=dA c (by omega);obtain⟨X,Y,o2,o3,rO⟩:=dA (c/2) (by omega);obtain⟨p0,p1,p2,p3,rP⟩:=dA (c/2*10800000) (by omega);have j:3*aE<=lE/\lE<4*aE:=by unfold lE aE;omega
 have hq:c/2*10800000*aE/lE<=54000000*aE:=by
  refine yR ?_;calc c/2*10800000*aE<=(162000000*aE)*aE:=zR _ (by omega)
   _=3*aE*(54000000*aE):=by grind
   _<=lE*(54000000*aE):=zR _ j.1
 obtain⟨q0,q1,q2,q3,f⟩:=dA (c/2*10800000*aE/lE) (by omega);have hD:RN D l d1 d2 d3:=o;have k:0<a+aE:=by omega
 refine⟨decide (a<aE),c/2*10800000*aE/lE/aE,t0,t1,t2,t3,e0,e1,e2,e,t,u,v,x,O,Q,R,U,l,d1,d2,d3,z0,z1,z2,z3,y0,y1,y2,y3,x0,x1,x2,x3,I,J,K,L,X,Y,o2,o3,p0,p1,p2,p3,q0,q1,q2,q3,?_⟩;refine⟨fun w=>uW (n:=3) mO rT (by omega) (by omega) rfl w,fun w=>Zx rT (by omega) rE hA.symm w,fun w=>D7 rE p (by omega) (zP p.lt) w,fun w=>tV m mO rM (zP rM.lt) w,fun w=>E6 m mO w,fun h w=>?_,fun h w=>?_,fun w=>?_,fun w=>Zx rZ i rY rfl w,fun w=>MW rY r (by rw[<-Nat.two_mul];exact zP r.lt) w,fun h w=>?_,fun h w=>?_,fun w=>TY q rO rfl w,fun w=>D7 (n:=10800000) rO rP (by omega) (zP rP.lt) w,fun w=>Gr rP aCb (by omega) j.2 f.lt f rfl w,?_,?_⟩
 ·have h:=of_decide_eq_true h;exact EU mO m o (by rw[y h,show aE+bV-a=(aE-a)+bV by omega,aaQ];exact zP (by omega)) w
 ·have h:=of_decide_eq_false h;exact EU m mO o (by rw[B h,show a+bV-aE=(a-aE)+bV by omega,aaQ];exact zP (by omega)) w
 ·exact Gr o rM k (by omega) (by rw[<-hZ];exact rZ.lt) rZ hZ.symm w
 ·have h:=of_decide_eq_true h;obtain⟨e1,e2⟩:=E h;exact EU p r q (by rw[e1,show A*(2*b)+bV-2*wL Z=(A*(2*b)-2*wL Z)+bV by omega,aaQ];exact zP (by omega)) w
 ·have h:=of_decide_eq_false h;exact tV p r q (by rw[g h];exact zP (by rw[<-g h];exact q.lt)) w
 ·have hn:=f.nm;obtain⟨⟨_,_⟩,⟨_,_⟩,⟨_,_⟩,⟨_,_⟩⟩:=And.intro f.w0 (And.intro f.w1 (And.intro f.w2 f.w3));generalize c/2*10800000*aE/lE=V at*;unfold num at hn;unfold aE;omega
 ·refine yR ?_;rw[qH aE];exact zJ hq (zR _ (by omega))
structure LnR (w:World) (F b4 b6:Nat) (Uf Kf:Nat) (v5:Value) (wr:World) (k:Nat):Prop where
 ix:v5=jI jU (k:Int)
 kb:k<=20
 bs:∃s0 s1 s2 s3,RN (aE+aE/2) s0 s1 s2 s3/\NB wr b6 s0 s1 s2 s3
 st:∃U u0 u1 u2 u3,RN U u0 u1 u2 u3/\NB wr b4 u0 u1 u2 u3/\Qg (F-k) U k=(Uf,Kf)/\(3*aE<=4*U/\U*2^k<262144*aE/\(k=0->aE<=U))
 bel:Below w.heap.size w wr
 lt:w.heap.size<=b4/\b4<b6
theorem MX {n:Nat} (hn:n<=5340000):∃N:Nat,N<=67108864/\∀w,Calls zB 127 #[jI jJ (n:Int)] w (GQ (jI jJ (N:Int)) w):=by
  obtain⟨S,hS⟩:∃S,Rh.iN 300 0 0 (xn n) (xn n*xn n/aE) 2=S:=⟨_,rfl⟩
  obtain⟨f1,f2,f3⟩:=Qf hn hS
  have t5:1000<=aE/131072:=by unfold aE;omega
  have t9:300000*aE<bV:=by unfold aE bV;omega
  have w9:aE/131072*131072=aE:=by unfold aE;omega
  obtain⟨s0,s1,s2,s3,rS⟩:=dA S (by omega)
  obtain⟨a0,a1,a2,a3,rA⟩:=dA (aE+S) (by omega)
  obtain⟨b0,b1,b2,b3,rB⟩:=dA (aE-S) (by omega)
  obtain⟨u0,u1,u2,u3,rU⟩:=dA ((aE+S)*aE/(aE-S)) (by omega)
  obtain⟨h0,h1,h2,h3,rH⟩:=dA (aE/2) (by omega)
  obtain⟨l0,l1,l2,l3,rL⟩:=dA (aE+aE/2) (by omega)
  have CS:=zA (fun w=>aDK hn rS hS w)
  have CU:=zA (fun w=>Mx w)
  have CA:=zA (fun w=>tV mO rS rA (zP rA.lt) w)
  have CB:=zA (fun w=>EU mO rS rB (by rw[show aE+bV-S=(aE-S)+bV by omega,aaQ];exact zP rB.lt) w)
  have CQ:=zA (fun w=>Gr rA rB (by omega) (by omega) rU.lt rU rfl w)
  have CH:=zA (fun w=>TY mO rH rfl w)
  have CL:=zA (fun w=>tV mO rH rL (zP rL.lt) w)
  clear rB rA rH
  generalize (aE+S)*aE/(aE-S)=U0 at*
  obtain⟨F,hF⟩:∃F:Nat,F=100:=⟨_,rfl⟩
  have p7:=aDp F U0 0 (by omega) (by omega) (by rw[Nat.pow_zero,xF];exact f2) (fun _=>f3)
  obtain⟨⟨Uf,Kf⟩,B⟩:∃r,Qg F U0 0=r:=⟨_,rfl⟩
  rw[B]at p7
  obtain⟨k1,k2,k3,k4⟩:=p7
  obtain⟨v0,v1,v2,v3,rV⟩:=dA Uf (by omega)
  obtain⟨lb,N,t0,t1,t2,t3,e0,e1,e2,e3,g0,g1,g2,g3,m0,m1,m2,m3,d0,d1,d2,d3,z0,z1,z2,z3,y0,y1,y2,y3,x0,x1,x2,x3,i0,i1,i2,i3,o0,o1,o2,o3,p0,p1,p2,p3,q0,q1,q2,q3,HW⟩:=Id rV k1 k2 k3 k4
  refine⟨N,HW.top.2,fun w=>?_⟩
  have d5:=zA (show(Qg (F-0) U0 0=(Uf,Kf))/\(3*aE<=4*U0/\U0*2^0<262144*aE/\(0=0->aE<=U0))from⟨B,by omega,by rw[Nat.pow_zero,xF];exact f2,fun _=>f3⟩)
  have g6:=zA hF
  have HK:=zA k3
  have r7:=zA rV
  have m8:=zA rU
  have m7:=zA rL
  have g:=zA HW
  clear HW
  clear hS f1 f2 f3 t5 t9 w9 rS rU rL B k1 k2 k3 k4 rV hn hF
  obtain⟨M,hM⟩:∃M:Int,M=(n:Int):=⟨_,rfl⟩
  rw[<-hM]at CS ⊢
  clear hM
  go_enter Tryz.func127,Tryz.ntmps127
  go_wp2_with fail
  refine(CS.out _).mono ?_
  rintro e w1 ⟨rfl,e8⟩
  obtain⟨D,e5⟩:∃D,D=w1.alloc (jC #[jI jU s0,jI jU s1,jI jU s2,jI jU s3] 211):=⟨_,rfl⟩
  have N2:=zA (show NB D w1.heap.size s0 s1 s2 s3 by rw[e5];exact heap_alloc_new w1 _)
  have B2:=zA (show Below w.heap.size w D by rw[e5];exact e8.alloc e8.size _)
  have L2:=zA e8.size
  clear e8
  go_upto_region 2 with fail
  rw[<-e5]
  obtain⟨L,O⟩:∃b,b=w1.heap.size:=⟨_,rfl⟩
  rw[<-O]at N2 L2 ⊢
  clear e5 O
  obtain⟨⟨c0,c1,c2,c3⟩,-⟩:=N2.out.keep
  have p5:=N2.out.lt
  have HX:=zA (show(D.cell? ⟨L,0,none⟩=some (jI jU s0)/\D.cell? ⟨L,1,none⟩=some (jI jU s1)/\D.cell? ⟨L,2,none⟩=some (jI jU s2)/\D.cell? ⟨L,3,none⟩=some (jI jU s3))/\Below D.heap.size D D from⟨⟨c0,c1,c2,c3⟩,zD _ _⟩)
  go_cut [4]from 12 to 18 (fun p4 wx=>∃v:Nat,p4=Value.pointer (some ⟨v,0,none⟩)/\D.heap.size<=v/\NB wx v u0 u1 u2 u3/\Below D.heap.size D wx)
  case first=>
    go_region_held3 (fun V=>(V.cell? ⟨L,0,none⟩=some (jI jU s0)/\V.cell? ⟨L,1,none⟩=some (jI jU s1)/\V.cell? ⟨L,2,none⟩=some (jI jU s2)/\V.cell? ⟨L,3,none⟩=some (jI jU s3))/\Below D.heap.size D V)
      (first
        |(repeat' first
            |(with_reducible exact HX.out)
            |(with_reducible exact SS.out)
            |(with_reducible refine Ff ?_)
            |(with_reducible refine Xt ?_ _)
            |(with_reducible refine Xu p5 (by omega) ?_ _ _))
        |fail)
      (first
        | (go_at_call 179
           with_reducible refine(CU.out _).mono ?_
           rintro e A ⟨rfl,a⟩
           have SS:=zA (wC (w1:=A) (by assumption) a)
           have d9:D.heap.size<=A.heap.size:=SS.out.2.size
           (first
             | (have c:=zA (NB.next (show NB _ _ 0 0 0 0 from heap_alloc_new _ (jC #[jI jU 0,jI jU 0,jI jU 0,jI jU 0] 211)) a)
                have t:=c.out.lt
                obtain⟨⟨i,j,l,m⟩,o,p,q,s⟩:=c.out.keep)
             | (have c:=zA (NB.next (NB.drewN (show NB _ _ 0 0 0 0 from heap_alloc_new _ (jC #[jI jU 0,jI jU 0,jI jU 0,jI jU 0] 211))) a)
                have t:=c.out.lt
                obtain⟨⟨i,j,l,m⟩,o,p,q,s⟩:=c.out.keep)
             | (have c:=zA (c.out.next a)
                have t:=c.out.lt
                obtain⟨⟨i,j,l,m⟩,o,p,q,s⟩:=c.out.keep)
             |skip))
        | (go_at_call 180
           with_reducible refine(CA.out _).mono ?_
           rintro e A ⟨rfl,a⟩
           have SS:=zA (wC (w1:=A) (by assumption) a)
           have d9:D.heap.size<=A.heap.size:=SS.out.2.size
           (first
             | (have c:=zA (NB.next (show NB _ _ 0 0 0 0 from heap_alloc_new _ (jC #[jI jU 0,jI jU 0,jI jU 0,jI jU 0] 211)) a)
                have t:=c.out.lt
                obtain⟨⟨i,j,l,m⟩,o,p,q,s⟩:=c.out.keep)
             | (have c:=zA (NB.next (NB.drewN (show NB _ _ 0 0 0 0 from heap_alloc_new _ (jC #[jI jU 0,jI jU 0,jI jU 0,jI jU 0] 211))) a)
                have t:=c.out.lt
                obtain⟨⟨i,j,l,m⟩,o,p,q,s⟩:=c.out.keep)
             | (have c:=zA (c.out.next a)
                have t:=c.out.lt
                obtain⟨⟨i,j,l,m⟩,o,p,q,s⟩:=c.out.keep)
             |skip))
        | (go_at_call 182
           with_reducible refine(CB.out _).mono ?_
           rintro e A ⟨rfl,a⟩
           have SS:=zA (wC (w1:=A) (by assumption) a)
           have d9:D.heap.size<=A.heap.size:=SS.out.2.size
           (first
             | (have c:=zA (NB.next (show NB _ _ 0 0 0 0 from heap_alloc_new _ (jC #[jI jU 0,jI jU 0,jI jU 0,jI jU 0] 211)) a)
                have t:=c.out.lt
                obtain⟨⟨i,j,l,m⟩,o,p,q,s⟩:=c.out.keep)
             | (have c:=zA (NB.next (NB.drewN (show NB _ _ 0 0 0 0 from heap_alloc_new _ (jC #[jI jU 0,jI jU 0,jI jU 0,jI jU 0] 211))) a)
                have t:=c.out.lt
                obtain⟨⟨i,j,l,m⟩,o,p,q,s⟩:=c.out.keep)
             | (have c:=zA (c.out.next a)
                have t:=c.out.lt
                obtain⟨⟨i,j,l,m⟩,o,p,q,s⟩:=c.out.keep)
             |skip))
        | (go_at_call 181
           with_reducible refine(CQ.out _).mono ?_
           rintro e A ⟨rfl,a⟩
           have SS:=zA (wC (w1:=A) (by assumption) a)
           have d9:D.heap.size<=A.heap.size:=SS.out.2.size
           (first
             | (have c:=zA (NB.next (show NB _ _ 0 0 0 0 from heap_alloc_new _ (jC #[jI jU 0,jI jU 0,jI jU 0,jI jU 0] 211)) a)
                have t:=c.out.lt
                obtain⟨⟨i,j,l,m⟩,o,p,q,s⟩:=c.out.keep)
             | (have c:=zA (NB.next (NB.drewN (show NB _ _ 0 0 0 0 from heap_alloc_new _ (jC #[jI jU 0,jI jU 0,jI jU 0,jI jU 0] 211))) a)
                have t:=c.out.lt
                obtain⟨⟨i,j,l,m⟩,o,p,q,s⟩:=c.out.keep)
             | (have c:=zA (c.out.next a)
                have t:=c.out.lt
                obtain⟨⟨i,j,l,m⟩,o,p,q,s⟩:=c.out.keep)
             |skip))
        |fail)
    all_goals (
      go_wp2_with fail
      go_meet
      first
        |exact⟨_,rfl,by omega,c.out.set u0 u1 u2 u3,fA SS.out.2 (by omega) u0 u1 u2 u3⟩
        |exact⟨_,rfl,by omega,heap_alloc_new _ _,SS.out.2.alloc SS.out.2.size _⟩)
  case rest=>
    obtain⟨v,rfl,Q,n4,e9⟩:=hcut
    have N4:=zA n4
    have f7:=zA (B2.out.trans (e9.mono B2.out.size))
    have m6:=zA (show w.heap.size<=v from zJ B2.out.size Q)
    clear n4 e9 HX c0 c1 c2 c3 p5 N2 B2 L2 Q
    go_wp2_with fail
    refine(CU.out _).mono ?_
    rintro e w5 ⟨rfl,G⟩
    have N5:=zA (N4.out.next G)
    have f8:=zA (f7.out.trans (G.mono f7.out.size))
    clear G N4 f7
    go_wp2_with fail
    refine(CU.out _).mono ?_
    rintro e A ⟨rfl,a⟩
    have N6:=zA (N5.out.next a)
    have f9:=zA (f8.out.trans (a.mono f8.out.size))
    clear a N5 f8
    go_wp2_with fail
    refine(CH.out _).mono ?_
    rintro e w7 ⟨rfl,k8⟩
    have N7:=zA (N6.out.next k8)
    have g4:=zA (f9.out.trans (k8.mono f9.out.size))
    clear k8 N6 f9
    go_wp2_with fail
    refine(CL.out _).mono ?_
    rintro e w8 ⟨rfl,c8⟩
    have N8:=zA (N7.out.next c8)
    have g5:=zA (g4.out.trans (c8.mono g4.out.size))
    clear c8 N7 g4
    obtain⟨W9,X⟩:∃W9,W9=w8.alloc (jC #[jI jU l0,jI jU l1,jI jU l2,jI jU l3] 211):=⟨_,rfl⟩
    have y:Below w8.heap.size w8 W9:=by rw[X];exact(zD _ _).alloc (zC _) _
    have L9:=zA (show NB W9 w8.heap.size l0 l1 l2 l3 by rw[X];exact heap_alloc_new w8 _)
    have N9:=zA (N8.out.next y)
    have e4:=zA (g5.out.trans (y.mono g5.out.size))
    have K:=zA (show w.heap.size<=v/\v<w8.heap.size from⟨m6.out,N8.out.lt⟩)
    clear y N8 g5 m6
    go_upto_block 0 with fail
    rw[<-X]
    obtain⟨b6,a⟩:∃b,b=w8.heap.size:=⟨_,rfl⟩
    rw[<-a]at L9 K ⊢
    clear X a CU CA CB CQ CH CL CS
    have CU:=zA (fun w=>Mx w)
    have c6:=zA (show LnR w F v b6 Uf Kf (jI jU 0) W9 0 from⟨rfl,by omega,⟨_,_,_,_,m7.out,L9.out⟩,⟨_,_,_,_,_,m8.out,N9.out,d5.out.1,⟨d5.out.2.1,d5.out.2.2.1,fun _=>d5.out.2.2.2 (by simp)⟩⟩,e4.out,K.out⟩)
    clear d5 m7 m8 e4 L9 N9 K
    go_wp2_with fail
    go_loopw [5] (fun v5 wr=>∃k,LnR w F v b6 Uf Kf v5 wr k) (fun v5 _=>1000-L8 v5)
    case atStart=>exact⟨0,c6.out⟩
    case round=>
      clear c6
      obtain⟨k,rfl,n7,⟨l0,l1,l2,l3,hL,bl⟩,⟨U,u0,u1,u2,u3,hU,bu,B,h3,h4,h5⟩,hb,b5,b7⟩:=hrel
      have hF:=g6.out
      obtain⟨⟨a0,a1,a2,a3⟩,a4,a5,a6,a7⟩:=bu.keep
      obtain⟨⟨c0,c1,c2,c3⟩,-⟩:=bl.keep
      have c5:=zA (fun w=>E6 hU hL w)
      obtain⟨f,hf⟩:∃f,F-k=f+1:=⟨F-k-1,by omega⟩
      rw[hf]at B
      by_cases c9:U<aE+aE/2
      · rw [decide_eq_true c9]at c5
        rw[Qg,if_pos c9]at B
        cases B
        have r8:Value.agg #[jI jU u0,jI jU u1,jI jU u2,jI jU u3]=jA #[jI jU v0,jI jU v1,jI jU v2,jI jU v3]:=by rw[<-hU.eq,<-r7.out.eq]
        cases r8
        have BU:=zA bu
        have HB:=zA hb
        have K:=zA (And.intro b5 b7)
        obtain⟨Z,c7⟩:∃Z:Int,Z=(Kf:Int):=⟨_,rfl⟩
        have n8:0<=Z:=by omega
        have o4:Z<=20:=by omega
        have m9:((2*Kf:Nat):Int)=2*Z:=by omega
        have q7:=zA (by have:=g.out.by_;rw[m9]at this;exact this)
        have wk:u64.wrap (2*Z)=2*Z:=bG _ (by omega) (by omega)
        have r4:=zA g.out.third
        have q6:=zA g.out.art
        have m5:=zA g.out.sum
        have m4:=zA g.out.less
        rw[<-c7]
        clear n7 hL bl hU bu h3 h4 h5 hb b5 b7 hF hf c9 c7 m9
        go_wp2_with fail
        refine(c5.out _).mono ?_
        rintro e wa ⟨rfl,R⟩
        have N1:=zA (BU.out.next R)
        have B1:=zA (HB.out.trans (R.mono HB.out.size))
        clear R BU HB a0 a1 a2 a3 a4 a5 a6 a7 c0 c1 c2 c3 c5
        go_wp2_with fail
        refine(CU.out _).mono ?_
        rintro e wb ⟨rfl,H⟩
        have N2:=zA (N1.out.next H)
        have B2:=zA (B1.out.trans (H.mono B1.out.size))
        clear H N1 B1
        go_wp2_with fail
        refine(r4.out _).mono ?_
        rintro e wc ⟨rfl,k9⟩
        have N3:=zA (N2.out.next k9)
        have B3:=zA (B2.out.trans (k9.mono B2.out.size))
        clear k9 N2 B2
        obtain⟨W7,e6⟩:∃W7,W7=wc.alloc (jC #[jI jU t0,jI jU t1,jI jU t2,jI jU t3] 211):=⟨_,rfl⟩
        have y:Below wc.heap.size wc W7:=by rw[e6];exact(zD _ _).alloc (zC _) _
        have T7:=zA (show NB W7 wc.heap.size t0 t1 t2 t3 by rw[e6];exact heap_alloc_new wc _)
        have N7:=zA (N3.out.next y)
        have B7:=zA (B3.out.trans (y.mono B3.out.size))
        clear y N3 B3
        go_upto_region 9 with fail
        rw[<-e6]
        clear e6
        obtain⟨⟨c0,c1,c2,c3⟩,-⟩:=T7.out.keep
        go_wp2_with fail
        refine(q6.out _).mono ?_
        rintro e wd ⟨rfl,l4⟩
        have N8:=zA (N7.out.next l4)
        have B8:=zA (B7.out.trans (l4.mono B7.out.size))
        clear l4 T7 N7 B7 c0 c1 c2 c3
        go_wp2_with fail
        refine(q7.out _).mono ?_
        rintro e we ⟨rfl,l5⟩
        have N9:=zA (N8.out.next l5)
        have B9:=zA (B8.out.trans (l5.mono B8.out.size))
        clear l5 N8 B8
        obtain⟨I,e7⟩:∃I,I=we.alloc (jC #[jI jU g0,jI jU g1,jI jU g2,jI jU g3] 211):=⟨_,rfl⟩
        have y:Below we.heap.size we I:=by rw[e7];exact(zD _ _).alloc (zC _) _
        have GX:=zA (show NB I we.heap.size g0 g1 g2 g3 by rw[e7];exact heap_alloc_new we _)
        have NX:=zA (N9.out.next y)
        have BX:=zA (B9.out.trans (y.mono B9.out.size))
        have LX:=zA (show w.heap.size<=we.heap.size/\v<we.heap.size from⟨B9.out.size,N9.out.lt⟩)
        clear y N9 B9
        go_upto_region 10 with fail
        rw[<-e7]
        obtain⟨b8,c8⟩:∃b,b=we.heap.size:=⟨_,rfl⟩
        rw[<-c8]at GX LX ⊢
        clear e7 c8
        have p6:=NX.out.lt
        obtain⟨⟨c0,c1,c2,c3⟩,-⟩:=NX.out.keep
        have HX:=zA (show(I.cell? ⟨v,0,none⟩=some (jI jU v0)/\I.cell? ⟨v,1,none⟩=some (jI jU v1)/\I.cell? ⟨v,2,none⟩=some (jI jU v2)/\I.cell? ⟨v,3,none⟩=some (jI jU v3))/\Below I.heap.size I I from⟨⟨c0,c1,c2,c3⟩,zD _ _⟩)
        go_cut [9]from 38 to 40 (fun p9 wx=>∃b9:Nat,p9=Value.pointer (some ⟨b9,0,none⟩)/\I.heap.size<=b9/\NB wx b9 m0 m1 m2 m3/\Below I.heap.size I wx)
        case first=>
          go_region_held3 (fun V=>(V.cell? ⟨v,0,none⟩=some (jI jU v0)/\V.cell? ⟨v,1,none⟩=some (jI jU v1)/\V.cell? ⟨v,2,none⟩=some (jI jU v2)/\V.cell? ⟨v,3,none⟩=some (jI jU v3))/\Below I.heap.size I V)
            (first
          |(repeat' first
              |(with_reducible exact HX.out)
              |(with_reducible exact SS.out)
              |(with_reducible refine Ff ?_)
              |(with_reducible refine Xt ?_ _)
              |(with_reducible refine Xu p6 (by omega) ?_ _ _))
          |fail)
            (first
              | (go_at_call 179
                 with_reducible refine(CU.out _).mono ?_
                 rintro e A ⟨rfl,a⟩
                 have SS:=zA (wC (w1:=A) (by assumption) a)
                 have d9:I.heap.size<=A.heap.size:=SS.out.2.size
                 (first
                   | (have c:=zA (NB.next (show NB _ _ 0 0 0 0 from heap_alloc_new _ (jC #[jI jU 0,jI jU 0,jI jU 0,jI jU 0] 211)) a)
                      have t:=c.out.lt
                      obtain⟨⟨i,j,l,m⟩,o,p,q,s⟩:=c.out.keep)
                   | (have c:=zA (NB.next (NB.drewN (show NB _ _ 0 0 0 0 from heap_alloc_new _ (jC #[jI jU 0,jI jU 0,jI jU 0,jI jU 0] 211))) a)
                      have t:=c.out.lt
                      obtain⟨⟨i,j,l,m⟩,o,p,q,s⟩:=c.out.keep)
                   | (have c:=zA (c.out.next a)
                      have t:=c.out.lt
                      obtain⟨⟨i,j,l,m⟩,o,p,q,s⟩:=c.out.keep)
                   |skip))
              | (go_at_call 180
                 with_reducible refine(m5.out _).mono ?_
                 rintro e A ⟨rfl,a⟩
                 have SS:=zA (wC (w1:=A) (by assumption) a)
                 have d9:I.heap.size<=A.heap.size:=SS.out.2.size
                 (first
                   | (have c:=zA (NB.next (show NB _ _ 0 0 0 0 from heap_alloc_new _ (jC #[jI jU 0,jI jU 0,jI jU 0,jI jU 0] 211)) a)
                      have t:=c.out.lt
                      obtain⟨⟨i,j,l,m⟩,o,p,q,s⟩:=c.out.keep)
                   | (have c:=zA (NB.next (NB.drewN (show NB _ _ 0 0 0 0 from heap_alloc_new _ (jC #[jI jU 0,jI jU 0,jI jU 0,jI jU 0] 211))) a)
                      have t:=c.out.lt
                      obtain⟨⟨i,j,l,m⟩,o,p,q,s⟩:=c.out.keep)
                   | (have c:=zA (c.out.next a)
                      have t:=c.out.lt
                      obtain⟨⟨i,j,l,m⟩,o,p,q,s⟩:=c.out.keep)
                   |skip))
              |fail)
          all_goals (
            go_wp2_with fail
            go_meet
            first
              |exact⟨_,rfl,by omega,c.out.set m0 m1 m2 m3,fA SS.out.2 (by omega) m0 m1 m2 m3⟩
              |exact⟨_,rfl,by omega,heap_alloc_new _ _,SS.out.2.alloc SS.out.2.size _⟩)
        case rest=>
          obtain⟨b9,rfl,n5,n9,a9⟩:=hcut
          obtain⟨WY,s4⟩:∃x,x=wc:=⟨_,rfl⟩
          subst s4
          have MY:=zA n9
          have NY:=zA (NX.out.next a9)
          have GY:=zA (GX.out.next a9)
          have BY:=zA (BX.out.trans (a9.mono BX.out.size))
          have LY:=zA (show b8<b9 from Nat.lt_of_lt_of_le GX.out.lt n5)
          clear n9 a9 NX GX BX HX c0 c1 c2 c3 p6 n5 m5
          obtain⟨⟨c0,c1,c2,c3⟩,-⟩:=NY.out.keep
          have HX:=zA (show(WY.cell? ⟨v,0,none⟩=some (jI jU v0)/\WY.cell? ⟨v,1,none⟩=some (jI jU v1)/\WY.cell? ⟨v,2,none⟩=some (jI jU v2)/\WY.cell? ⟨v,3,none⟩=some (jI jU v3))/\Below WY.heap.size WY WY from⟨⟨c0,c1,c2,c3⟩,zD _ _⟩)
          go_upto_region 11 with fail
          go_region_held3 (fun V=>(V.cell? ⟨v,0,none⟩=some (jI jU v0)/\V.cell? ⟨v,1,none⟩=some (jI jU v1)/\V.cell? ⟨v,2,none⟩=some (jI jU v2)/\V.cell? ⟨v,3,none⟩=some (jI jU v3))/\Below WY.heap.size WY V)
            (first
              |(repeat' first
                  |(with_reducible exact HX.out)
                  |(with_reducible exact SS.out)
                  |(with_reducible refine Ff ?_))
              |fail)
            (first
              | (go_at_call 179
                 with_reducible refine(CU.out _).mono ?_
                 rintro e A ⟨rfl,a⟩
                 have SS:=zA (wC (w1:=A) (by assumption) a))
              | (go_at_call 184
                 with_reducible refine(m4.out _).mono ?_
                 rintro e A ⟨rfl,a⟩
                 have SS:=zA (wC (w1:=A) (by assumption) a))
              |fail)
          obtain⟨J,s5⟩:∃x,x=A:=⟨_,rfl⟩
          subst s5
          have NZ:=zA (NY.out.next SS.out.2)
          have GZ:=zA (GY.out.next SS.out.2)
          have MZ:=zA (MY.out.next SS.out.2)
          have BZ:=zA (BY.out.trans (SS.out.2.mono BY.out.size))
          clear SS HX c0 c1 c2 c3 NY GY MY BY m4
          cases lb with
          |true=>
            have CD:=g.out.fd1 rfl
            have CZ:=g.out.quo
            have CY:=g.out.arz
            have CX:=g.out.two
            have CK:=g.out.fl1 rfl
            have D1:=fun d z=>Calls.regrown_of (CU.out (Go.Sort.grow (redrawn J d) z))
            have D2:=fun d z=>Calls.regrown_of (CD (Go.Sort.grow (redrawn J d) z))
            have D3:=fun d z=>Calls.regrown_of (CZ (Go.Sort.grow (redrawn J d) z))
            have D4:=fun d z=>Calls.regrown_of (CY (Go.Sort.grow (redrawn J d) z))
            have D5:=fun d z=>Calls.regrown_of (CX (Go.Sort.grow (redrawn J d) z))
            have D6:=fun d z=>Calls.regrown_of (CK (Go.Sort.grow (redrawn J d) z))
            clear CD CZ CY CX CK
            obtain⟨⟨n0,n1,n2,n3⟩,-⟩:=NZ.out.keep
            obtain⟨⟨j0,j1,j2,j3⟩,-⟩:=GZ.out.keep
            obtain⟨⟨r0,r1,r2,r3⟩,-⟩:=MZ.out.keep
            go_upto_region 12 with fail
            have i5:=cell_regrown n0
            have i6:=cell_regrown n1
            have i7:=cell_regrown n2
            have j4:=cell_regrown n3
            have g7:=cell_regrown j0
            have g8:=cell_regrown j1
            have g9:=cell_regrown j2
            have i4:=cell_regrown j3
            have k0:=cell_regrown r0
            have k5:=cell_regrown r1
            have gr2:=cell_regrown r2
            have k6:=cell_regrown r3
            refine oG 9 (by kernel_rfl) (by kernel_rfl) ?_
            repeat (quiet_step (first|(with_reducible exact D1 _ _)|(with_reducible exact D2 _ _)|(with_reducible exact D3 _ _)|(with_reducible exact D4 _ _)|(with_reducible exact D5 _ _)|(with_reducible exact D6 _ _)))
            refine wpQuiet_nil ?_
            rintro wg ⟨⟨dq,osq⟩,d8⟩
            have Y:Below J.heap.size J wg:=by rw[d8];exact below_regrown J dq osq
            clear d8 i5 i6 i7 j4 g7 g8 g9 i4 k0 k5 gr2 k6 n0 n1 n2 n3 j0 j1 j2 j3 r0 r1 r2 r3 D1 D2 D3 D4 D5 D6
            have G6:=GZ.out.next Y
            obtain⟨-,l6,l7,l8,l9⟩:=G6.keep
            obtain⟨⟨j0,j1,j2,j3⟩,-⟩:=G6.keep
            have GF:=zA (G6.set i0 i1 i2 i3)
            have BF:=zA (fA (BZ.out.trans (Y.mono BZ.out.size)) (show w.heap.size<=b8 by have:=LX.out.1;omega) i0 i1 i2 i3)
            obtain⟨WF,E⟩:∃WF,WF=UF wg b8 i0 i1 i2 i3:=⟨_,rfl⟩
            rw[<-E]at GF BF
            unfold UF at E
            clear Y G6 NZ GZ MZ BZ
            have c4:=zA g.out.half
            have f4:=zA g.out.deg
            have f6:=zA g.out.rad
            have f5:=zA (fun w=>E9 w)
            have d7:=g.out.top.1
            have hN:=g.out.top.2
            simp only[yE,xK]
            go_upto_region 14 with fail
            rw[<-E]
            clear E l6 l7 l8 l9 j0 j1 j2 j3
            obtain⟨⟨j0,j1,j2,j3⟩,-⟩:=GF.out.keep
            go_wp2_with fail
            refine(c4.out _).mono ?_
            rintro e w2 ⟨rfl,d6⟩
            have B2:=zA (BF.out.trans (d6.mono BF.out.size))
            clear d6 GF BF j0 j1 j2 j3
            go_wp2_with fail
            refine(f4.out _).mono ?_
            rintro e w3 ⟨rfl,O⟩
            have B3:=zA (B2.out.trans (O.mono B2.out.size))
            clear O B2
            go_wp2_with fail
            refine(f5.out _).mono ?_
            rintro e w4 ⟨rfl,Q⟩
            have B4:=zA (B3.out.trans (Q.mono B3.out.size))
            clear Q B3
            go_wp2_with fail
            refine(f6.out _).mono ?_
            rintro e w5 ⟨rfl,G⟩
            have B5:=zA (B4.out.trans (G.mono B4.out.size))
            have s6:i64.wrap q3=q3:=by rw[IntKind.wrap_i64];omega
            have HQ:=zA d7
            clear G B4 d7 hN
            have s7:∀W:World,(Instr.index 211 (jA #[jI jU q0,jI jU q1,jI jU q2,jI jU q3]) (jI jJ 3)).run zB W=.ok (jI jU q3) W:=fun W=>by
              have u:=Tryz.underlying209
              have a3:=Tryz.isAgg209
              have z3:=Tryz.sizeOf209
              simp[Instr.index,run_underlying Tryz.underlying211,asIntOf,go_sem]
            go_wp2_with fail
            go_ret
            exact⟨by rw[HQ.out];rfl,B5.out⟩
          |false=>
            have CD:=g.out.fd2 rfl
            have CZ:=g.out.quo
            have CY:=g.out.arz
            have CX:=g.out.two
            have CK:=g.out.fl2 rfl
            have D1:=fun d z=>Calls.regrown_of (CU.out (Go.Sort.grow (redrawn J d) z))
            have D2:=fun d z=>Calls.regrown_of (CD (Go.Sort.grow (redrawn J d) z))
            have D3:=fun d z=>Calls.regrown_of (CZ (Go.Sort.grow (redrawn J d) z))
            have D4:=fun d z=>Calls.regrown_of (CY (Go.Sort.grow (redrawn J d) z))
            have D5:=fun d z=>Calls.regrown_of (CX (Go.Sort.grow (redrawn J d) z))
            have D6:=fun d z=>Calls.regrown_of (CK (Go.Sort.grow (redrawn J d) z))
            clear CD CZ CY CX CK
            obtain⟨⟨n0,n1,n2,n3⟩,-⟩:=NZ.out.keep
            obtain⟨⟨j0,j1,j2,j3⟩,-⟩:=GZ.out.keep
            obtain⟨⟨r0,r1,r2,r3⟩,-⟩:=MZ.out.keep
            go_upto_region 13 with fail
            have i5:=cell_regrown n0
            have i6:=cell_regrown n1
            have i7:=cell_regrown n2
            have j4:=cell_regrown n3
            have g7:=cell_regrown j0
            have g8:=cell_regrown j1
            have g9:=cell_regrown j2
            have i4:=cell_regrown j3
            have k0:=cell_regrown r0
            have k5:=cell_regrown r1
            have gr2:=cell_regrown r2
            have k6:=cell_regrown r3
            refine oG 9 (by kernel_rfl) (by kernel_rfl) ?_
            repeat (quiet_step (first|(with_reducible exact D1 _ _)|(with_reducible exact D2 _ _)|(with_reducible exact D3 _ _)|(with_reducible exact D4 _ _)|(with_reducible exact D5 _ _)|(with_reducible exact D6 _ _)))
            refine wpQuiet_nil ?_
            rintro wg ⟨⟨dq,osq⟩,d8⟩
            have Y:Below J.heap.size J wg:=by rw[d8];exact below_regrown J dq osq
            clear d8 i5 i6 i7 j4 g7 g8 g9 i4 k0 k5 gr2 k6 n0 n1 n2 n3 j0 j1 j2 j3 r0 r1 r2 r3 D1 D2 D3 D4 D5 D6
            have G6:=GZ.out.next Y
            obtain⟨-,l6,l7,l8,l9⟩:=G6.keep
            obtain⟨⟨j0,j1,j2,j3⟩,-⟩:=G6.keep
            have GF:=zA (G6.set i0 i1 i2 i3)
            have BF:=zA (fA (BZ.out.trans (Y.mono BZ.out.size)) (show w.heap.size<=b8 by have:=LX.out.1;omega) i0 i1 i2 i3)
            obtain⟨WF,E⟩:∃WF,WF=UF wg b8 i0 i1 i2 i3:=⟨_,rfl⟩
            rw[<-E]at GF BF
            unfold UF at E
            clear Y G6 NZ GZ MZ BZ
            have c4:=zA g.out.half
            have f4:=zA g.out.deg
            have f6:=zA g.out.rad
            have f5:=zA (fun w=>E9 w)
            have d7:=g.out.top.1
            have hN:=g.out.top.2
            simp only[yE,xK]
            go_upto_region 14 with fail
            rw[<-E]
            clear E l6 l7 l8 l9 j0 j1 j2 j3
            obtain⟨⟨j0,j1,j2,j3⟩,-⟩:=GF.out.keep
            go_wp2_with fail
            refine(c4.out _).mono ?_
            rintro e w2 ⟨rfl,d6⟩
            have B2:=zA (BF.out.trans (d6.mono BF.out.size))
            clear d6 GF BF j0 j1 j2 j3
            go_wp2_with fail
            refine(f4.out _).mono ?_
            rintro e w3 ⟨rfl,O⟩
            have B3:=zA (B2.out.trans (O.mono B2.out.size))
            clear O B2
            go_wp2_with fail
            refine(f5.out _).mono ?_
            rintro e w4 ⟨rfl,Q⟩
            have B4:=zA (B3.out.trans (Q.mono B3.out.size))
            clear Q B3
            go_wp2_with fail
            refine(f6.out _).mono ?_
            rintro e w5 ⟨rfl,G⟩
            have B5:=zA (B4.out.trans (G.mono B4.out.size))
            have s6:i64.wrap q3=q3:=by rw[IntKind.wrap_i64];omega
            have HQ:=zA d7
            clear G B4 d7 hN
            have s7:∀W:World,(Instr.index 211 (jA #[jI jU q0,jI jU q1,jI jU q2,jI jU q3]) (jI jJ 3)).run zB W=.ok (jI jU q3) W:=fun W=>by
              have u:=Tryz.underlying209
              have a3:=Tryz.isAgg209
              have z3:=Tryz.sizeOf209
              simp[Instr.index,run_underlying Tryz.underlying211,asIntOf,go_sem]
            go_wp2_with fail
            go_ret
            exact⟨by rw[HQ.out];rfl,B5.out⟩
      · rw [decide_eq_false c9]at c5
        rw[Qg,if_neg c9]at B
        obtain⟨n0,n1,n2,n3,hN⟩:=dA (U/2) (yJ (abX _ _) hU.lt)
        have c4:=zA (fun w=>TY hU hN rfl w)
        have r9:aE=aE/4*4:=by unfold aE;omega
        have f0:Qg (F-(k+1)) (U/2) (k+1)=(Uf,Kf):=by rw[show F-(k+1)=f by omega];exact B
        have p8:U/2*2^(k+1)<262144*aE:=by
          rw[yT,qH (2^k) 2,<-qN]
          exact yJ (zR _ (xL U 2)) h4
        have q4:3*aE<=4*(U/2):=by omega
        have n6:k+1<=20:=by
          rcases qJ 20 (k+1)with h|h
          · exfalso
            have h8:2^20<=2^(k+1):=yS (by omega) (by omega)
            have h9:=qD (U/2) h8
            unfold aE at*
            omega
          · exact h
        have c6:=zA (And.intro f0 (And.intro q4 p8))
        have HN:=zA hN
        have HL:=zA hL
        have BU:=zA bu
        have BL:=zA bl
        have HB:=zA hb
        have K:=zA (And.intro b5 b7)
        have r5:=zA n6
        obtain⟨Z,c7⟩:∃Z:Int,Z=(k:Int):=⟨_,rfl⟩
        have n8:0<=Z:=by omega
        have o4:Z<=20:=by omega
        have wk:u64.wrap (Z+1)=Z+1:=bG _ (by omega) (by omega)
        rw[<-c7]
        have r6:=zA c7
        clear B n7 hL bl hU bu h3 h4 h5 hb b5 b7 hF hf c9 c7 hN r9 f0 p8 q4 n6 g
        go_wp2_with fail
        refine(c5.out _).mono ?_
        rintro e wa ⟨rfl,R⟩
        have N1:=zA (BU.out.next R)
        have L1:=zA (BL.out.next R)
        have B1:=zA (HB.out.trans (R.mono HB.out.size))
        clear R BU BL HB a0 a1 a2 a3 a4 a5 a6 a7 c0 c1 c2 c3 c5
        obtain⟨⟨a0,a1,a2,a3⟩,a4,a5,a6,a7⟩:=N1.out.keep
        go_wp2_with fail
        refine(c4.out _).mono ?_
        rintro e wb ⟨rfl,H⟩
        obtain⟨W9,X,N9,O9,B9⟩:=pY wb _ (N1.out.next H) n0 n1 n2 n3
        have L9:=zA (O9 _ _ _ _ _ (by have:=K.out.2;omega) (L1.out.next H))
        have N9:=zA N9
        have e4:=zA (B9 _ _ (B1.out.trans (H.mono B1.out.size)) K.out.1)
        obtain⟨⟨x0,x1,x2,x3⟩,x4,x5,x6,x7⟩:=(N1.out.next H).keep
        clear H O9 B9 N1 L1 B1 a0 a1 a2 a3 a4 a5 a6 a7 c4
        go_upto_region 7 with fail
        rw[<-X]
        clear X x0 x1 x2 x3 x4 x5 x6 x7
        go_wp2_with fail
        go_roundw
        case rel=>exact⟨k+1,by have:=r6.out;congr 1;omega,r5.out,⟨_,_,_,_,HL.out,L9.out⟩,⟨_,_,_,_,_,HN.out,N9.out,c6.out.1,c6.out.2.1,c6.out.2.2,fun h=>by omega⟩,e4.out,K.out⟩
        case measure=>simp only[L8];omega
end
section
open Ev
open Ev (Gl)
open Ev (lt)
def Zm(n:Nat):Nat:=if h:n<=5340000 then(MX h).choose else 0
def uE(n:Int):Int:=(Zm n.toNat:Int)
def aBC(n:Int):Bool:=decide (0<=n/\n<=5340000)
theorem Ic[Gl](n:Int)(c:aBC n=true):aF zB 127 [jI jJ n] (jI jJ (uE n)):=fun w _=>by
 obtain⟨b,d⟩:=of_decide_eq_true c;obtain⟨m,rfl⟩:=Int.eq_ofNat_of_zero_le b;have a:m<=5340000:=by omega
 have:=(MX a).choose_spec.2 w;unfold uE Zm;rw[Int.toNat_natCast,dif_pos a];exact this
theorem IR(n:Int):0<=uE n/\uE n<=67108864:=by
 unfold uE Zm;split
 ·rename_i h;have:=(MX h).choose_spec.1;omega
 ·omega
def oB(a:Int):Int×Int×Int:=if nJ a a=true then(if a=0 then(0,0,0) else if a<0 then(-uE (-a)-1,-uE (-a),0) else(uE a,uE a+1,0)) else(0,0,2)
theorem TZ{a b:Int}(h:nJ a b=true):-5340000<=a/\b<=5340000:=by
 unfold nJ at h;cases c:decide (a>=-5340000)with
 |false=>rw[c]at h;cases h
 |true=>rw[c]at h;exact⟨of_decide_eq_true c,of_decide_eq_true h⟩
theorem ZB(a:Int):-67108865<=(oB a).1/\(oB a).2.1<=67108865/\(oB a).1<=67108865/\-67108865<=(oB a).2.1:=by
 have b:=IR a;have c:=IR (-a);unfold oB;split
 ·split
  ·decide
  ·split
   ·dsimp only;omega
   ·dsimp only;omega
 ·decide
def aFr:bW:=(23,eP (fun a b=>.bool (aB a b)))::(29,euS (fun a b c d=>.bool (cT a b c d)))::(51,eP (fun a b=>.bool (nJ a b)))::(52,Pp aB (fun a b=>OL (lV a b)))::(53,Pp aB (fun a b=>OL (aR a b)))::(54,XA QI (fun a b c d=>OL (gQ a b c d)))::(55,SH ZX (fun a b c d e f=>aT (tX a b c d e f)))::(56,GU (fun a b c d=>aG (tY a b c d).1 (tY a b c d).2))::(58,GU (fun a b c d=>aT (cG a b c d)))::(59,eP (fun a b=>aG (iJ a b).1 (iJ a b).2))::(126,eI (fun a=>aG (QH a).1 (QH a).2))::(127,aD6 aBC (fun a=>jI jJ (uE a)))::[]
theorem Ld[Gl]:aO zB aFr:=(aA (cX (fun a b W _=>kM a b W)) (aA (Ek fE) (aA (cX ZR) (aA (GV NH) (aA (GV JS) (aA (KI ZW) (aA (Po Gq) (aA (dZ ZY) (aA (dZ pP) (aA (cX ZQ) (aA (KH ZS) (aA (o9 Ic) dK))))))))))))
theorem ZC[Gl](a:Int):aF zB 98 [jI jJ a] (aT (oB a)):=by
 refine aD aP Ld (t:=lt (QH a) fun f=>cond (!(nJ f.1 f.2)) (some (.v (.tuple ⟨[jA ⟨[jI jJ 0,jI jJ 0]⟩,jI jJ 2]⟩))) (cond (aBC (mx a (i64.wrap (0-a)))) (cond (a==0) (some (.v (.tuple ⟨[jA ⟨[jI jJ 0,jI jJ 0]⟩,jI jJ 0]⟩))) (cond (decide (a<0)) (some (.v (.tuple ⟨[jA ⟨[jI jJ (i64.wrap ((i64.wrap (0-(uE (mx a (i64.wrap (0-a))))))-1)),jI jJ (i64.wrap (0-(uE (mx a (i64.wrap (0-a))))))]⟩,jI jJ 0]⟩))) (some (.v (.tuple ⟨[jA ⟨[jI jJ (uE (mx a (i64.wrap (0-a)))),jI jJ (i64.wrap ((uE (mx a (i64.wrap (0-a))))+1))]⟩,jI jJ 0]⟩))))) (none))) (by kernel_rfl) ?_;have e:QH a=(a,a):=rfl;simp only[lt,e];unfold oB;cases h:nJ a a with
 |false=>rfl
 |true=>
  obtain⟨j,k⟩:=TZ h;have i:i64.wrap (0-a)=0-a:=bZ (by omega);rw[i];have d:mx a (0-a)=(if a<0 then -a else a):=by
   have:=dY a (0-a);split<;>omega
  have g:aBC (mx a (0-a))=true:=decide_eq_true (by rw[d];split<;>omega);rw[g,d];by_cases c:a=0
  ·subst c;rfl
  ·have e0:(a==0)=false:=beq_eq_false_iff_ne.2 c;rw[e0,if_neg c];by_cases b:a<0
   ·have:=IR (-a);rw[decide_eq_true b,if_pos b,if_pos b,bZ (x:=0-uE (-a)) (by omega),bZ (x:=0-uE (-a)-1) (by omega),Int.zero_sub];rfl
   ·have:=IR a;rw[decide_eq_false b,if_neg b,if_neg b,bZ (x:=uE a+1) (by omega)];rfl
def mN(a b:Int):Int×Int:=lt (oB a) fun x1=>lt (oB b) fun x2=>(x1.1,x2.2.1)
def aFs:bW:=(98,eI (fun a=>aT (oB a)))::aFr
theorem Le[Gl]:aO zB aFs:=(aA (KH ZC) Ld)
theorem Gk[Gl](a b:Int):aF zB 57 [jA ⟨[jI jJ a,jI jJ b]⟩] (aG (mN a b).1 (mN a b).2):=aD aP Le (by kernel_rfl) rfl
theorem E7(a b:Int):-67108865<=(mN a b).1/\(mN a b).1<=67108865/\-67108865<=(mN a b).2/\(mN a b).2<=67108865:=by
 have c:=ZB a;have d:=ZB b;show -67108865<=(oB a).1/\(oB a).1<=67108865/\-67108865<=(oB b).2.1/\(oB b).2.1<=67108865;omega
theorem aB9(a b c d:Int)(e:-67108865<=a/\a<=67108865)(f:-67108865<=b/\b<=67108865)(g:-67108865<=c/\c<=67108865)(h:-67108865<=d/\d<=67108865):tY a b c d=(a-d,b-c):=by
 show(i64.wrap (a-d),i64.wrap (b-c))=_;rw[bZ (by omega),bZ (by omega)]
def Ph(a b c d e f u v:Int):Bool:=cT a b c d&&(nJ a b&&(aB e f&&decide (0<=u/\u<=v/\v<=21600000)))
theorem o5{a b c d e f u v:Int}(h:Ph a b c d e f u v=true):cT a b c d=true/\nJ a b=true/\aB e f=true/\0<=u/\u<=v/\v<=21600000:=by
 unfold Ph at h;rw[Bool.and_eq_true,Bool.and_eq_true,Bool.and_eq_true]at h;exact⟨h.1,h.2.1,h.2.2.1,of_decide_eq_true h.2.2.2⟩
theorem uT{a b c d:Int}(h:cT a b c d=true):-5400000<=a/\a<=b/\b<=5400000:=by
 unfold cT at h;cases e:FU a b with
 |false=>rw[e]at h;cases h
 |true=>
  unfold FU at e;cases f:decide (a<=b)with
  |false=>rw[f]at e;cases e
  |true=>
   rw[f]at e;cases g:decide (a>=-5400000)with
   |false=>rw[g]at e;cases e
   |true=>rw[g]at e;exact⟨of_decide_eq_true g,of_decide_eq_true f,of_decide_eq_true e⟩
def WR{α:Type}(K:Int->Int->Int->Int->Int->α)(a b c d e f u v:Int):α:=lt (lV e f) fun x1=>lt (aR e f) fun x2=>lt (gQ u v x2.1 x2.2) fun x3=>lt (gQ u v x1.1 x1.2) fun x4=>cond (!(nJ (i64.wrap (a+x3.1)) (i64.wrap (b+x3.2)))) (K 0 0 0 0 25) (lt (aR (mn a (i64.wrap (a+x3.1))) (mx b (i64.wrap (b+x3.2)))) fun x5=>lt (tX 1073741824 1073741824 x5.1 x5.2 x4.1 x4.2) fun x6=>cond (x6.2.2 != 0) (K 0 0 0 0 x6.2.2) (cond (decide (x2.1>0)) (lt (mN (i64.wrap (a+x3.1)) (i64.wrap (b+x3.2))) fun x7=>lt (mN a b) fun x8=>lt (tY x7.1 x7.2 x8.1 x8.2) fun x9=>lt (tX x1.1 x1.2 x2.1 x2.2 x9.1 x9.2) fun x10=>cond (x10.2.2==0) (lt (cG x6.1 x6.2.1 x10.1 x10.2.1) fun x11=>cond (x11.2.2 != 0) (K 0 0 0 0 x11.2.2) (lt (iJ (i64.wrap (c+x11.1)) (i64.wrap (d+x11.2.1))) fun x12=>K (i64.wrap (a+x3.1)) (i64.wrap (b+x3.2)) x12.1 x12.2 0)) (lt (iJ (i64.wrap (c+x6.1)) (i64.wrap (d+x6.2.1))) fun x13=>K (i64.wrap (a+x3.1)) (i64.wrap (b+x3.2)) x13.1 x13.2 0)) (cond (decide (x2.2<0)) (lt (mN (i64.wrap (a+x3.1)) (i64.wrap (b+x3.2))) fun x14=>lt (mN a b) fun x15=>lt (tY x14.1 x14.2 x15.1 x15.2) fun x16=>lt (tX x1.1 x1.2 x2.1 x2.2 x16.1 x16.2) fun x17=>cond (x17.2.2==0) (lt (cG x6.1 x6.2.1 x17.1 x17.2.1) fun x18=>cond (x18.2.2 != 0) (K 0 0 0 0 x18.2.2) (lt (iJ (i64.wrap (c+x18.1)) (i64.wrap (d+x18.2.1))) fun x19=>K (i64.wrap (a+x3.1)) (i64.wrap (b+x3.2)) x19.1 x19.2 0)) (lt (iJ (i64.wrap (c+x6.1)) (i64.wrap (d+x6.2.1))) fun x20=>K (i64.wrap (a+x3.1)) (i64.wrap (b+x3.2)) x20.1 x20.2 0)) (lt (iJ (i64.wrap (c+x6.1)) (i64.wrap (d+x6.2.1))) fun x21=>K (i64.wrap (a+x3.1)) (i64.wrap (b+x3.2)) x21.1 x21.2 0))))
def Pe(a b c d e f u v:Int):Int×Int×Int×Int×Int:=WR (fun p0 p1 p2 p3 p4=>(p0,p1,p2,p3,p4)) a b c d e f u v
def aGJ:bW:=(57,eP (fun a b=>aG (mN a b).1 (mN a b).2))::aFs
theorem aAn[Gl]:aO zB aGJ:=(aA (cX Gk) Le)
theorem Dx[Gl](a b c d e f u v:Int)(hp:Ph a b c d e f u v=true):aF zB 31 [jA ⟨[jI jJ a,jI jJ b,jI jJ c,jI jJ d]⟩,jA ⟨[jI jJ e,jI jJ f,jI jJ u,jI jJ v]⟩] (nM (Pe a b c d e f u v)):=by
 refine aD aP aAn (t:=cond (!(cT a b c d)) (some (.v (.tuple ⟨[jA ⟨[jI jJ 0,jI jJ 0,jI jJ 0,jI jJ 0]⟩,jI jJ 1]⟩))) (cond (!(aB e f)) (some (.v (.tuple ⟨[jA ⟨[jI jJ 0,jI jJ 0,jI jJ 0,jI jJ 0]⟩,jI jJ 1]⟩))) (cond (!(aB u v)) (some (.v (.tuple ⟨[jA ⟨[jI jJ 0,jI jJ 0,jI jJ 0,jI jJ 0]⟩,jI jJ 1]⟩))) (cond (decide (u<0)) (some (.v (.tuple ⟨[jA ⟨[jI jJ 0,jI jJ 0,jI jJ 0,jI jJ 0]⟩,jI jJ 1]⟩))) (cond (decide (v>21600000)) (some (.v (.tuple ⟨[jA ⟨[jI jJ 0,jI jJ 0,jI jJ 0,jI jJ 0]⟩,jI jJ 1]⟩))) (cond (!(nJ a b)) (some (.v (.tuple ⟨[jA ⟨[jI jJ 0,jI jJ 0,jI jJ 0,jI jJ 0]⟩,jI jJ 2]⟩))) (lt (lV e f) fun k=>cond (aB e f) (lt (aR e f) fun j=>cond (aB e f) (lt (gQ u v j.1 j.2) fun i=>cond (QI u v j.1 j.2) (lt (gQ u v k.1 k.2) fun I=>cond (QI u v k.1 k.2) (cond (!(nJ (i64.wrap (a+i.1)) (i64.wrap (b+i.2)))) (some (.v (.tuple ⟨[jA ⟨[jI jJ 0,jI jJ 0,jI jJ 0,jI jJ 0]⟩,jI jJ 25]⟩))) (lt (aR (mn a (i64.wrap (a+i.1))) (mx b (i64.wrap (b+i.2)))) fun J=>cond (aB (mn a (i64.wrap (a+i.1))) (mx b (i64.wrap (b+i.2)))) (lt (tX 1073741824 1073741824 J.1 J.2 I.1 I.2) fun l=>cond (ZX 1073741824 1073741824 J.1 J.2 I.1 I.2) (cond (l.2.2 != 0) (some (.v (.tuple ⟨[jA ⟨[jI jJ 0,jI jJ 0,jI jJ 0,jI jJ 0]⟩,jI jJ l.2.2]⟩))) (cond (decide (j.1>0)) (lt (mN (i64.wrap (a+i.1)) (i64.wrap (b+i.2))) fun R=>lt (mN a b) fun U=>lt (tY R.1 R.2 U.1 U.2) fun K=>lt (tX k.1 k.2 j.1 j.2 K.1 K.2) fun p=>cond (ZX k.1 k.2 j.1 j.2 K.1 K.2) (cond (p.2.2==0) (lt (cG l.1 l.2.1 p.1 p.2.1) fun m=>cond (m.2.2 != 0) (some (.v (.tuple ⟨[jA ⟨[jI jJ 0,jI jJ 0,jI jJ 0,jI jJ 0]⟩,jI jJ m.2.2]⟩))) (lt (iJ (i64.wrap (c+m.1)) (i64.wrap (d+m.2.1))) fun w=>some (.v (.tuple ⟨[jA ⟨[jI jJ (i64.wrap (a+i.1)),jI jJ (i64.wrap (b+i.2)),jI jJ w.1,jI jJ w.2]⟩,jI jJ 0]⟩)))) (lt (iJ (i64.wrap (c+l.1)) (i64.wrap (d+l.2.1))) fun A=>some (.v (.tuple ⟨[jA ⟨[jI jJ (i64.wrap (a+i.1)),jI jJ (i64.wrap (b+i.2)),jI jJ A.1,jI jJ A.2]⟩,jI jJ 0]⟩)))) (none)) (cond (decide (j.2<0)) (lt (mN (i64.wrap (a+i.1)) (i64.wrap (b+i.2))) fun B=>lt (mN a b) fun D=>lt (tY B.1 B.2 D.1 D.2) fun n=>lt (tX k.1 k.2 j.1 j.2 n.1 n.2) fun q=>cond (ZX k.1 k.2 j.1 j.2 n.1 n.2) (cond (q.2.2==0) (lt (cG l.1 l.2.1 q.1 q.2.1) fun o=>cond (o.2.2 != 0) (some (.v (.tuple ⟨[jA ⟨[jI jJ 0,jI jJ 0,jI jJ 0,jI jJ 0]⟩,jI jJ o.2.2]⟩))) (lt (iJ (i64.wrap (c+o.1)) (i64.wrap (d+o.2.1))) fun E=>some (.v (.tuple ⟨[jA ⟨[jI jJ (i64.wrap (a+i.1)),jI jJ (i64.wrap (b+i.2)),jI jJ E.1,jI jJ E.2]⟩,jI jJ 0]⟩)))) (lt (iJ (i64.wrap (c+l.1)) (i64.wrap (d+l.2.1))) fun G=>some (.v (.tuple ⟨[jA ⟨[jI jJ (i64.wrap (a+i.1)),jI jJ (i64.wrap (b+i.2)),jI jJ G.1,jI jJ G.2]⟩,jI jJ 0]⟩)))) (none)) (lt (iJ (i64.wrap (c+l.1)) (i64.wrap (d+l.2.1))) fun H=>some (.v (.tuple ⟨[jA ⟨[jI jJ (i64.wrap (a+i.1)),jI jJ (i64.wrap (b+i.2)),jI jJ H.1,jI jJ H.2]⟩,jI jJ 0]⟩)))))) (none)) (none))) (none)) (none)) (none)) (none)))))))) (by kernel_rfl) ?_;obtain⟨Q,O,s,u0,u1,u2⟩:=o5 hp;have a0:=uT Q;have a1:=TZ O;have vu:aB u v=true:=aW (by omega) (by omega) (by omega);have d1:decide (u<0)=false:=decide_eq_false (by omega);have d2:decide (v>21600000)=false:=decide_eq_false (by omega);have q1:QI u v (aR e f).1 (aR e f).2=true:=BJ (RZ s) (by omega) (by omega) (by omega) (by omega);have q2:QI u v (lV e f).1 (lV e f).2=true:=BJ (IL s) (by omega) (by omega) (by omega) (by omega);have X:=tT (N:=21600000) (IH (RZ s)) (c:=u) (d:=v) (by omega) (by omega) (by omega) (by omega);have V:=tT (N:=21600000) (IH (IL s)) (c:=u) (d:=v) (by omega) (by omega) (by omega) (by omega);have Z:gQ u v (aR e f).1 (aR e f).2=lU (aR e f).1 (aR e f).2 u v:=rfl;have Y:gQ u v (lV e f).1 (lV e f).2=lU (lV e f).1 (lV e f).2 u v:=rfl;rw[<-Z]at X;rw[<-Y]at V;have w1:i64.wrap (a+(gQ u v (aR e f).1 (aR e f).2).1)=a+(gQ u v (aR e f).1 (aR e f).2).1:=bZ (by omega);have w2:i64.wrap (b+(gQ u v (aR e f).1 (aR e f).2).2)=b+(gQ u v (aR e f).1 (aR e f).2).2:=bZ (by omega);have m1:=eJ a (a+(gQ u v (aR e f).1 (aR e f).2).1);have m2:=dY b (b+(gQ u v (aR e f).1 (aR e f).2).2);have q3:aB (mn a (a+(gQ u v (aR e f).1 (aR e f).2).1)) (mx b (b+(gQ u v (aR e f).1 (aR e f).2).2))=true:=aW (by omega) (by omega) (by omega);have q4:∀x y z t,ZX x y z t (gQ u v (lV e f).1 (lV e f).2).1 (gQ u v (lV e f).1 (lV e f).2).2=true:=fun _ _ _ _=>decide_eq_true (by omega);have q5:∀x y z t g h,ZX x y z t (tY (mN g h).1 (mN g h).2 (mN a b).1 (mN a b).2).1 (tY (mN g h).1 (mN g h).2 (mN a b).1 (mN a b).2).2=true:=fun _ _ _ _ g h=>by
  have L:=E7 g h;have M:=E7 a b;rw[aB9 _ _ _ _ ⟨L.1,L.2.1⟩ L.2.2 ⟨M.1,M.2.1⟩ M.2.2];exact decide_eq_true (by dsimp only;omega)
 refine Eq.trans (b:=WR (fun p0 p1 p2 p3 p4=>some (.v (nM ((p0,p1,p2,p3,p4))))) a b c d e f u v) ?_ ?_
 ·unfold WR;simp only[lt,Q,O,s,vu,d1,d2,q1,q2,w1,w2,q3,q4,q5,cond_true,cond_false,Bool.not_true];rfl
 ·unfold Pe WR;repeat' first|(with_reducible refine aL (fun r:Int×Int×Int×Int×Int=>AV.v (nM (r))) ?_ ?_)|(with_reducible refine aY (fun r:Int×Int×Int×Int×Int=>AV.v (nM (r))) fun _=>?_)|rfl
end
section
open Go.RowKit Rg
open Ev (aF lt)
attribute [local instance] nP
def DI(q:cF)(y x:Nat):Prop:=q.1<=(y:Int)-5400000/\(y:Int)-5400000<=q.2.1/\∃k:Int,q.2.2.1<=(x:Int)-10800000+21600000*k/\(x:Int)-10800000+21600000*k<=q.2.2.2
theorem Vi{a b c d x k:Int}(h1:(a=-10800000/\b=10800000)\/b-a<21600000)(e:d-c<21600000)(g:c<=x/\x<=d)(f:a<=x+21600000*k/\x+21600000*k<=b):RX a b c d:=by
 unfold RX;rcases h1 with h1|h1
 ·exact .inl h1
 ·omega
theorem Pj(A K p:Nat)(a:0<p):(A+K)/p<=A/p+K+1:=by
 have b:=Nat.div_add_mod A p;have c:=Nat.mod_lt A a;have d:K<=p*K:=Nat.le_mul_of_pos_left _ a;refine yR ?_;rw[Nat.mul_add,Nat.mul_add];omega
theorem Pq(i l:Nat):dO (i+1) l<=dO i l+10800000+1:=by
 unfold dO;generalize 10800000=K;rw[Nat.add_mul,Nat.one_mul];exact Pj _ _ _ (Nat.pow_pos (by omega))
theorem Yl{q:cF}(d:iY q.2.2.1 q.2.2.2):∀(b:Rg.Blk) y x,DI q y x->Rg.In b y x->gF q b=true:=by
 rintro b y x ⟨o,p,k,a,c⟩ ⟨g,i,j,m⟩;have e:=Pq (aN b.l b.n) b.l;unfold gF qB;rw[TX];generalize dO (aM b.l b.n) b.l=v at*;generalize dO (aM b.l b.n+1) b.l=w at*;generalize dO (aN b.l b.n) b.l=f at*;generalize dO (aN b.l b.n+1) b.l=c1 at*;obtain⟨r,s,t,u⟩:=q;dsimp only at*;refine⟨by omega,Vi (x:=(x:Int)-10800000) (k:=k) ?_ (by omega) (by omega) ⟨a,c⟩⟩;rcases d with h|h
 ·exact .inl h
 ·exact .inr h.2.2.2
theorem rF{meets inside:Rg.Blk->Bool}{level:Nat}(g:level<=5){A:List Rg.Blk}(h:bX meets inside level=some A):Reg A:=by
 obtain⟨b,c,_⟩:=wK (P:=fun _ _=>False) (fun _ _ _ h=>h.elim) (by omega) h;have e:=UY (by omega) h;refine⟨b,fun d a=>?_,?_⟩
 ·have f:=e d a;exact⟨by omega,AF (by omega) (c d a)⟩
 ·unfold bX at h;obtain⟨R,_,h⟩:=bE h;split at h
  ·cases h;rw[List.length_reverse];assumption
  ·cases h
theorem Pz{y x:Nat}(b:y<=10800000)(a:x<=21600000):Rg.In ⟨0,0⟩ y x\/Rg.In ⟨0,1⟩ y x:=by
 by_cases h:x<=10800000
 ·left;refine⟨?_,?_,?_,?_⟩<;>simp[dO,aM,aN]<;>omega
 ·right;refine⟨?_,?_,?_,?_⟩<;>simp[dO,aM,aN]<;>omega
theorem around_holds{q:cF}(b:iY q.2.2.1 q.2.2.2){level:Nat}(f:level<=5){A:List Rg.Blk}(h:bX (gF q) (fI q) level=some A){y x:Nat}(d:y<=10800000)(c:x<=21600000)(a:DI q y x):∃e∈A,Rg.In e y x:=
 (wK (Yl b) (by omega) h).2.2 y x a (Pz d c)
theorem UZ{q:cF}(f:cT q.1 q.2.1 q.2.2.1 q.2.2.2=true)(a:iY q.2.2.1 q.2.2.2){level:Nat}(d:level<=5){A:List Rg.Blk}(h:bX (gF q) (fI q) level=some A):0<A.length:=by
 have b:=uT f;have k:=iC a;obtain⟨e,c,_⟩:=around_holds a d h (y:=(q.1+5400000).toNat) (x:=(q.2.2.1+10800000).toNat) (by omega) (by rcases a with h|h<;>omega) ⟨by omega,by omega,0,by omega,by omega⟩;exact List.length_pos_of_mem c
theorem Jr{a b c d:Int}(h:(iG a b c d).2.2=0):aB (iG a b c d).1 (iG a b c d).2.1=true:=by
 unfold iG KE at h ⊢;simp only[lt]at h ⊢;cases g:decide ((aR a b).1<=0)with
 |true=>rw[g]at h;simp at h
 |false=>
  rw[g]at h;simp only[cond_false]at h ⊢;cases e:((fB 1073741824 1073741824 (aR a b).1 (aR a b).2 c).2.2 != 0)with
  |true=>rw[e]at h;simp only[cond_true]at h;rw[h]at e;cases e
  |false=>
   rw[e]at h;simp only[cond_false]at h ⊢;cases f:((fB 1073741824 1073741824 (aR a b).1 (aR a b).2 d).2.2 != 0)with
   |true=>rw[f]at h;simp only[cond_true]at h;rw[h]at f;cases f
   |false=>
    rw[f]at h;simp only[cond_false]at h ⊢;generalize i:aB (mn (mn (fB 1073741824 1073741824 (aR a b).1 (aR a b).2 c).1 (fB 1073741824 1073741824 (aR a b).1 (aR a b).2 c).1) (fB 1073741824 1073741824 (aR a b).1 (aR a b).2 d).1) (mx (mx (fB 1073741824 1073741824 (aR a b).1 (aR a b).2 c).2.1 (fB 1073741824 1073741824 (aR a b).1 (aR a b).2 c).2.1) (fB 1073741824 1073741824 (aR a b).1 (aR a b).2 d).2.1)=V at*;cases V with
    |true=>exact i
    |false=>simp at h
theorem Tj{u v:Int}(a:-2000000000000<=u)(b:u<=v)(c:v<=2000000000000):iY (dS u v).1 (dS u v).2:=by
 unfold dS JF;rw[bZ (x:=v-u) (by omega),CO (by omega)];have s:=rI u;by_cases k:v-u>=21600000
 ·rw[decide_eq_true k];exact .inl ⟨rfl,rfl⟩
 ·rw[decide_eq_false k,bZ (x:=AE u+(v-u)) (by omega)];exact .inr ⟨s.1,s.2.1,by dsimp only[cond_false];omega,by dsimp only[cond_false];omega⟩
theorem QD{q:Int×Int×Int×Int×Int}{c d e f:Int}(h:Q5 q c d e f=true)(s:-100000000<=q.2.2.1)(t:q.2.2.1<=q.2.2.2.1)(u:q.2.2.2.1<=100000000)(a:(kB q c d e f).2.2.2.2=0):
  -5400000<=(kB q c d e f).1/\(kB q c d e f).1<=(kB q c d e f).2.1/\(kB q c d e f).2.1<=5400000/\iY (kB q c d e f).2.2.1 (kB q c d e f).2.2.2.1:=by
 obtain⟨_,i,j,k,l,m,n,o,p,r⟩:=of_decide_eq_true h;unfold kB at a ⊢;by_cases g:q.1+c< -5400000\/5400000<q.2.1+d
 ·rw[if_pos g]at a;cases a
 ·rw[if_neg g]at a ⊢;by_cases b:(iG (mn q.1 (q.1+c)) (mx q.2.1 (q.2.1+d)) e f).2.2=0
  ·rw[if_pos b];have v:=dW (Jr b);refine⟨by dsimp only;omega,by dsimp only;omega,by dsimp only;omega,?_⟩;dsimp only;rw[bZ (x:=q.2.2.1+_) (by omega),bZ (x:=q.2.2.2.1+_) (by omega)];exact Tj (by omega) (by omega) (by omega)
  ·rw[if_neg b]at a;exact absurd a b
def q5(b:Rg.Blk):Int×Int×Int×Int×Int:=((qB b).1,(qB b).2.1,(qB b).2.2.1,(qB b).2.2.2,0)
def gH(d1 d2:Int×Int)(b:Rg.Blk):Int×Int×Int×Int×Int:=kB (q5 b) d1.1 d1.2 d2.1 d2.2
def U4:Option (List Rg.Blk)->Int ⊕ List Rg.Blk
 |none=>.inl 4
 |some A=>.inr A
def Yu(d1 d2:Int×Int)(level:Nat)(b:Rg.Blk):Int ⊕ List Rg.Blk:=
 if (gH d1 d2 b).2.2.2.2=0 then U4 (bX (gF ((gH d1 d2 b).1,(gH d1 d2 b).2.1,(gH d1 d2 b).2.2.1,(gH d1 d2 b).2.2.2.1)) (fI ((gH d1 d2 b).1,(gH d1 d2 b).2.1,(gH d1 d2 b).2.2.1,(gH d1 d2 b).2.2.2.1)) level) else .inl (gH d1 d2 b).2.2.2.2
theorem aC9(b:Rg.Blk)(g:-5400000<=(qB b).1/\(qB b).1<(qB b).2.1/\(qB b).2.1<=5400000/\-10800000<=(qB b).2.2.1/\(qB b).2.2.1<(qB b).2.2.2/\(qB b).2.2.2<=10800000/\(qB b).2.2.2-(qB b).2.2.1<=10800000):-100000000<=(q5 b).2.2.1/\(q5 b).2.2.1<=(q5 b).2.2.2.1/\(q5 b).2.2.2.1<=100000000:=by
 unfold q5;generalize qB b=q at*;dsimp only;omega
theorem Yi{d1 d2:Int×Int}(a:-10800000<=d1.1/\d1.1<=d1.2/\d1.2<=10800000)(c:-10800000<=d2.1/\d2.1<=d2.2/\d2.2<=10800000)(b:Rg.Blk)(d:b.l<=5)(e:b.n<2*4^b.l):Q5 (q5 b) d1.1 d1.2 d2.1 d2.2=true:=by
 have g:=iB b d e;unfold Q5 q5;exact decide_eq_true ⟨rfl,by dsimp only;omega,by dsimp only;omega,by dsimp only;omega,a.1,a.2.1,a.2.2,c.1,c.2.1,c.2.2⟩
theorem Ql{d1 d2:Int×Int}(f:-10800000<=d1.1/\d1.1<=d1.2/\d1.2<=10800000)(g:-10800000<=d2.1/\d2.1<=d2.2/\d2.2<=10800000)(b:Rg.Blk)(c:b.l<=5)(d:b.n<2*4^b.l)(w:World):
  Calls zB 138 #[dD b,Ob d1,Ob d2] w (GP (fM (gH d1 d2 b)) w):=by
 have a:=Yi f g b c d;unfold gH;obtain⟨l,n⟩:=b;dsimp only at c d;rcases(show l=0\/l=1\/l=2\/l=3\/l=4\/l=5 by omega)with rfl|rfl|rfl|rfl|rfl|rfl
 ·have e:=cM aCD (n:=n) (by omega);have h:=aI (Fp (aM 0 n:Int) (aN 0 n:Int) d1.1 d1.2 d2.1 d2.2 (by unfold aFL;rw[e];exact a)) w;unfold aFR at h;rw[e]at h;exact h
 ·have e:=cM aCE (n:=n) (by omega);have h:=aI (Fq (aM 1 n:Int) (aN 1 n:Int) d1.1 d1.2 d2.1 d2.2 (by unfold aFM;rw[e];exact a)) w;unfold aFS at h;rw[e]at h;exact h
 ·have e:=cM aCF (n:=n) (by omega);have h:=aI (Fr (aM 2 n:Int) (aN 2 n:Int) d1.1 d1.2 d2.1 d2.2 (by unfold aFN;rw[e];exact a)) w;unfold aFT at h;rw[e]at h;exact h
 ·have e:=cM aCG (n:=n) (by omega);have h:=aI (Fs (aM 3 n:Int) (aN 3 n:Int) d1.1 d1.2 d2.1 d2.2 (by unfold aFO;rw[e];exact a)) w;unfold aFU at h;rw[e]at h;exact h
 ·have e:=cM aCH (n:=n) (by omega);have h:=aI (Ft (aM 4 n:Int) (aN 4 n:Int) d1.1 d1.2 d2.1 d2.2 (by unfold aFP;rw[e];exact a)) w;unfold aFV at h;rw[e]at h;exact h
 ·have e:=cM aCI (n:=n) (by omega);have h:=aI (Fu (aM 5 n:Int) (aN 5 n:Int) d1.1 d1.2 d2.1 d2.2 (by unfold aFQ;rw[e];exact a)) w;unfold aFW at h;rw[e]at h;exact h
theorem aDw{level:Nat}(f:level<=5){a b c d:Int}(i:-5400000<=a)(j:a<=b)(k:b<=5400000)(e:iY c d):
  ∃r,(∀w,Calls zB 68 #[QV (a,b,c,d),jI jJ (level:Int)] w (iE w r))/\r=bX (gF (a,b,c,d)) (fI (a,b,c,d)) level/\(∀A,r=some A->Reg A/\0<A.length):=by
 have g:=mL i j k e;have l:∀w,Calls zB 29 #[QV (a,b,c,d)] w (GP (.bool true) w):=fun w=>by
  have:=aI (fE a b c d) w;rw[g]at this;exact this
 refine⟨_,fun w=>JI Jg (aBF (p:=(a,b,c,d)) g e) f l w,rfl,fun A h=>⟨rF f h,UZ (q:=(a,b,c,d)) g e f h⟩⟩
theorem aDu{d1 d2:Int×Int}(o:-10800000<=d1.1/\d1.1<=d1.2/\d1.2<=10800000)(p:-10800000<=d2.1/\d2.1<=d2.2/\d2.2<=10800000){level:Nat}(y:level<=5):MvH d1 d2 level (Yu d1 d2 level):=by
 intro b k n;have l:=Yi o p b k n;have g:=iB b k n;have m:=Ql o p b k n;obtain⟨s,t,u⟩:=aC9 b g;have f:=QD l s t u;have h:Yu d1 d2 level b=if (gH d1 d2 b).2.2.2.2=0 then U4 (bX (gF ((gH d1 d2 b).1,(gH d1 d2 b).2.1,(gH d1 d2 b).2.2.1,(gH d1 d2 b).2.2.2.1)) (fI ((gH d1 d2 b).1,(gH d1 d2 b).2.1,(gH d1 d2 b).2.2.1,(gH d1 d2 b).2.2.2.1)) level) else .inl (gH d1 d2 b).2.2.2.2:=by rw[Yu]
 have z:kB (q5 b) d1.1 d1.2 d2.1 d2.2=gH d1 d2 b:=by rw[gH]
 rw[z]at f;generalize Yu d1 d2 level b=I at*;generalize gH d1 d2 b=r at*;obtain⟨a,q,c,d,e⟩:=r;dsimp only at f h;refine⟨(a,q,c,d),e,m,?_⟩;by_cases i:e=0
 ·refine .inr ⟨i,?_⟩;obtain⟨D,E,G,H⟩:=f i;obtain⟨r,B,x,v⟩:=aDw y D E G H;rw[if_pos i,<-x]at h;refine⟨r,B,fun w=>?_,fun A j=>⟨?_,v A j⟩⟩
  ·rw[h,w];rfl
  ·rw[h,j];rfl
 ·rw[if_neg i]at h;exact .inl ⟨i,h⟩
end
section
open Rg
open Ev (lt Gl)
attribute [local instance] nP
def dL(c d e f:Int):Int:=min (min (1073741824*e/c) (1073741824*e/d)) (min (1073741824*f/c) (1073741824*f/d))
def dH(c d e f:Int):Int:=max (max (-(-(1073741824*e)/c)) (-(-(1073741824*e)/d))) (max (-(-(1073741824*f)/c)) (-(-(1073741824*f)/d)))
theorem oE{x c y d:Int}(e:0<c)(a:c<=y)(b:y<=d):min (x/c) (x/d)<=x/y/\x/y<=max (x/c) (x/d):=by
 rcases o6 (x:=x) e a b with h|h<;>omega
theorem j9{c d c' d' e f:Int}(a:0<c')(b:c'<=c)(g:c<=d)(h:d<=d'):dL c' d' e f<=dL c d e f/\dH c d e f<=dH c' d' e f:=by
 have i:=oE (x:=1073741824*e) a b (aeX g h);have j:=oE (x:=1073741824*e) a (aeX b g) h;have k:=oE (x:=1073741824*f) a b (aeX g h);have l:=oE (x:=1073741824*f) a (aeX b g) h;have m:=oE (x:=-(1073741824*e)) a b (aeX g h);have n:=oE (x:=-(1073741824*e)) a (aeX b g) h;have o:=oE (x:=-(1073741824*f)) a b (aeX g h);have p:=oE (x:=-(1073741824*f)) a (aeX b g) h;unfold dL dH;generalize 1073741824*e/c=q at*;generalize 1073741824*e/d=r at*;generalize 1073741824*f/c=s at*;generalize 1073741824*f/d=t at*;generalize 1073741824*e/c'=u at*;generalize 1073741824*e/d'=v at*;generalize 1073741824*f/c'=w at*;generalize 1073741824*f/d'=y at*;generalize -(1073741824*e)/c=z at*;generalize -(1073741824*e)/d=A at*;generalize -(1073741824*f)/c=B at*;generalize -(1073741824*f)/d=D at*;generalize -(1073741824*e)/c'=s1 at*;generalize -(1073741824*e)/d'=E at*;generalize -(1073741824*f)/c'=G at*;generalize -(1073741824*f)/d'=H at*;omega
theorem aEt(x c:Int)(a:0<c):x/c<=-(-x/c):=by
 have b:=Int.ediv_mul_le x (show c≠0 by omega);have d:=Int.ediv_mul_le (-x) (show c≠0 by omega);rcases Int.lt_or_le (-(-x/c)) (x/c)with h|h
 ·have:=Int.mul_lt_mul_of_pos_right h a;rw[Int.neg_mul]at this;omega
 ·exact h
theorem aBH{c d e f:Int}(a:0<c)(_:0<d):dL c d e f<=dH c d e f:=by
 have:=aEt (1073741824*e) c a;unfold dL dH;omega
theorem aEH(c d e f:Int):(∀d',dL c d' e f<=dL c d e f)\/(∀c',dL c' d e f<=dL c d e f):=by
 by_cases h:min (1073741824*e/c) (1073741824*f/c)<=min (1073741824*e/d) (1073741824*f/d)
 ·left;intro d';unfold dL;omega
 ·right;intro c';unfold dL;omega
theorem aEG(c d e f:Int):(∀d',dH c d e f<=dH c d' e f)\/(∀c',dH c d e f<=dH c' d e f):=by
 by_cases h:max (-(-(1073741824*e)/d)) (-(-(1073741824*f)/d))<=max (-(-(1073741824*e)/c)) (-(-(1073741824*f)/c))
 ·left;intro d';unfold dH;omega
 ·right;intro c';unfold dH;omega
theorem i9{a b:Int}(h:aB a b=true):(∃n,a<=n/\n<=b/\(aR a b).1=(aR n n).1)/\(∃n,a<=n/\n<=b/\(aR a b).2=(aR n n).2):=by
 have v:=of_decide_eq_true (show decide (-1099511627776<=a/\a<=b/\b<=1099511627776)=true from h);have one:∀n,a<=n->n<=b->aB n n=true:=fun n c d=>aW (by omega) (zV n) (by omega);have f:∀n:Int,lJ n n=mE n/\lZ n n=iQ n:=fun n=>by
  obtain⟨m,o,p,e⟩:=IA (zV n);obtain⟨k,j,l,g⟩:=SL (zV n);rw[e,g,show m=n by omega,show k=n by omega];exact⟨rfl,rfl⟩
 have val:∀x y,aB x y=true->aR x y=(lJ (x+5400000) (y+5400000),lZ (x+5400000) (y+5400000)):=fun x y i=>by
  unfold aR bB;simp[i]
 refine⟨?_,?_⟩
 ·obtain⟨n,c,d,e⟩:=IA (show a+5400000<=b+5400000 by omega);refine⟨n-5400000,by omega,by omega,?_⟩;rw[val a b h,val _ _ (one _ (by omega) (by omega)),show n-5400000+5400000=n by omega,(f n).1];exact e
 ·obtain⟨n,c,d,e⟩:=SL (show a+5400000<=b+5400000 by omega);refine⟨n-5400000,by omega,by omega,?_⟩;rw[val a b h,val _ _ (one _ (by omega) (by omega)),show n-5400000+5400000=n by omega,(f n).2];exact e
theorem PC{a b c d:Int}(h:aB c d=true)(e:c<=a)(f:a<=b)(g:b<=d):(aR c d).1<=(aR a b).1/\(aR a b).1<=(aR a b).2/\(aR a b).2<=(aR c d).2:=by
 obtain⟨_,_,i,j,k⟩:=oV h e f g;exact⟨i,j,k⟩
theorem N0{a b c d e f:Int}(h:aB c d=true)(i:c<=a)(j:a<=b)(k:b<=d)(g:0<(aR c d).1):dL (aR c d).1 (aR c d).2 e f<=dL (aR a b).1 (aR a b).2 e f/\dH (aR a b).1 (aR a b).2 e f<=dH (aR c d).1 (aR c d).2 e f:=by
 obtain⟨l,m,n⟩:=PC h i j k;exact j9 g l m n
theorem Ry{n:Nat}{wl wh:Nat->Int}{a b e f z:Int}(j:aB a b=true)(t:∀i,i<=n->aB (wl i) (wh i)=true)(p:∀i,i<=n->0<(aR (wl i) (wh i)).1)
  (A:∀i,i<n->∃u,wl i<=u/\u<=wh i/\wl (i+1)<=u/\u<=wh (i+1))(s:∀u,a<=u->u<=b->∃i,i<=n/\wl i<=u/\u<=wh i)
  (Q:dL (aR a b).1 (aR a b).2 e f<=z)(R:z<=dH (aR a b).1 (aR a b).2 e f):∃i,i<=n/\dL (aR (wl i) (wh i)).1 (aR (wl i) (wh i)).2 e f<=z/\z<=dH (aR (wl i) (wh i)).1 (aR (wl i) (wh i)).2 e f:=by
 have g:∀i,i<=n->∀u,wl i<=u->u<=wh i->dL (aR (wl i) (wh i)).1 (aR (wl i) (wh i)).2 e f<=dL (aR u u).1 (aR u u).2 e f/\dH (aR u u).1 (aR u u).2 e f<=dH (aR (wl i) (wh i)).1 (aR (wl i) (wh i)).2 e f/\0<(aR u u).1/\0<(aR u u).2:=fun i hi u q r=>by
  obtain⟨x,y⟩:=N0 (e:=e) (f:=f) (t i hi) q (zV u) r (p i hi);obtain⟨H,I,_⟩:=PC (t i hi) q (zV u) r;have:=p i hi;exact⟨x,y,by omega,by omega⟩
 obtain⟨⟨d,B,D,v⟩,⟨c,L,M,w⟩⟩:=i9 j;obtain⟨l,m,E,G⟩:=s d B D;obtain⟨k,o,N,O⟩:=s c L M;obtain⟨U,V,_,_⟩:=g l m d E G;obtain⟨Z,r4,_,_⟩:=g k o c N O;rw[v,w]at Q R;refine rows (lo:=fun i=>dL (aR (wl i) (wh i)).1 (aR (wl i) (wh i)).2 e f) (hi:=fun i=>dH (aR (wl i) (wh i)).1 (aR (wl i) (wh i)).2 e f) ?_ ?_ ?_
 ·intro i hi;obtain⟨u,u1,u2,u3,u4⟩:=A i hi;obtain⟨H,I,J,K⟩:=g i (by omega) u u1 u2;obtain⟨X,Y,_,_⟩:=g (i+1) (by omega) u u3 u4;have:=aBH (e:=e) (f:=f) J K;omega
 ·rcases aEH (aR d d).1 (aR c c).2 e f with h|h
  ·exact⟨l,m,by have:=h (aR d d).2;omega⟩
  ·exact⟨k,o,by have:=h (aR c c).1;omega⟩
 ·rcases aEG (aR d d).1 (aR c c).2 e f with h|h
  ·exact⟨l,m,by have:=h (aR d d).2;omega⟩
  ·exact⟨k,o,by have:=h (aR c c).1;omega⟩
theorem IK{c d e:Int}(j:0<c)(_hd:c<=d)(h:(fB 1073741824 1073741824 c d e).2.2=0):
  (fB 1073741824 1073741824 c d e).1=min (1073741824*e/c) (1073741824*e/d)/\(fB 1073741824 1073741824 c d e).2.1=max (-(-(1073741824*e)/c)) (-(-(1073741824*e)/d)):=by
 have f:∀c:Int,0<c->SP (1073741824*e) c=1073741824*e/c/\VW (1073741824*e) c=-(-(1073741824*e)/c):=fun c j=>by
  unfold VW SP;rw[if_neg (by omega),if_neg (by omega)];exact⟨rfl,rfl⟩
 obtain⟨k,l⟩:=f c j;obtain⟨m,n⟩:=f d (by omega);unfold fB at h ⊢;split at h
 ·rename_i o;rw[if_pos o];split at h
  ·cases h
  ·rename_i p;rw[if_neg p];split at h
   ·rename_i q;rw[if_pos q];unfold Zu Zt;rw[k,l,m,n];dsimp only;generalize 1073741824*e/c=a;generalize 1073741824*e/d=g;generalize -(-(1073741824*e)/c)=b;generalize -(-(1073741824*e)/d)=i;have r:=eJ a a;have s:=eJ (mn a a) g;have t:=eJ (mn (mn a a) g) a;have u:=eJ (mn (mn (mn a a) g) a) g;have v:=dY b b;have w:=dY (mx b b) i;have x:=dY (mx (mx b b) i) b;have y:=dY (mx (mx (mx b b) i) b) i;omega
   ·cases h
 ·cases h
theorem AX{a b:Int}(h:aB a b=true):-1073741824<=(aR a b).1/\(aR a b).1<=(aR a b).2/\(aR a b).2<=1073741824:=by
 obtain⟨c,d,e,_⟩:=(wY h).2.1;exact⟨c,d,e⟩
theorem VK{x y p q r s u v:Int}(f:p=min x y)(g:q=max u v){e y' a b c d:Int}(h:a=min e y')(i:b=max c d)(j:r=mn p a)(k:s=mx q b):r=min (min x y) (min e y')/\s=max (max u v) (max c d):=by
 have:=eJ p a;have:=dY q b;omega
theorem aD5{a b c d:Int}(h:(iG a b c d).2.2=0)(e:aB a b=true):0<(aR a b).1/\iG a b c d=(dL (aR a b).1 (aR a b).2 c d,dH (aR a b).1 (aR a b).2 c d,0):=by
 obtain⟨_,o,_⟩:=AX e;clear e;unfold iG KE at h ⊢;simp only[lt]at h ⊢;generalize (aR a b).1=x at*;generalize (aR a b).2=y at*;by_cases j:x<=0
 ·rw[decide_eq_true j]at h;cases h
 have i:0<x:=by omega
 refine⟨i,?_⟩;rw[decide_eq_false j]at h ⊢;simp only[cond_false]at h ⊢;by_cases f:(fB 1073741824 1073741824 x y c).2.2=0
 ·have k:=IK i o f;rw[f]at h ⊢;simp only[bne_self_eq_false,cond_false]at h ⊢;by_cases g:(fB 1073741824 1073741824 x y d).2.2=0
  ·have l:=IK i o g;rw[g]at h ⊢;simp only[bne_self_eq_false,cond_false]at h ⊢;generalize m:aB _ _=V at*;cases V with
   |false=>cases h
   |true=>
    simp only[Bool.not_true,cond_false];rw[Mb,aAH];obtain⟨e1,e2⟩:=VK k.1 k.2 l.1 l.2 rfl rfl;rw[e1,e2];rfl
  ·rw[bne_iff_ne.2 g]at h;exact absurd h g
 ·rw[bne_iff_ne.2 f]at h;exact absurd h f
theorem aDJ{x y c d:Int}(e:0<x)(o:x<=y)(h:(tX 1073741824 1073741824 x y c d).2.2=0):tX 1073741824 1073741824 x y c d=(dL x y c d,dH x y c d,0):=by
 unfold tX QJ at h ⊢;simp only[lt]at h ⊢;by_cases a:(fB 1073741824 1073741824 x y c).2.2=0
 ·have f:=IK e o a;rw[a]at h ⊢;simp only[bne_self_eq_false,cond_false]at h ⊢;by_cases b:(fB 1073741824 1073741824 x y d).2.2=0
  ·have g:=IK e o b;rw[b];simp only[bne_self_eq_false,cond_false];obtain⟨e1,e2⟩:=VK f.1 f.2 g.1 g.2 rfl rfl;rw[e1,e2];rfl
  ·rw[bne_iff_ne.2 b]at h;exact absurd h b
 ·rw[bne_iff_ne.2 a]at h;exact absurd h a
theorem Ms{x y c:Int}(d:0<x)(o:x<=y)(a:y<=1073741824):(fB 1073741824 1073741824 x y c).2.2=0\/(fB 1073741824 1073741824 x y c).2.2=5:=by
 have b:dM 1073741824 1073741824 x y=true:=AT (kY (by omega) (by omega) (by omega)) (kY (by omega) o (by omega));have z:pJ x y=false:=decide_eq_false (by omega);unfold fB;rw[if_pos b,if_neg (by rw[z];decide)];split
 ·exact .inl rfl
 ·exact .inr rfl
theorem o8{a b c d:Int}(e:aB a b=true)(h:(iG a b c d).2.2≠0):(iG a b c d).2.2=5\/(iG a b c d).2.2=21:=by
 obtain⟨_,o,t⟩:=AX e;clear e;unfold iG KE at h ⊢;simp only[lt]at h ⊢;generalize (aR a b).1=x at*;generalize (aR a b).2=y at*;by_cases f:x<=0
 ·rw[decide_eq_true f];exact .inr rfl
 have g:0<x:=by omega
 rw[decide_eq_false f]at h ⊢;simp only[cond_false]at h ⊢;rcases Ms (c:=c) g o t with h2|h2
 ·rw[h2]at h ⊢;simp only[bne_self_eq_false,cond_false]at h ⊢;rcases Ms (c:=d) g o t with h3|h3
  ·rw[h3]at h ⊢;simp only[bne_self_eq_false,cond_false]at h ⊢;generalize aB _ _=V at*;cases V with
   |false=>exact .inl rfl
   |true=>exact absurd rfl h
  ·rw[h3];exact .inl rfl
 ·rw[h2];exact .inl rfl
theorem It{u v z:Int}(b:-2000000000000<=u)(c:u<=v)(d:v<=2000000000000):(∃k:Int,(dS u v).1<=z+21600000*k/\z+21600000*k<=(dS u v).2)↔∃k:Int,u<=z+21600000*k/\z+21600000*k<=v:=by
 unfold dS JF;rw[bZ (x:=v-u) (by omega),CO (by omega)];obtain⟨s1,e,m,f⟩:=rI u;by_cases k:v-u>=21600000
 ·rw[decide_eq_true k];simp only[cond_true];exact⟨fun _=>⟨(v-z)/21600000,by omega⟩,fun _=>⟨(10800000-z)/21600000,by omega⟩⟩
 ·rw[decide_eq_false k,bZ (x:=AE u+(v-u)) (by omega)];simp only[cond_false];exact⟨fun⟨j,a⟩=>⟨j-m,by omega⟩,fun⟨j,a⟩=>⟨j+m,by omega⟩⟩
theorem Qx(u v:Int):iJ u v=dS u v:=rfl
end
section
open Rg
open Ev (lt Gl)
attribute [local instance] nP
theorem Yd:0<mE 60000:=by decide+kernel
theorem Vl{a b:Int}(g:-5340000<=a)(d:a<=b)(h:b<=5340000):0<(aR a b).1:=by
 have v:aB a b=true:=aW (by omega) d (by omega);obtain⟨n,i,j,e⟩:=IA (show a+5400000<=b+5400000 by omega);have c:(aR a b).1=lJ (a+5400000) (b+5400000):=by
  unfold aR bB;simp[v]
 rw[c,e];have k:=Yd;by_cases f:n<=5400000
 ·have:=pD (m:=60000) (n:=n) (by omega) (by omega) f;omega
 ·have e2:=(nF (m:=n) (by omega) (by omega)).1;have:=pD (m:=60000) (n:=10800000-n) (by omega) (by omega) (by omega);omega
theorem Mt{a b c d e:Int}(h:(fB a b c d e).2.2=0):-1099511627776<=(fB a b c d e).1/\(fB a b c d e).2.1<=1099511627776:=by
 unfold fB at h ⊢;split at h
 ·rename_i g;rw[if_pos g];split at h
  ·cases h
  ·rename_i i;rw[if_neg i];split at h
   ·rename_i f;rw[if_pos f];exact⟨(of_decide_eq_true f.1).1,(of_decide_eq_true f.2).2⟩
   ·cases h
 ·cases h
theorem aB7{a b c d e f:Int}(h:(tX a b c d e f).2.2=0):-1099511627776<=(tX a b c d e f).1/\(tX a b c d e f).2.1<=1099511627776:=by
 unfold tX QJ at h ⊢;simp only[lt]at h ⊢;by_cases g:(fB a b c d e).2.2=0
 ·have l:=Mt g;rw[g]at h ⊢;simp only[bne_self_eq_false,cond_false]at h ⊢;by_cases i:(fB a b c d f).2.2=0
  ·have m:=Mt i;rw[i];simp only[bne_self_eq_false,cond_false];have j:=eJ (fB a b c d e).1 (fB a b c d f).1;have k:=dY (fB a b c d e).2.1 (fB a b c d f).2.1;omega
  ·rw[bne_iff_ne.2 i]at h;exact absurd h i
 ·rw[bne_iff_ne.2 g]at h;exact absurd h g
theorem PG{l:Nat}(a:l<=5)(i:Nat):dO i l%337500=0:=by
 unfold dO;rcases(show l=0\/l=1\/l=2\/l=3\/l=4\/l=5 by omega)with rfl|rfl|rfl|rfl|rfl|rfl<;>simp<;>omega
def dF(g:cF):Int×Int:=((Zo g.1 g.2.1 g.2.2.1 g.2.2.2).1,(Zo g.1 g.2.1 g.2.2.1 g.2.2.2).2.1)
def fJ(g:cF):Int×Int:=((Zo g.1 g.2.1 g.2.2.1 g.2.2.2).2.2.1,(Zo g.1 g.2.1 g.2.2.1 g.2.2.2).2.2.2)
def lX(g:cF):Prop:=aB g.1 g.2.1=true/\0<=g.2.2.1/\g.2.2.1<=g.2.2.2/\g.2.2.2<=300000
theorem wG{g:cF}(h:lX g):(-300000<=(dF g).1/\(dF g).1<=(dF g).2/\(dF g).2<=300000)/\(-300000<=(fJ g).1/\(fJ g).1<=(fJ g).2/\(fJ g).2<=300000):=by
 obtain⟨v,a,b,c⟩:=h;exact⟨tT (N:=300000) (AX v) (by omega) (by omega) (by omega) (by omega),tT (N:=300000) (IH (IL v)) (by omega) (by omega) (by omega) (by omega)⟩
def OI(q g:cF):Int×Int×Int×Int×Int:=Pe q.1 q.2.1 q.2.2.1 q.2.2.2 g.1 g.2.1 g.2.2.1 g.2.2.2
def TN(q g:cF):cF:=((OI q g).1,(OI q g).2.1,(OI q g).2.2.1,(OI q g).2.2.2.1)
theorem aAC{a b c d:Int}(h:(cG a b c d).2.2=0):a<=(cG a b c d).1/\(cG a b c d).1<=(cG a b c d).2.1/\(cG a b c d).2.1<=b:=by
 unfold cG at h ⊢;split at h
 ·rename_i g;rw[if_pos g];split at h
  ·cases h
  ·rename_i e;rw[if_neg e];have:=dY a c;have:=eJ b d;dsimp only;omega
 ·cases h
theorem SF{q g:cF}(hg:lX g)(vq:cT q.1 q.2.1 q.2.2.1 q.2.2.2=true)(kq:iY q.2.2.1 q.2.2.2)(near:-5340000<=q.1/\q.2.1<=5340000)(l:(OI q g).2.2.2.2=0):
  ∃s t:Int,s<=t/\-1099511627776<=s/\t<=1099511627776/\OI q g=(q.1+(dF g).1,q.2.1+(dF g).2,(dS (q.2.2.1+s) (q.2.2.2+t)).1,(dS (q.2.2.1+s) (q.2.2.2+t)).2,0)/\-5340000<=q.1+(dF g).1/\q.2.1+(dF g).2<=5340000/\
   0<(aR (mn q.1 (q.1+(dF g).1)) (mx q.2.1 (q.2.1+(dF g).2))).1/\dL (aR (mn q.1 (q.1+(dF g).1)) (mx q.2.1 (q.2.1+(dF g).2))).1 (aR (mn q.1 (q.1+(dF g).1)) (mx q.2.1 (q.2.1+(dF g).2))).2 (fJ g).1 (fJ g).2<=s/\
   t<=dH (aR (mn q.1 (q.1+(dF g).1)) (mx q.2.1 (q.2.1+(dF g).2))).1 (aR (mn q.1 (q.1+(dF g).1)) (mx q.2.1 (q.2.1+(dF g).2))).2 (fJ g).1 (fJ g).2:=by
 obtain⟨⟨d1,d2,d3⟩,e1,e2,e3⟩:=wG hg;have vb:=uT vq;have kb:=iC kq;obtain⟨a,b,c,d⟩:=q;obtain⟨e,f,u,v⟩:=g;dsimp only at*;unfold OI at l ⊢;dsimp only at l ⊢;unfold Pe WR at l ⊢;simp only[lt]at l ⊢;have G:(gQ u v (aR e f).1 (aR e f).2).1=(dF (e,f,u,v)).1:=rfl;have H:(gQ u v (aR e f).1 (aR e f).2).2=(dF (e,f,u,v)).2:=rfl;have I:(gQ u v (lV e f).1 (lV e f).2).1=(fJ (e,f,u,v)).1:=rfl;have J:(gQ u v (lV e f).1 (lV e f).2).2=(fJ (e,f,u,v)).2:=rfl;rw[G,H,I,J]at l ⊢;clear G H I J;generalize (dF (e,f,u,v)).1=m at*;generalize (dF (e,f,u,v)).2=n at*;generalize (fJ (e,f,u,v)).1=i at*;generalize (fJ (e,f,u,v)).2=j at*;rw[bZ (x:=a+m) (by omega),bZ (x:=b+n) (by omega)]at l ⊢;cases O:nJ (a+m) (b+n)with
 |false=>rw[O]at l;cases l
 |true=>
 obtain⟨n1,n2⟩:=TZ O;rw[O]at l;simp only[Bool.not_true,cond_false]at l ⊢;have X:=eJ a (a+m);have Y:=dY b (b+n);have vw:aB (mn a (a+m)) (mx b (b+n))=true:=aW (by omega) (by omega) (by omega);have pos:0<(aR (mn a (a+m)) (mx b (b+n))).1:=Vl (by omega) (by omega) (by omega);obtain⟨_,o,_⟩:=AX vw;generalize (aR (mn a (a+m)) (mx b (b+n))).1=x at*;generalize (aR (mn a (a+m)) (mx b (b+n))).2=y at*;have hR:=aDJ (c:=i) (d:=j) pos o;have N:=aBH (e:=i) (f:=j) pos (show 0<y by omega);have U:=fun h=>aB7 (a:=1073741824) (b:=1073741824) (c:=x) (d:=y) (e:=i) (f:=j) h;by_cases D:(tX 1073741824 1073741824 x y i j).2.2=0
 case neg=>
  rw[bne_iff_ne.2 D]at l;exact absurd l D
 have R:=U D;have hR:=hR D;rw[hR]at l R ⊢;dsimp only at l R ⊢;simp only[bne_self_eq_false,cond_false]at l ⊢;clear hR U D;obtain⟨p,z⟩:∃p:Int×Int×Int×Int×Int->Prop,p=fun T=>T.2.2.2.2=0->∃s t:Int,s<=t/\-1099511627776<=s/\t<=1099511627776/\T=(a+m,b+n,(dS (c+s) (d+t)).1,(dS (c+s) (d+t)).2,0)/\-5340000<=a+m/\b+n<=5340000/\0<x/\dL x y i j<=s/\t<=dH x y i j:=⟨_,rfl⟩;have L:∀(k:Bool) A B,p A->p B->p (cond k A B):=fun k A B M h2=>by
  cases k
  ·exact h2
  ·exact M
 have fin:∀s t:Int,s<=t->dL x y i j<=s->t<=dH x y i j->p (a+m,b+n,(iJ (i64.wrap (c+s)) (i64.wrap (d+t))).1,(iJ (i64.wrap (c+s)) (i64.wrap (d+t))).2,0):=fun s t M h4 h5=>by
  rw[z];exact fun _=>⟨s,t,M,by omega,by omega,by rw[bZ (x:=c+s) (by omega),bZ (x:=d+t) (by omega),Qx],n1,n2,pos,h4,h5⟩
 have Q:=fin _ _ N (zV _) (zV _);have Z:∀r w,p (cond ((cG (dL x y i j) (dH x y i j) r w).2.2 != 0) (0,0,0,0,(cG (dL x y i j) (dH x y i j) r w).2.2) (a+m,b+n,(iJ (i64.wrap (c+(cG (dL x y i j) (dH x y i j) r w).1)) (i64.wrap (d+(cG (dL x y i j) (dH x y i j) r w).2.1))).1,(iJ (i64.wrap (c+(cG (dL x y i j) (dH x y i j) r w).1)) (i64.wrap (d+(cG (dL x y i j) (dH x y i j) r w).2.1))).2,0)):=fun r w=>by
  by_cases K:(cG (dL x y i j) (dH x y i j) r w).2.2=0
  ·obtain⟨X,Y,m3⟩:=aAC K;rw[K];exact fin _ _ Y X m3
  ·rw[bne_iff_ne.2 K,z];exact fun h=>absurd h K
 have E:∀T,p T->T.2.2.2.2=0->∃s t:Int,s<=t/\-1099511627776<=s/\t<=1099511627776/\T=(a+m,b+n,(dS (c+s) (d+t)).1,(dS (c+s) (d+t)).2,0)/\-5340000<=a+m/\b+n<=5340000/\0<x/\dL x y i j<=s/\t<=dH x y i j:=fun T V h=>by
  rw[z]at V;exact V h
 refine E _ ?_ l;clear E l;exact L _ _ _ (L _ _ _ (Z _ _) Q) (L _ _ _ (L _ _ _ (Z _ _) Q) Q)
theorem Yy{q g:cF}(a:lX g)(d:cT q.1 q.2.1 q.2.2.1 q.2.2.2=true)(c:iY q.2.2.1 q.2.2.2)(near:-5340000<=q.1/\q.2.1<=5340000)(f:(OI q g).2.2.2.2=0):
  cT (TN q g).1 (TN q g).2.1 (TN q g).2.2.1 (TN q g).2.2.2=true/\iY (TN q g).2.2.1 (TN q g).2.2.2/\-5340000<=(TN q g).1/\(TN q g).2.1<=5340000:=by
 obtain⟨s,t,l,s1,t1,e,h,i,_⟩:=SF a d c near f;have m:=uT d;have k:=iC c;have j:=(wG a).1;have b:iY (dS (q.2.2.1+s) (q.2.2.2+t)).1 (dS (q.2.2.1+s) (q.2.2.2+t)).2:=Tj (by omega) (by omega) (by omega);unfold TN;rw[e];exact⟨mL (by dsimp only;omega) (by dsimp only;omega) (by dsimp only;omega) b,b,h,i⟩
end
end
end Go.Proofs.YtlbklncoihhfcaaGreatDoor
