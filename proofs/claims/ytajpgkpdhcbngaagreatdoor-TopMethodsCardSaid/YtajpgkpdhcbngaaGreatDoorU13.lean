/-
  Gauss's formulas, for the truth: the half zenith distance and the azimuth's two directions. No program here. Half-angles: the altitude's and the azimuth's arcs hold the truth. No program here..
-/
import Derived.Test.YtajpgkpdhcbngaaGreatDoorU11
import Derived.Test.YtajpgkpdhcbngaaGreatDoorU2
set_option maxRecDepth 100000
set_option maxHeartbeats 4000000
open Go.RowKit.Below renaming heap_alloc→ahX,refl→aeX
open _root_.Int renaming emod_lt_of_pos→agQ,emod_nonneg→aiQ,le_refl→abJ,mul_comm→akZ,mul_neg→auX,mul_nonneg→aeJ,neg_mul→amQ
open Go.Lib renaming hid→aaX
open _root_.Nat renaming le_refl→aaJ
open _root_.Rat renaming intCast_add→acQ,intCast_mul→acX,intCast_sub→abZ,le_total→abX,mul_nonneg→aaQ
open Go.Proofs.Tryz renaming prog→aaZ
open Go.World renaming setCell→ayQ,size_alloc→agZ
open Go.IntKind (i64 u64)
namespace Go.Proofs.YtajpgkpdhcbngaaGreatDoor
section
open SM TB TA
theorem ee0:e0=1048576*u0:=rfl
theorem dblq (q:Rat):Cl (e0/20) (2*(si q*si q)) (1-co (q+q))∧Cl (e0/20) (2*(co q*co q)) (1+co (q+q))∧Cl (e0/20) (2*(si q*co q)) (si (q+q)):=by
 have a:=wZ q q;have n:=nE q;have u:=aY;have e:=ee0;unfold Cl at*;generalize co q*co q=c2 at*;generalize si q*si q=s2 at*;rw [show si q*co q+co q*si q=2*(si q*co q) by grind] at a;generalize si q*co q=sc at*;refine ⟨⟨?_,?_⟩,⟨?_,?_⟩,?_,?_⟩<;>grind
theorem compq (q:Rat):Cl (e0/20) (co (10800000-q)) (-co q)∧Cl (e0/20) (si (10800000-q)) (si q):=by
 have a:=oppq (-q);have n:=vK q;have u:=aY;have e:=ee0;rw [show -q+10800000=10800000-q by grind] at a;unfold Cl at*;refine ⟨⟨?_,?_⟩,?_,?_⟩<;>grind
theorem mul2 {e a b c d:Rat} (h:Cl e a b) (k:Cl e c d) (hb:-5≤b∧b≤5) (hd:-5≤d∧d≤5) (he1:e≤1):Cl (11*e) (a*c) (b*d):=by
 have m:=Cl.mul 6 5 h k (by unfold Cl at k;constructor<;>grind) hb;exact m.wide (by grind)
theorem bd_prod (p q:Rat):(-3/2≤co p*co q∧co p*co q≤3/2)∧(-3/2≤si p*si q∧si p*si q≤3/2)∧(-3/2≤si p*co q∧si p*co q≤3/2)∧(-3/2≤co p*si q∧co p*si q≤3/2):=by
 have a:=LO p;have b:=LO q;have u:=aY;refine ⟨?_,?_,?_,?_⟩
 ·have:=aB (a:=co p) (b:=co q) (A:=11/10) (B:=11/10) (by grind) (by grind) (by grind) (by grind);constructor<;>grind
 ·have:=aB (a:=si p) (b:=si q) (A:=11/10) (B:=11/10) (by grind) (by grind) (by grind) (by grind);constructor<;>grind
 ·have:=aB (a:=si p) (b:=co q) (A:=11/10) (B:=11/10) (by grind) (by grind) (by grind) (by grind);constructor<;>grind
 ·have:=aB (a:=co p) (b:=si q) (A:=11/10) (B:=11/10) (by grind) (by grind) (by grind) (by grind);constructor<;>grind
theorem halves {x y t u v w:Rat} (hu:u+u=10800000-(x+y)) (hv:v+v=x-y) (hw:co (w+w)=co t∧si (w+w)=si t):
  Cl (e0/4) (2*(si u*si u)) (1+(co x*co y-si x*si y))∧Cl (e0/4) (2*(co u*co u)) (1-(co x*co y-si x*si y))∧Cl (e0/4) (2*(si u*co u)) (si x*co y+co x*si y)∧
  Cl (e0/4) (2*(si v*si v)) (1-(co x*co y+si x*si y))∧Cl (e0/4) (2*(co v*co v)) (1+(co x*co y+si x*si y))∧Cl (e0/4) (2*(si v*co v)) (si x*co y-co x*si y)∧
  Cl (e0/4) (2*(si w*si w)) (1-co t)∧Cl (e0/4) (2*(co w*co w)) (1+co t)∧Cl (e0/4) (2*(si w*co w)) (si t):=by
 have a:=dblq u;have b:=dblq v;have c:=dblq w;rw [hu] at a;rw [hv] at b;rw [hw.1,hw.2] at c;have k:=compq (x+y);have p:=wZ x y;have q:=qH x y;have ub:=aY;have e:=ee0;have c1:=c.1.wide (show e0/20≤e0/4 by grind);have c2:=c.2.1.wide (show e0/20≤e0/4 by grind);have c3:=c.2.2.wide (show e0/20≤e0/4 by grind);refine ⟨?_,?_,?_,?_,?_,?_,c1,c2,c3⟩
 ·have a:=a.1;have k:=k.1;have p:=p.1;clear b c c1 c2 c3 q;unfold Cl at*;constructor<;>grind
 ·have a:=a.2.1;have k:=k.1;have p:=p.1;clear b c c1 c2 c3 q;unfold Cl at*;constructor<;>grind
 ·have a:=a.2.2;have k:=k.2;have p:=p.2;clear b c c1 c2 c3 q;unfold Cl at*;constructor<;>grind
 ·have b:=b.1;have q:=q.1;clear a c c1 c2 c3 p k;unfold Cl at*;constructor<;>grind
 ·have b:=b.2.1;have q:=q.1;clear a c c1 c2 c3 p k;unfold Cl at*;constructor<;>grind
 ·have b:=b.2.2;have q:=q.2;clear a c c1 c2 c3 p k;unfold Cl at*;constructor<;>grind
theorem bd_six (x y t:Rat):(-5≤1+(co x*co y-si x*si y)∧1+(co x*co y-si x*si y)≤5)∧(-5≤1-(co x*co y-si x*si y)∧1-(co x*co y-si x*si y)≤5)∧(-5≤si x*co y+co x*si y∧si x*co y+co x*si y≤5)∧
  (-5≤1-(co x*co y+si x*si y)∧1-(co x*co y+si x*si y)≤5)∧(-5≤1+(co x*co y+si x*si y)∧1+(co x*co y+si x*si y)≤5)∧(-5≤si x*co y-co x*si y∧si x*co y-co x*si y≤5)∧
  (-5≤1-co t∧1-co t≤5)∧(-5≤1+co t∧1+co t≤5)∧(-5≤si t∧si t≤5)∧(-5≤co y∧co y≤5):=by
 obtain ⟨p1,p2,p3,p4⟩:=bd_prod x y;have bt:=cL t;have by':=cL y;generalize co x*co y=A at*;generalize si x*si y=B at*;generalize si x*co y=C at*;generalize co x*si y=D at*;generalize co t=E at*;generalize si t=F at*;generalize co y=G at*;refine ⟨⟨?_,?_⟩,⟨?_,?_⟩,⟨?_,?_⟩,⟨?_,?_⟩,⟨?_,?_⟩,⟨?_,?_⟩,⟨?_,?_⟩,⟨?_,?_⟩,⟨?_,?_⟩,?_,?_⟩<;>grind
theorem gauss {x y t h u v w κ:Rat} (hu:u+u=10800000-(x+y)) (hv:v+v=x-y) (hw:co (w+w)=co t∧si (w+w)=si t) (huv:u+v=5400000-y) (hk:κ+κ=5400000-h) (hs:Cl (5*e0) (si h) (gJ x y t)):
  Cl (16*e0) (si u*si w*(si u*si w)+si v*co w*(si v*co w)) (si κ*si κ)∧
  Cl (16*e0) (co u*si w*(co u*si w)+co v*co w*(co v*co w)) (co κ*co κ)∧
  Cl (16*e0) (2*(co u*si w*(si u*si w)-co v*co w*(si v*co w))) (gS x y t)∧
  Cl (16*e0) (2*(co u*si w*(si v*co w)+co v*co w*(si u*si w))) (-(iQ y t))∧
  Cl (16*e0) (2*(co κ*si κ)) (co h):=by
 obtain ⟨a1,a2,a3,b1,b2,b3,c1,c2,c3⟩:=halves hu hv hw;have d:=dblq κ;rw [hk] at d;have cq:=yY h;have av:=wZ u v;rw [huv] at av;have cy:=yY y;have ub:=aY;have e:=ee0;have eb:=dY;obtain ⟨g1,g2,g3,g4,g5,g6,g7,g8,g9,g10⟩:=bd_six x y t;have eq:e0/4≤1:=by grind
 have w1:Cl (e0/4) (si u*co v+co u*si v) (co y):=by
  have av:=av.2;have cy:=cy.1;clear a1 a2 a3 b1 b2 b3 c1 c2 c3 g1 g2 g3 g4 g5 g6 g7 g8 g9 g10 d cq;unfold Cl at av cy ⊢;constructor<;>grind
 have r1:=mul2 a1 c1 g1 g7 eq;have r2:=mul2 b1 c2 g4 g8 eq;have r3:=mul2 a2 c1 g2 g7 eq;have r4:=mul2 b2 c2 g5 g8 eq;have r5:=mul2 a3 c1 g3 g7 eq;have r6:=mul2 b3 c2 g6 g8 eq;have r7:=mul2 c3 w1 g9 g10 eq;clear a1 a2 a3 b1 b2 b3 c1 c2 c3 g1 g2 g3 g4 g5 g6 g7 g8 g9 g10 w1 av cy;refine ⟨?_,?_,?_,?_,?_⟩
 ·have d:=d.1;have cq:=cq.2;unfold gJ at hs;unfold Cl at r1 r2 d cq hs ⊢;have f1:si u*si w*(si u*si w)=2*(si u*si u)*(2*(si w*si w))/4:=by grind
  have f2:si v*co w*(si v*co w)=2*(si v*si v)*(2*(co w*co w))/4:=by grind
  rw [f1,f2];generalize 2*(si u*si u)*(2*(si w*si w))=X1 at*;generalize 2*(si v*si v)*(2*(co w*co w))=X2 at*;generalize si κ*si κ=K at*;generalize co (5400000-h)=J at*;have g:(1+(co x*co y-si x*si y))*(1-co t)+(1-(co x*co y+si x*si y))*(1+co t)=2-2*(si x*si y+co x*co y*co t):=by grind
  generalize (1+(co x*co y-si x*si y))*(1-co t)=Y1 at*;generalize (1-(co x*co y+si x*si y))*(1+co t)=Y2 at*;generalize si x*si y+co x*co y*co t=U at*;generalize si h=s at*;constructor<;>grind
 ·have d:=d.2.1;have cq:=cq.2;unfold gJ at hs;unfold Cl at r3 r4 d cq hs ⊢;have f1:co u*si w*(co u*si w)=2*(co u*co u)*(2*(si w*si w))/4:=by grind
  have f2:co v*co w*(co v*co w)=2*(co v*co v)*(2*(co w*co w))/4:=by grind
  rw [f1,f2];generalize 2*(co u*co u)*(2*(si w*si w))=X1 at*;generalize 2*(co v*co v)*(2*(co w*co w))=X2 at*;generalize co κ*co κ=K at*;generalize co (5400000-h)=J at*;have g:(1-(co x*co y-si x*si y))*(1-co t)+(1+(co x*co y+si x*si y))*(1+co t)=2+2*(si x*si y+co x*co y*co t):=by grind
  generalize (1-(co x*co y-si x*si y))*(1-co t)=Y1 at*;generalize (1+(co x*co y+si x*si y))*(1+co t)=Y2 at*;generalize si x*si y+co x*co y*co t=U at*;generalize si h=s at*;constructor<;>grind
 ·unfold gS;unfold Cl at r5 r6 ⊢;have f1:co u*si w*(si u*si w)=2*(si u*co u)*(2*(si w*si w))/4:=by grind
  have f2:co v*co w*(si v*co w)=2*(si v*co v)*(2*(co w*co w))/4:=by grind
  rw [f1,f2];generalize 2*(si u*co u)*(2*(si w*si w))=X1 at*;generalize 2*(si v*co v)*(2*(co w*co w))=X2 at*;have g:(si x*co y+co x*si y)*(1-co t)-(si x*co y-co x*si y)*(1+co t)=2*(si y*co x-co y*co t*si x):=by grind
  generalize (si x*co y+co x*si y)*(1-co t)=Y1 at*;generalize (si x*co y-co x*si y)*(1+co t)=Y2 at*;generalize si y*co x-co y*co t*si x=N at*;constructor<;>grind
 ·unfold iQ;unfold Cl at r7 ⊢;have f1:co u*si w*(si v*co w)+co v*co w*(si u*si w)=2*(si w*co w)*(si u*co v+co u*si v)/2:=by grind
  rw [f1];rw [show si t*co y=co y*si t by grind] at r7;generalize 2*(si w*co w)*(si u*co v+co u*si v)=X1 at*;generalize co y*si t=N at*;constructor<;>grind
 ·have d:=d.2.2;have cq:=cq.1;unfold Cl at d cq ⊢;rw [show co κ*si κ=si κ*co κ by grind];generalize si κ*co κ=K at*;constructor<;>grind
end
section
open SM TB TA
def fU (a b c d:Int):Int×Int:=((10800000-b-d)/2,-(-(10800000-a-c)/2))
def fV (a b c d:Int):Int×Int:=((a-d)/2,-(-(b-c)/2))
def fW (e f:Int):Int×Int:=(fG e f/2,-(-dU e f/2))
def mB (r s:Int×Int×Int):Int×Int×Int:=bF r.1 r.2.1 s.1 s.2.1
def zU (a b c d e f:Int):Int×Int×Int:=mB (aI (fU a b c d).1 (fU a b c d).2) (aK (fW e f).1 (fW e f).2)
def zV (a b c d e f:Int):Int×Int×Int:=mB (aI (fV a b c d).1 (fV a b c d).2) (aI (fW e f).1 (fW e f).2)
def zW (a b c d e f:Int):Int×Int×Int:=mB (aK (fU a b c d).1 (fU a b c d).2) (aK (fW e f).1 (fW e f).2)
def zX (a b c d e f:Int):Int×Int×Int:=mB (aK (fV a b c d).1 (fV a b c d).2) (aI (fW e f).1 (fW e f).2)
def yT (r s:Int×Int×Int):Int×Int×Int:=gB (dN r.1 r.2.1).1 (dN r.1 r.2.1).2.1 (dN s.1 s.2.1).1 (dN s.1 s.2.1).2.1
def YG (r s:Int×Int×Int):Int×Int×Int:=CR (yT r s).1 (yT r s).2.1
def FR (a b c d e f:Int):Int×Int×Int:=YG (zW a b c d e f) (zX a b c d e f)
def FQ (a b c d e f:Int):Int×Int×Int:=YG (zU a b c d e f) (zV a b c d e f)
def EP (r s:Int×Int×Int):Int×Int×Int:=aX r.1 r.2.1 s.1 s.2.1
def fullB (r:Int×Int×Int):Bool:=decide (21600000≤r.2.1-r.1)
def zT (a b c d e f:Int):Int×Int×Int:=EP (FR a b c d e f) (FQ a b c d e f)
def hfH (a b c d e f:Int):Int×Int×Int:=(5400000-2*(zT a b c d e f).2.1,5400000-2*(zT a b c d e f).1,0)
def hfA (a b c d e f:Int):Int×Int×Int:=EP (zV a b c d e f) (zU a b c d e f)
def hfC (a b c d e f:Int):Int×Int×Int:=EP (zX a b c d e f) (zW a b c d e f)
def xG (r s:Int×Int×Int):Int×Int×Int:=if fullB r||fullB s then (0,21600000,0) else (fG (-(r.2.1+s.2.1)) (-(r.1+s.1)),dU (-(r.2.1+s.2.1)) (-(r.1+s.1)),0)
def hfZ (a b c d e f:Int):Int×Int×Int:=xG (hfA a b c d e f) (hfC a b c d e f)
theorem turn_in {e f:Int} {t:Rat} (_h:aE e f=true) (ht:Hs 0 e f t):∃m:Int,Hs 0 (fG e f) (dU e f) (t+21600000*(m:Rat)):=by
 unfold fG dU;by_cases c:21600000≤f-e
 ·rw [if_pos c,if_pos c];exact Dr.all (by grind) t
 ·rw [if_neg c,if_neg c];refine ⟨-(e/21600000),?_⟩;have q:e%21600000=e+21600000*-(e/21600000):=by omega
  rw [q];unfold Hs at*;rw [acQ,acQ,acQ,acX,abZ,show ((21600000:Int):Rat)=21600000 by rfl];generalize ((-(e/21600000):Int):Rat)=k at*;constructor<;>grind
theorem ang_bd {a b c d e f:Int} (h:dV a b c d e f=true):aE (fU a b c d).1 (fU a b c d).2=true∧aE (fV a b c d).1 (fV a b c d).2=true∧aE (fW e f).1 (fW e f).2=true:=by
 obtain ⟨h1,h2,h3⟩:=gA h;have l1:=bW h1;have l2:=bW h2;have l3:=cG h3;have m0:=aiQ e (show (21600000:Int)≠0 by omega);have m1:=agQ e (show (0:Int)<21600000 by omega);refine ⟨?_,?_,?_⟩
 ·unfold fU;exact aR (by dsimp only;omega) (by dsimp only;omega) (by dsimp only;omega)
 ·unfold fV;exact aR (by dsimp only;omega) (by dsimp only;omega) (by dsimp only;omega)
 ·unfold fW fG dU;split
  ·exact aR (by dsimp only;omega) (by dsimp only;omega) (by dsimp only;omega)
  ·exact aR (by dsimp only;omega) (by dsimp only;omega) (by dsimp only;omega)
theorem ang_v {a b c d e f:Int} {x y t:Rat} (h:dV a b c d e f=true) (hx:Hs 0 a b x) (hy:Hs 0 c d y) (ht:Hs 0 e f t):
  ∃u v w:Rat,u+u=10800000-(x+y)∧v+v=x-y∧(co (w+w)=co t∧si (w+w)=si t)∧u+v=5400000-y∧Hs 0 (fU a b c d).1 (fU a b c d).2 u∧Hs 0 (fV a b c d).1 (fV a b c d).2 v∧Hs 0 (fW e f).1 (fW e f).2 w:=by
 obtain ⟨h1,h2,h3⟩:=gA h;obtain ⟨m,hm⟩:=turn_in h3 ht;refine ⟨(10800000-(x+y))/2,(x-y)/2,(t+21600000*(m:Rat))/2,by grind,by grind,?_,by grind,?_,?_,?_⟩
 ·rw [show (t+21600000*(m:Rat))/2+(t+21600000*(m:Rat))/2=t+21600000*(m:Rat) by grind];exact eQ t m
 ·refine half_v (by grind) ?_;rw [show 2*((10800000-(x+y))/2)=10800000-(x+y) by grind];unfold Hs at*;rw [abZ,abZ,abZ,abZ,show ((10800000:Int):Rat)=10800000 by rfl];constructor<;>grind
 ·refine half_v (by grind) ?_;rw [show 2*((x-y)/2)=x-y by grind];unfold Hs at*;rw [abZ,abZ];constructor<;>grind
 ·refine half_v (by grind) ?_;rw [show 2*((t+21600000*(m:Rat))/2)=t+21600000*(m:Rat) by grind];exact hm
theorem one4 {a b c d e f:Int} (h:dV a b c d e f=true):fJ (zU a b c d e f)∧fJ (zV a b c d e f)∧fJ (zW a b c d e f)∧fJ (zX a b c d e f):=by
 obtain ⟨u,v,w⟩:=ang_bd h;exact ⟨aM (aW u) (aU w),aM (aW v) (aW w),aM (aU u) (aU w),aM (aU v) (aW w)⟩
theorem four_v {a b c d e f:Int} {u v w:Rat} (h:dV a b c d e f=true) (hu:Hs 0 (fU a b c d).1 (fU a b c d).2 u) (hv:Hs 0 (fV a b c d).1 (fV a b c d).2 v) (hw:Hs 0 (fW e f).1 (fW e f).2 w):
  Vl (zU a b c d e f) (15*e1) (co u*si w)∧Vl (zV a b c d e f) (15*e1) (co v*co w)∧Vl (zW a b c d e f) (15*e1) (si u*si w)∧Vl (zX a b c d e f) (15*e1) (si v*co w):=by
 obtain ⟨vu,vv,vw⟩:=ang_bd h;have e1b:=iL;have q:5*e1≤1/4:=by grind
 have q0:0≤5*e1:=by grind
 have su:=kG vu hu;have cu:=jI vu hu;have sv:=kG vv hv;have cv:=jI vv hv;have sw:=kG vw hw;have cw:=jI vw hw;refine ⟨?_,?_,?_,?_⟩
 ·exact (fX (aW vu) (aU vw) q0 q cu sw).wide (by grind)
 ·exact (fX (aW vv) (aW vw) q0 q cv cw).wide (by grind)
 ·exact (fX (aU vu) (aU vw) q0 q su sw).wide (by grind)
 ·exact (fX (aU vv) (aW vw) q0 q sv cw).wide (by grind)
def sF:Rat:=pw 570
def tF:Rat:=pw 1140
theorem lvF:1073741824*(90*e1+1073741824*(18*e0))≤tF∧0≤tF∧tF≤sF*sF∧0≤sF∧tF≤sF∧sF+1073741824*eT≤1/2^91∧2^64*(sF+1073741824*eT+2*e1)≤dS/4∧15*e1+1073741824*(2*eT)≤1/2^91∧2^64*(15*e1+1073741824*(2*eT)+2*e1)≤dS/8∧5*e0≤eT∧15*e1≤1/4∧dS≤1/8∧2^64*eT≤1/2^100∧0<eT∧16000000*(2^50*eT+e0)≤dS/8∧2^50*eT≤1/2^40:=by decide+kernel
theorem JP {r s:Int×Int×Int} (h:fJ r) (k:fJ s):yT r s=((dN r.1 r.2.1).1+(dN s.1 s.2.1).1,(dN r.1 r.2.1).2.1+(dN s.1 s.2.1).2.1,0)∧0≤(yT r s).1∧aN (yT r s).1 (yT r s).2.1=true∧(YG r s).2.2=0∧0≤(YG r s).1∧aN (YG r s).1 (YG r s).2.1=true:=by
 obtain ⟨_,p2,p3⟩:=mG h;obtain ⟨_,q2,q3⟩:=mG k;have a:=qP p2 q2;have e:yT r s=((dN r.1 r.2.1).1+(dN s.1 s.2.1).1,(dN r.1 r.2.1).2.1+(dN s.1 s.2.1).2.1,0):=a.1;have v:aN (yT r s).1 (yT r s).2.1=true:=by
  rw [e];exact a.2
 have z:0≤(yT r s).1:=by
  rw [e];dsimp only;omega
 have b:=iP v;have q:=sqt_ok z b.2.1 b.2.2;have e2:YG r s=(nW ((yT r s).1*1073741824),JJ ((yT r s).2.1*1073741824),0):=q.1;refine ⟨e,z,v,?_,?_,?_⟩
 ·rw [e2]
 ·rw [e2];exact q.2.1
 ·rw [e2];exact fF (by dsimp only;omega) q.2.2.1 q.2.2.2
theorem len_v {r s:Int×Int×Int} {X Y ρ:Rat} (h:fJ r) (k:fJ s) (h':Vl r (15*e1) X) (k':Vl s (15*e1) Y) (hr:0≤ρ) (hu:Cl (18*e0) (ρ*ρ) (X*X+Y*Y)):Vl (YG r s) sF ρ:=by
 obtain ⟨w1,w2,w3,w4,w5,_,_,_,_,_,w11,_⟩:=lvF;have e1b:=iL;have a:=sqr_v h (by grind) w11 h';have b:=sqr_v k (by grind) w11 k';obtain ⟨_,p2,p3⟩:=mG h;obtain ⟨_,q2,q3⟩:=mG k;have s':=MO p2 q2 a b;have l:=JP h k;have n:Vl (yT r s) (90*e1+1073741824*(18*e0)) (ρ*ρ):=Vl.near (Vl.wide s' (by grind)) hu;exact sqt_v l.2.1 n hr w1 w2 w3 w4 w5
theorem co_nn {κ:Rat} (h0:0≤κ) (h1:κ≤5400000):∃r:Rat,0≤r∧r≤2∧Cl e0 r (co κ)∧Cl (2*e0) (r*r) (co κ*co κ):=by
 have cl:=mT (show -5400000≤κ by grind) h1;have eb:=dY;rcases (abX:0≤co κ∨co κ≤0) with c | c
 ·exact ⟨co κ,c,cl.2,Cl.refl _ (by grind),Cl.refl _ (by grind)⟩
 ·refine ⟨0,by grind,by grind,?_,?_⟩
  ·unfold Cl;constructor<;>grind
  ·have m:=aB (a:=co κ) (b:=co κ) (A:=e0) (B:=1) (by grind) (by grind) (by grind) (by grind);unfold Cl;constructor<;>grind
theorem val4 {a b c d e f:Int} (h:dV a b c d e f=true):aN (FR a b c d e f).1 (FR a b c d e f).2.1=true∧aN (FQ a b c d e f).1 (FQ a b c d e f).2.1=true∧0≤(FR a b c d e f).1∧0≤(FQ a b c d e f).1:=by
 obtain ⟨p,q,r,s⟩:=one4 h;have a:=JP r s;have b:=JP p q;exact ⟨a.2.2.2.2.2,b.2.2.2.2.2,a.2.2.2.2.1,b.2.2.2.2.1⟩
theorem hf_up {a b c d e f:Int} {x y t h' z':Rat} (h:dV a b c d e f=true) (ho:dI (FR a b c d e f).1 (FR a b c d e f).2.1 (FQ a b c d e f).1 (FQ a b c d e f).2.1=false) (hx:Hs 0 a b x) (hy:Hs 0 c d y) (ht:Hs 0 e f t) (s:dE x y t h' z'):
  Hs dS (hfH a b c d e f).1 (hfH a b c d e f).2.1 h':=by
 obtain ⟨u,v,w,gu,gv,gw,guv,hu,hv,hw⟩:=ang_v h hx hy ht;obtain ⟨h0,h1,_,_,k1,_,_⟩:=s;obtain ⟨G1,G2,_,_,_⟩:=gauss (κ:=(5400000-h')/2) gu gv gw guv (by grind) k1;obtain ⟨p,q,r,s⟩:=one4 h;obtain ⟨P,Q,R,S⟩:=four_v h hu hv hw;obtain ⟨w1,w2,w3,w4,w5,w6,w7,w8,w9,w10,w11,w12,_⟩:=lvF;have eb:=dY;have κ0:0≤(5400000-h')/2:=by grind
 have κ1:(5400000-h')/2≤5400000:=by grind
 have hh:h'=5400000-2*((5400000-h')/2):=by grind
 generalize (5400000-h')/2=κ at*;obtain ⟨ρ,r0,r1,rc,rr⟩:=co_nn κ0 κ1;have Y:=len_v r s R S (gG κ0 κ1) (G1.symm.wide (by grind));have X:=len_v p q P Q r0 (ρ:=ρ) ((Cl.trans rr G2.symm).wide (by grind));have V:=val4 h;have B:=xZ (q:=κ) (ρ:=1) (e:=sF) (t:=eT) Y X (by rw [show 1*si κ=si κ by grind];exact Cl.refl _ (by grind)) (by rw [show 1*co κ=co κ by grind];exact rc.symm.wide (by grind)) (by grind) (by grind) w4 (by grind) w6;have F:=xY V.1 V.2.1 V.2.2.1 V.2.2.2 ho;obtain ⟨_,m,B⟩:=B;have fb:zT a b c d e f=aX (FR a b c d e f).1 (FR a b c d e f).2.1 (FQ a b c d e f).1 (FQ a b c d e f).2.1:=rfl;have B':Hs (dS/4) (zT a b c d e f).1 (zT a b c d e f).2.1 (κ+21600000*(m:Rat)):=B.wide w7 (abJ _) (abJ _);rw [←fb] at F;unfold hfH;dsimp only;generalize zT a b c d e f=T at*;unfold Hs at B' ⊢;have f1:(0:Rat)≤(T.1:Rat):=aV (a:=0) F.1;have f2:(T.2.1:Rat)≤5400000:=aV (b:=5400000) F.2;have hm:m=0:=by
  rcases Int.lt_trichotomy m 0 with q | q | q
  ·have:=aV (show m≤-1 by omega);rw [show ((-1:Int):Rat)=-1 by rfl] at this;grind
  ·exact q
  ·have:=aV (show 1≤m by omega);rw [show ((1:Int):Rat)=1 by rfl] at this;grind
 subst hm;rw [show ((0:Int):Rat)=0 by rfl] at B';rw [abZ,abZ,acX,acX,show ((5400000:Int):Rat)=5400000 by rfl,show ((2:Int):Rat)=2 by rfl];constructor<;>grind
end
section
open SM TB TA
theorem dir_close {z γ ε:Rat} (he0:0≤ε) (he:ε≤1/2^50) (hc:Cl ε (co γ) (co z)) (hs:Cl ε (si γ) (si z)):∃m:Int,Cl (16000000*(6*ε+e0)) z (γ+21600000*(m:Rat)):=by
 have sb:=qH z γ;have un:=nE z;have ub:=aY;have e:=ee0;have eb:=dY;have bz:=LO z;have m1:=aB (a:=co z) (b:=co γ-co z) (A:=11/10) (B:=ε) (by grind) (by grind) (by unfold Cl at hc;grind) (by unfold Cl at hc;grind);have m2:=aB (a:=si z) (b:=si γ-si z) (A:=11/10) (B:=ε) (by grind) (by grind) (by unfold Cl at hs;grind) (by unfold Cl at hs;grind);have m3:=aB (a:=si z) (b:=co γ-co z) (A:=11/10) (B:=ε) (by grind) (by grind) (by unfold Cl at hc;grind) (by unfold Cl at hc;grind);have m4:=aB (a:=co z) (b:=si γ-si z) (A:=11/10) (B:=ε) (by grind) (by grind) (by unfold Cl at hs;grind) (by unfold Cl at hs;grind);have C:1/2≤co (z-γ):=by
  have sb:=sb.1;clear m3 m4 hc hs bz;unfold Cl at sb un;rw [show co z*co γ+si z*si γ=co z*co z+si z*si z+(co z*(co γ-co z)+si z*(si γ-si z)) by grind] at sb;generalize co z*co z+si z*si z=n at*;generalize co z*(co γ-co z)=x1 at*;generalize si z*(si γ-si z)=x2 at*;grind
 have S:Cl (5*ε+e0) (si (z-γ)) 0:=by
  have sb:=sb.2;clear m1 m2 hc hs bz un;unfold Cl at sb ⊢;rw [show si z*co γ-co z*si γ=si z*(co γ-co z)-co z*(si γ-si z) by grind] at sb;generalize si z*(co γ-co z)=x1 at*;generalize co z*(si γ-si z)=x2 at*;constructor<;>grind
 have rd:=qF (z-γ);have tq:=eQ (jB (z-γ)) (tm (z-γ));have hz:jB (z-γ)+21600000*(tm (z-γ):Rat)=z-γ:=by unfold jB;grind
 rw [hz] at tq;rw [tq.1] at C;rw [tq.2] at S;clear sb un m1 m2 m3 m4 tq bz hc hs;refine ⟨tm (z-γ),?_⟩;generalize ((tm (z-γ):Int):Rat)=k at*;generalize jB (z-γ)=D at*;have pc:=pos_co (p:=D) (ρ:=1) rd.1 (by grind) (by grind) (by grind) (by grind);unfold Cl at S;have t1:5*ε+e0≤1/2^40:=by grind
 unfold Cl;rcases (abX:0≤D∨D≤0) with g | g
 ·have:=AU (z:=D) (t:=5*ε+e0) g (by grind) t1 (by grind);constructor<;>grind
 ·have n:=gL (q:=D) (by grind) (by grind);have:=AU (z:=-D) (t:=5*ε+e0) (by grind) (by grind) t1 (by rw [n.1];grind);constructor<;>grind
theorem Dr_move {d g:Rat} {lo hi:Int} {γ z:Rat} {m:Int} (h:Dr d lo hi γ) (k:Cl g z (γ+21600000*(m:Rat))):Dr (d+g) lo hi z:=by
 obtain ⟨n,h⟩:=h;refine ⟨n-m,?_⟩;unfold Hs at*;unfold Cl at k;rw [abZ];generalize (n:Rat)=n' at*;generalize (m:Rat)=m' at*;constructor<;>grind
theorem VK {r s:Int×Int×Int} {X Y:Rat} (h:Vl r (15*e1) Y) (k:Vl s (15*e1) X) (hX:-1/2^31≤X∧X≤1/2^31) (hY:-1/2^31≤Y∧Y≤1/2^31):EP r s=(0,21600000,0):=by
 have e1b:=iL;obtain ⟨_,v1,a1,a2⟩:=h;obtain ⟨_,v2,b1,b2⟩:=k;have z:((0:Int):Rat)=0:=rfl;have c1:r.1≤0:=vM (e:=3/4) (by rw [z];grind) (by grind);have c2:0≤r.2.1:=vM (e:=3/4) (by rw [z];grind) (by grind);have c3:s.1≤0:=vM (e:=3/4) (by rw [z];grind) (by grind);have c4:0≤s.2.1:=vM (e:=3/4) (by rw [z];grind) (by grind);have o:dI r.1 r.2.1 s.1 s.2.1=true:=decide_eq_true (by omega);unfold EP aX;rw [v1,v2,o];rfl
theorem OH {r s:Int×Int×Int} (h:r=(0,21600000,0)∨s=(0,21600000,0)):xG r s=(0,21600000,0):=by
 unfold xG;have f:fullB ((0:Int),(21600000:Int),(0:Int))=true:=rfl;rcases h with rfl | rfl
 ·rw [f];rfl
 ·rw [f];simp
theorem oppS_dir {r s:Int×Int×Int} (h:oB r) (k:oB s):oB (xG r s)∧(((xG r s).1=0∧(xG r s).2.1=21600000)∨(xG r s).2.1<(xG r s).1+21600000):=by
 obtain ⟨h1,h2,h3,h4,h5⟩:=h;obtain ⟨k1,k2,k3,k4,k5⟩:=k;unfold xG;split
 ·exact ⟨⟨by dsimp only;omega,by dsimp only;omega,by dsimp only;omega,by dsimp only;omega,rfl⟩,.inl ⟨rfl,rfl⟩⟩
 ·have m0:=aiQ (-(r.2.1+s.2.1)) (show (21600000:Int)≠0 by omega);have m1:=agQ (-(r.2.1+s.2.1)) (show (0:Int)<21600000 by omega);unfold fG dU;split
  ·exact ⟨⟨by dsimp only;omega,by dsimp only;omega,by dsimp only;omega,by dsimp only;omega,rfl⟩,.inl ⟨rfl,rfl⟩⟩
  ·exact ⟨⟨by dsimp only;omega,by dsimp only;omega,by dsimp only;omega,by dsimp only;omega,rfl⟩,.inr (by dsimp only;omega)⟩
theorem oppS_v {r s:Int×Int×Int} {d α β:Rat} (d0:0≤d) (h:Dr d r.1 r.2.1 α) (k:Dr d s.1 s.2.1 β):Dr (2*d) (xG r s).1 (xG r s).2.1 (-(α+β)):=by
 unfold xG;split
 ·exact Dr.all (by grind) _
 ·obtain ⟨m,h⟩:=h;obtain ⟨n,k⟩:=k;have a:=(h.add k).neg;dsimp only;unfold fG dU;split
  ·exact Dr.all (by grind) _
  ·refine ⟨-(m+n)-(-(r.2.1+s.2.1))/21600000,?_⟩;have q:-(r.2.1+s.2.1)%21600000=-(r.2.1+s.2.1)+21600000*-(-(r.2.1+s.2.1)/21600000):=by omega
   rw [q];have q2:-(r.2.1+s.2.1)+21600000*-(-(r.2.1+s.2.1)/21600000)+(-(r.1+s.1)- -(r.2.1+s.2.1))=-(r.1+s.1)+21600000*-(-(r.2.1+s.2.1)/21600000):=by omega
   rw [q2,show -(m+n)- -(r.2.1+s.2.1)/21600000=-(m+n)+-(-(r.2.1+s.2.1)/21600000) by omega];generalize -(-(r.2.1+s.2.1)/21600000)=j at*;generalize -(r.2.1+s.2.1)=p at*;generalize -(r.1+s.1)=p' at*;unfold Hs at*;rw [acQ,acQ,acQ,Rat.intCast_neg,acQ,acX,show ((21600000:Int):Rat)=21600000 by rfl];generalize (m:Rat)=m' at*;generalize (n:Rat)=n' at*;generalize (j:Rat)=j' at*;constructor<;>grind
theorem arm {r s:Int×Int×Int} {X Y ρ:Rat} (h0:-e0≤ρ) (h1:ρ≤2) (h:Vl r (15*e1) Y) (k:Vl s (15*e1) X) (hu:Cl (40*e0) (X*X+Y*Y) (ρ*ρ)):
  oB (EP r s)∧∃α:Rat,Cl eT (ρ*co α) X∧Cl eT (ρ*si α) Y∧Dr (dS/8) (EP r s).1 (EP r s).2.1 α:=by
 obtain ⟨w1,w2,w3,w4,w5,w6,w7,w8,w9,w10,w11,w12,w13,w14,w15⟩:=lvF;have e1b:=iL;obtain ⟨α,_,_,a1,a2⟩:=aim h0 h1 hu;obtain ⟨ρ',p0,p1,b1,b2⟩:=AF h0 h1 a1 a2;have B:=xZ (q:=α) (ρ:=ρ') (e:=15*e1) (t:=2*eT) h k b2 b1 p0 (by grind) (by grind) (by grind) w8;exact ⟨B.1,α,a1,a2,B.2.wide w9⟩
theorem turn_arm {c s α β X Y P Q:Rat} (hc:-2≤c∧c≤2) (hs:-2≤s∧s≤2) (a1:Cl eT (c*co α) X) (a2:Cl eT (c*si α) Y) (b1:Cl eT (s*co β) P) (b2:Cl eT (s*si β) Q):
  Cl (30*eT) (c*s*co (-(α+β))) (X*P-Y*Q)∧Cl (30*eT) (c*s*si (-(α+β))) (-(X*Q+Y*P)):=by
 have ab:=wZ α β;have ng:=vK (α+β);have eb:=dY;have ub:=aY;have e:=ee0;have et:5*e0≤eT:=lvF.2.2.2.2.2.2.2.2.2.1;have et1:eT≤1/2^100:=by
  have:=lvF.2.2.2.2.2.2.2.2.2.2.2.2.1;have:=lvF.2.2.2.2.2.2.2.2.2.2.2.2.2.1;grind
 have bα:=LO α;have bβ:=LO β;have A:-9/4≤c*co α∧c*co α≤9/4:=by
  have:=aB (a:=c) (b:=co α) (A:=2) (B:=11/10) hc.1 hc.2 (by grind) (by grind);constructor<;>grind
 have B:-9/4≤c*si α∧c*si α≤9/4:=by
  have:=aB (a:=c) (b:=si α) (A:=2) (B:=11/10) hc.1 hc.2 (by grind) (by grind);constructor<;>grind
 have C:-9/4≤s*co β∧s*co β≤9/4:=by
  have:=aB (a:=s) (b:=co β) (A:=2) (B:=11/10) hs.1 hs.2 (by grind) (by grind);constructor<;>grind
 have D:-9/4≤s*si β∧s*si β≤9/4:=by
  have:=aB (a:=s) (b:=si β) (A:=2) (B:=11/10) hs.1 hs.2 (by grind) (by grind);constructor<;>grind
 have bd:∀{u v:Rat},Cl eT u v→-9/4≤u∧u≤9/4→-3≤v∧v≤3:=fun h k=>by
  unfold Cl at h;constructor<;>grind
 have p1:=Cl.mul 3 3 a1 b1 (by constructor<;>grind) (bd a1 A);have p2:=Cl.mul 3 3 a2 b2 (by constructor<;>grind) (bd a2 B);have p3:=Cl.mul 3 3 a1 b2 (by constructor<;>grind) (bd a1 A);have p4:=Cl.mul 3 3 a2 b1 (by constructor<;>grind) (bd a2 B);have cs:=aB (a:=c) (b:=s) (A:=2) (B:=2) hc.1 hc.2 hs.1 hs.2;have k1:Cl (10000*u0) (co (-(α+β))) (co α*co β-si α*si β):=by
  have:=Cl.trans ng.1 ab.1;exact this.wide (by grind)
 have k2:Cl (10000*u0) (si (-(α+β))) (-(si α*co β+co α*si β)):=by
  have:=Cl.trans ng.2 ab.2.neg;exact this.wide (by grind)
 have l1:=aB (a:=c*s) (b:=co (-(α+β))-(co α*co β-si α*si β)) (A:=4) (B:=10000*u0) (by grind) (by grind) (by unfold Cl at k1;grind) (by unfold Cl at k1;grind);have l2:=aB (a:=c*s) (b:=si (-(α+β))- -(si α*co β+co α*si β)) (A:=4) (B:=10000*u0) (by grind) (by grind) (by unfold Cl at k2;grind) (by unfold Cl at k2;grind);have f1:c*co α*(s*co β)-c*si α*(s*si β)=c*s*(co α*co β-si α*si β):=by grind
 have f2:c*co α*(s*si β)+c*si α*(s*co β)=c*s*(si α*co β+co α*si β):=by grind
 rw [show c*s*(co (-(α+β))-(co α*co β-si α*si β))=c*s*co (-(α+β))-(c*co α*(s*co β)-c*si α*(s*si β)) by grind] at l1;rw [show c*s*(si (-(α+β))- -(si α*co β+co α*si β))=c*s*si (-(α+β))+(c*co α*(s*si β)+c*si α*(s*co β)) by grind] at l2;clear f1 f2 k1 k2 A B C D bα bβ ab ng bd cs a1 a2 b1 b2;unfold Cl at*;generalize c*s*co (-(α+β))=L1 at*;generalize c*s*si (-(α+β))=L2 at*;generalize c*co α*(s*co β)=x1 at*;generalize c*si α*(s*si β)=x2 at*;generalize c*co α*(s*si β)=x3 at*;generalize c*si α*(s*co β)=x4 at*;generalize X*P=y1 at*;generalize Y*Q=y2 at*;generalize X*Q=y3 at*;generalize Y*P=y4 at*;refine ⟨⟨?_,?_⟩,?_,?_⟩<;>grind
end
section
open SM TB TA
theorem NF {ρ a b e f r:Rat} (hr:r≤ρ) (hr0:0<r) (he:e<r*f) (hf:0≤f) (h:Cl e (ρ*a) (ρ*b)):Cl f a b:=by
 unfold Cl at*;have half:∀{u v:Rat},ρ*u-ρ*v≤e→u-v≤f:=fun {u v} k=>by
  rcases (abX:u-v≤f∨f≤u-v) with g | g
  ·exact g
  ·exfalso;have m:=aaQ (show 0≤ρ-r by grind) (show 0≤u-v by grind);have m2:=aaQ (show 0≤r by grind) (show 0≤u-v-f by grind);grind
 have p:=half h.2;have q:=half (u:=b) (v:=a) (by grind);constructor<;>grind
theorem big_one {c s:Rat} (_hc0:-e0≤c) (hs0:0≤s) (hn:Cl e0 (c*c+s*s) 1) (h1:1/2^32≤c) (h2:1/2^32≤s):1/2^32≤2*(c*s):=by
 have eb:=dY;unfold Cl at hn;rcases (abX:c≤1/2∨1/2≤c) with g | g
 ·rcases (abX:s≤1/2∨1/2≤s) with k | k
  ·exfalso;have m1:=aaQ (show 0≤1/2-c by grind) (show 0≤1/2+c by grind);have m2:=aaQ (show 0≤1/2-s by grind) (show 0≤1/2+s by grind);grind
  ·have:=aaQ (show 0≤c by grind) (show 0≤2*s-1 by grind);grind
 ·have:=aaQ hs0 (show 0≤2*c-1 by grind);grind
theorem tiny {c p q:Rat} (h0:-e0≤c) (h1:c≤1/2^32) (h:Cl (16*e0) (p*p+q*q) (c*c)):(-1/2^31≤p∧p≤1/2^31)∧(-1/2^31≤q∧q≤1/2^31):=by
 have eb:=dY;have m:=aaQ (show 0≤1/2^32-c by grind) (show 0≤1/2^32+c by grind);have p2:=fC p;have q2:=fC q;unfold Cl at h;have a:=gX (z:=p) (f:=1/2^31) (e:=1/2^62) (by grind) (by grind) (by grind);have b:=gX (z:=q) (f:=1/2^31) (e:=1/2^62) (by grind) (by grind) (by grind);constructor<;>constructor<;>grind
theorem hf_az {a b c d e f:Int} {x y t h' z':Rat} (h:dV a b c d e f=true) (hx:Hs 0 a b x) (hy:Hs 0 c d y) (ht:Hs 0 e f t) (s:dE x y t h' z'):
  Dr dS (hfZ a b c d e f).1 (hfZ a b c d e f).2.1 z':=by
 obtain ⟨u,v,w,gu,gv,gw,guv,hu,hv,hw⟩:=ang_v h hx hy ht;obtain ⟨h0,h1,_,_,k1,k2,k3⟩:=s;obtain ⟨G1,G2,G3,G4,G5⟩:=gauss (κ:=(5400000-h')/2) gu gv gw guv (by grind) k1;obtain ⟨P,Q,R,S⟩:=four_v h hu hv hw;have eb:=dY;have ub:=aY;have ee:=ee0;have d0:0≤dS:=by decide+kernel
 have κ0:0≤(5400000-h')/2:=by grind
 have κ1:(5400000-h')/2≤5400000:=by grind
 generalize (5400000-h')/2=κ at*;have cl:=mT (show -5400000≤κ by grind) κ1;have s0:=gG κ0 κ1;have bs:=LO κ;have un:=nE κ;have eZ:hfZ a b c d e f=xG (hfA a b c d e f) (hfC a b c d e f):=rfl;have eA:hfA a b c d e f=EP (zV a b c d e f) (zU a b c d e f):=rfl;have eC:hfC a b c d e f=EP (zX a b c d e f) (zW a b c d e f):=rfl;rcases (abX:co κ≤1/2^32∨1/2^32≤co κ) with g1 | g1
 ·obtain ⟨tp,tq⟩:=tiny cl.1 g1 G2;rw [eZ,OH (.inl (eA.trans (VK Q P tp tq)))];exact Dr.all d0 _
 rcases (abX:si κ≤1/2^32∨1/2^32≤si κ) with g2 | g2
 ·obtain ⟨tr,ts⟩:=tiny (show -e0≤si κ by grind) g2 G1;rw [eZ,OH (.inr (eC.trans (VK S R tr ts)))];exact Dr.all d0 _
 obtain ⟨DA,α,a1,a2,A⟩:=arm cl.1 cl.2 Q P (G2.wide (by grind));obtain ⟨DC,β,b1,b2,C⟩:=arm (show -e0≤si κ by grind) (show si κ≤2 by grind) S R (G1.wide (by grind));have T:=turn_arm (by constructor<;>grind) (by constructor<;>grind) a1 a2 b1 b2;have big:=big_one cl.1 s0 (Cl.wide un (by grind)) g1 g2;have O:=oppS_v (show 0≤dS/8 by grind) A C;rw [eZ,eA,eC];clear gu gv gw guv hu hv hw P Q R S A C a1 a2 b1 b2 DA DC G1 G2 un eZ eA eC;obtain ⟨w1,w2,w3,w4,w5,w6,w7,w8,w9,w10,w11,w12,w13,w14,w15,w16⟩:=lvF;have bg:=LO (-(α+β));have M1:=aB (a:=2*(co κ*si κ)-co h') (b:=co (-(α+β))) (A:=16*e0) (B:=2) (by unfold Cl at G5;grind) (by unfold Cl at G5;grind) (by grind) (by grind);have M2:=aB (a:=2*(co κ*si κ)-co h') (b:=si (-(α+β))) (A:=16*e0) (B:=2) (by unfold Cl at G5;grind) (by unfold Cl at G5;grind) (by grind) (by grind);have lg:1/2^33≤co h':=by
  unfold Cl at G5;grind
 have E1:Cl (100*eT) (co h'*co (-(α+β))) (co h'*co z'):=by
  have T:=T.1;rw [show (2*(co κ*si κ)-co h')*co (-(α+β))=2*(co κ*si κ*co (-(α+β)))-co h'*co (-(α+β)) by grind] at M1;clear M2 bg bs big lg g1 g2 G5 G4 k3 O;unfold Cl at*;generalize co κ*si κ*co (-(α+β))=L at*;generalize co h'*co (-(α+β))=L2 at*;generalize co h'*co z'=L3 at*;generalize gS x y t=N at*;constructor<;>grind
 have E2:Cl (100*eT) (co h'*si (-(α+β))) (co h'*si z'):=by
  have T:=T.2;rw [show (2*(co κ*si κ)-co h')*si (-(α+β))=2*(co κ*si κ*si (-(α+β)))-co h'*si (-(α+β)) by grind] at M2;clear M1 bg bs big lg g1 g2 G5 G3 k2 O E1;unfold Cl at*;generalize co κ*si κ*si (-(α+β))=L at*;generalize co h'*si (-(α+β))=L2 at*;generalize co h'*si z'=L3 at*;generalize iQ y t=N at*;constructor<;>grind
 have F1:=NF (r:=1/2^33) (f:=2^40*eT) lg (by grind) (by grind) (by grind) E1;have F2:=NF (r:=1/2^33) (f:=2^40*eT) lg (by grind) (by grind) (by grind) E2;obtain ⟨m,cl2⟩:=dir_close (z:=z') (γ:=-(α+β)) (ε:=2^40*eT) (by grind) (by grind) F1 F2;exact (Dr_move O cl2).wide (by grind)
theorem half_hold {a b c d e f:Int} (h:dV a b c d e f=true) (ho:dI (FR a b c d e f).1 (FR a b c d e f).2.1 (FQ a b c d e f).1 (FQ a b c d e f).2.1=false):Hold a b c d e f (hfH a b c d e f) (hfZ a b c d e f):=by
 have V:=val4 h;have F:=xY V.1 V.2.1 V.2.2.1 V.2.2.2 ho;have D:=lW V.1 V.2.1;obtain ⟨p,q,r,s⟩:=one4 h;have dA:oB (hfA a b c d e f):=lW q.val p.val;have dC:oB (hfC a b c d e f):=lW s.val r.val;have o:=oppS_dir dA dC;refine ⟨?_,o.1,o.2,fun x y t hx hy ht h' z' s'=>hf_up h ho hx hy ht s',fun x y t hx hy ht h' z' s'=>hf_az h hx hy ht s'⟩;have fb:zT a b c d e f=aX (FR a b c d e f).1 (FR a b c d e f).2.1 (FQ a b c d e f).1 (FQ a b c d e f).2.1:=rfl;rw [←fb] at F D;obtain ⟨d1,d2,d3,d4,d5⟩:=D;unfold hfH qO;dsimp only;exact ⟨by omega,by omega,by omega,rfl⟩
end
section
open SM TB TA
def negT (r:Int×Int×Int):Int×Int×Int:=(-r.2.1,-r.1,0)
theorem mul_neg {r s:Int×Int×Int} (h:fJ r) (k:fJ s):mB r (negT s)=negT (mB r s):=by
 have m:=aM h k;obtain ⟨h1,h2,h3,h4⟩:=h;obtain ⟨k1,k2,k3,k4⟩:=k;have v:fS r.1 r.2.1 s.1 s.2.1=true:=oC (fF (by omega) h2 (by omega)) (fF (by omega) k2 (by omega));have v':fS r.1 r.2.1 (-s.2.1) (-s.1)=true:=oC (fF (by omega) h2 (by omega)) (fF (by omega) (by omega) (by omega));have L:pN r.1 r.2.1 (-s.2.1) (-s.1)=-pM r.1 r.2.1 s.1 s.2.1∧pM r.1 r.2.1 (-s.2.1) (-s.1)=-pN r.1 r.2.1 s.1 s.2.1:=by
  unfold pN pM;rw [auX,auX,auX,auX];generalize r.1*s.1=p;generalize r.1*s.2.1=q;generalize r.2.1*s.1=u;generalize r.2.1*s.2.1=w;have a1:=mn4 (-q) (-p) (-w) (-u);have a2:=mx4 (-q) (-p) (-w) (-u);have b1:=mn4 p q u w;have b2:=mx4 p q u w;generalize mn (mn (mn (-q) (-p)) (-w)) (-u)=x1 at*;generalize mx (mx (mx (-q) (-p)) (-w)) (-u)=x2 at*;generalize mn (mn (mn p q) u) w=x3 at*;generalize mx (mx (mx p q) u) w=x4 at*;omega
 unfold mB at*;unfold negT;dsimp only;unfold bF at m ⊢;rw [if_pos v] at m;rw [if_pos v,if_pos v',L.1,L.2,Int.neg_neg];have f:=JA m.2.2.2;have b:=iP f.1;rw [f.2];dsimp only;rw [BT (fF (by omega) (by omega) (by omega)),Int.neg_neg]
end
section
open SM TB TA
def sP (u w:Int×Int):Int×Int×Int:=mB (aI u.1 u.2) (aK w.1 w.2)
def sQ (v w:Int×Int):Int×Int×Int:=mB (aI v.1 v.2) (aI w.1 w.2)
def sR (u w:Int×Int):Int×Int×Int:=mB (aK u.1 u.2) (aK w.1 w.2)
def sS (v w:Int×Int):Int×Int×Int:=mB (aK v.1 v.2) (aI w.1 w.2)
def sZ (u v w:Int×Int):Int×Int×Int:=xG (EP (sQ v w) (sP u w)) (EP (sS v w) (sR u w))
end
section
open SM TB TA
end
section
open SM TB TA
open Ev (lt bG)
theorem bP {α β:Type} {x y:α} {f:α→β} {r:β} (h:x=y) (k:f y=r):lt x f=r:=by
 subst h;exact k
theorem k0 {e:Int} (h:e=0):bG 0 e=0:=by
 rw [h];rfl
theorem aadd_ok {a b c d:Int} (h1:-100000000≤a) (h2:a≤b) (h3:b≤100000000) (h4:-100000000≤c) (h5:c≤d) (h6:d≤100000000):
  oO a b c d=(a+c,b+d,0):=by
 unfold oO;rw [if_pos ⟨aR (by omega) h2 (by omega),aR (by omega) h5 (by omega)⟩];unfold tU pS;rw [if_pos ⟨decide_eq_true (by omega),decide_eq_true (by omega)⟩]
theorem TX {a b n d:Int} (h1:-100000000≤a) (h2:a≤b) (h3:b≤100000000) (h:(n=1∧(d=2∨d=4))∨(d=1∧(n=2∨n=4))):CS a b n d=((a*n)/d,-(-(b*n)/d),0):=by
 unfold CS;rw [if_pos (aR (by omega) h2 (by omega)),if_pos (by omega)];have l:a*n≤b*n:=Int.mul_le_mul_of_nonneg_right h2 (by omega);have e1:mn (a*n) (b*n)=a*n:=by unfold mn;split<;>omega
 have e2:mx (a*n) (b*n)=b*n:=by unfold mx;split<;>omega
 rw [e1,e2];unfold tU pS;have q:-1000000000≤a*n/d∧a*n/d≤1000000000∧-1000000000≤-(b*n)/d∧-(b*n)/d≤1000000000:=by
  rcases h with ⟨rfl,rfl | rfl⟩ | ⟨rfl,rfl | rfl⟩<;>omega
 rw [if_pos ⟨decide_eq_true (by omega),decide_eq_true (by omega)⟩]
theorem TY {x y:Int} (h1:-100000000≤x) (h2:x≤100000000) (h3:-100000000≤y) (h4:y≤100000000):LM x y=decide (21600000≤y-x):=by
 unfold LM;rw [bR (by omega)]
theorem dir_bd {r:Int×Int×Int} (h:oB r):-100000000≤r.1∧r.1≤100000000∧-100000000≤r.2.1∧r.2.1≤100000000∧r.1≤r.2.1:=by
 obtain ⟨h1,h2,h3,h4,_⟩:=h;omega
theorem hsl_ok {a b c d e f:Int} (h:dV a b c d e f=true):JH a b c d e f=if dI (FR a b c d e f).1 (FR a b c d e f).2.1 (FQ a b c d e f).1 (FQ a b c d e f).2.1=true then (0,0,0,0,24) else ((hfH a b c d e f).1,(hfH a b c d e f).2.1,(hfZ a b c d e f).1,(hfZ a b c d e f).2.1,0):=by
 obtain ⟨h1,h2,h3⟩:=gA h;have l1:=bW h1;have l2:=bW h2;obtain ⟨vu,vv,vw⟩:=ang_bd h;obtain ⟨p,q,r,s⟩:=one4 h;have L1:=JP r s;have L2:=JP p q;have S1:=mG r;have S2:=mG s;have S3:=mG p;have S4:=mG q;have V:=val4 h;have B:=lW V.1 V.2.1;have DA:=lW q.val p.val;have DC:=lW s.val r.val;have tu:aE (fG e f) (dU e f)=true∧0≤fG e f∧fG e f≤dU e f∧dU e f≤43200000:=by
  have m0:=aiQ e (show (21600000:Int)≠0 by omega);have m1:=agQ e (show (0:Int)<21600000 by omega);have v3:=cG h3;unfold fG dU;split
  ·exact ⟨aR (by omega) (by omega) (by omega),by omega,by omega,by omega⟩
  ·exact ⟨aR (by omega) (by omega) (by omega),by omega,by omega,by omega⟩
 have E1:kK 5400000 5400000 c d=(5400000-d,5400000-c,0):=pP (by omega) (by omega) (by omega) (by omega) (by omega) (by omega);have E2:kK 5400000 5400000 a b=(5400000-b,5400000-a,0):=pP (by omega) (by omega) (by omega) (by omega) (by omega) (by omega);have E3:oO (5400000-d) (5400000-c) (5400000-b) (5400000-a)=(10800000-b-d,10800000-a-c,0):=by
  rw [aadd_ok (by omega) (by omega) (by omega) (by omega) (by omega) (by omega),show 5400000-d+(5400000-b)=10800000-b-d by omega,show 5400000-c+(5400000-a)=10800000-a-c by omega]
 have E4:CS (10800000-b-d) (10800000-a-c) 1 2=((fU a b c d).1,(fU a b c d).2,0):=by
  rw [TX (by omega) (by omega) (by omega) (.inl ⟨rfl,.inl rfl⟩),Int.mul_one,Int.mul_one];rfl
 have E5:kK (5400000-d) (5400000-c) (5400000-b) (5400000-a)=(a-d,b-c,0):=by
  rw [pP (by omega) (by omega) (by omega) (by omega) (by omega) (by omega),show 5400000-d-(5400000-a)=a-d by omega,show 5400000-c-(5400000-b)=b-c by omega]
 have E6:CS (a-d) (b-c) 1 2=((fV a b c d).1,(fV a b c d).2,0):=by
  rw [TX (by omega) (by omega) (by omega) (.inl ⟨rfl,.inl rfl⟩),Int.mul_one,Int.mul_one];rfl
 have E7:dO e f=(fG e f,dU e f,0):=by
  unfold dO;rw [if_pos h3]
 have E8:CS (fG e f) (dU e f) 1 2=((fW e f).1,(fW e f).2,0):=by
  rw [TX (by omega) (by omega) (by omega) (.inl ⟨rfl,.inl rfl⟩),Int.mul_one,Int.mul_one];rfl
 unfold JH hslMK;rw [h,Bool.not_true,cond_false];refine bP (show mH 5400000 5400000 c d=(5400000-d,5400000-c) from by unfold mH;rw [E1]) ?_
 (try dsimp only)
 refine bP (show tK 0 5400000 5400000 c d=0 from k0 (by rw [E1])) ?_
 (try dsimp only)
 refine bP (show mH 5400000 5400000 a b=(5400000-b,5400000-a) from by unfold mH;rw [E2]) ?_
 (try dsimp only)
 refine bP (show tK 0 5400000 5400000 a b=0 from k0 (by rw [E2])) ?_
 (try dsimp only)
 refine bP (show qJ (5400000-d) (5400000-c) (5400000-b) (5400000-a)=(10800000-b-d,10800000-a-c) from by unfold qJ;rw [E3]) ?_
 (try dsimp only)
 refine bP (show CW 0 (5400000-d) (5400000-c) (5400000-b) (5400000-a)=0 from k0 (by rw [E3])) ?_
 (try dsimp only)
 refine bP (show kI (10800000-b-d) (10800000-a-c) 1 2=((fU a b c d).1,(fU a b c d).2) from by unfold kI;rw [E4]) ?_
 (try dsimp only)
 refine bP (show qI 0 (10800000-b-d) (10800000-a-c) 1 2=0 from k0 (by rw [E4])) ?_
 (try dsimp only)
 refine bP (show mH (5400000-d) (5400000-c) (5400000-b) (5400000-a)=(a-d,b-c) from by unfold mH;rw [E5]) ?_
 (try dsimp only)
 refine bP (show tK 0 (5400000-d) (5400000-c) (5400000-b) (5400000-a)=0 from k0 (by rw [E5])) ?_
 (try dsimp only)
 refine bP (show kI (a-d) (b-c) 1 2=((fV a b c d).1,(fV a b c d).2) from by unfold kI;rw [E6]) ?_
 (try dsimp only)
 refine bP (show qI 0 (a-d) (b-c) 1 2=0 from k0 (by rw [E6])) ?_
 (try dsimp only)
 refine bP E7 ?_
 (try dsimp only)
 refine bP (show yX (fG e f) (dU e f) 0=(fG e f,dU e f) from rfl) ?_
 (try dsimp only)
 refine bP (show AX 0 (fG e f) (dU e f) 0=0 from k0 rfl) ?_
 (try dsimp only)
 refine bP (show kI (fG e f) (dU e f) 1 2=((fW e f).1,(fW e f).2) from by unfold kI;rw [E8]) ?_
 (try dsimp only)
 refine bP (show qI 0 (fG e f) (dU e f) 1 2=0 from k0 (by rw [E8])) ?_
 (try dsimp only)
 refine bP (show tJ (fU a b c d).1 (fU a b c d).2=((aI (fU a b c d).1 (fU a b c d).2).1,(aI (fU a b c d).1 (fU a b c d).2).2.1) from rfl) ?_
 (try dsimp only)
 refine bP (show xS 0 (fU a b c d).1 (fU a b c d).2=0 from k0 (aW vu).2.2.2) ?_
 (try dsimp only)
 refine bP (show nY (fW e f).1 (fW e f).2=((aK (fW e f).1 (fW e f).2).1,(aK (fW e f).1 (fW e f).2).2.1) from rfl) ?_
 (try dsimp only)
 refine bP (show pY 0 (fW e f).1 (fW e f).2=0 from k0 (aU vw).2.2.2) ?_
 (try dsimp only)
 refine bP (show nX (aI (fU a b c d).1 (fU a b c d).2).1 (aI (fU a b c d).1 (fU a b c d).2).2.1 (aK (fW e f).1 (fW e f).2).1 (aK (fW e f).1 (fW e f).2).2.1=((zU a b c d e f).1,(zU a b c d e f).2.1) from rfl) ?_
 (try dsimp only)
 refine bP (show pX 0 (aI (fU a b c d).1 (fU a b c d).2).1 (aI (fU a b c d).1 (fU a b c d).2).2.1 (aK (fW e f).1 (fW e f).2).1 (aK (fW e f).1 (fW e f).2).2.1=0 from k0 p.2.2.2) ?_
 (try dsimp only)
 refine bP (show tJ (fV a b c d).1 (fV a b c d).2=((aI (fV a b c d).1 (fV a b c d).2).1,(aI (fV a b c d).1 (fV a b c d).2).2.1) from rfl) ?_
 (try dsimp only)
 refine bP (show xS 0 (fV a b c d).1 (fV a b c d).2=0 from k0 (aW vv).2.2.2) ?_
 (try dsimp only)
 refine bP (show tJ (fW e f).1 (fW e f).2=((aI (fW e f).1 (fW e f).2).1,(aI (fW e f).1 (fW e f).2).2.1) from rfl) ?_
 (try dsimp only)
 refine bP (show xS 0 (fW e f).1 (fW e f).2=0 from k0 (aW vw).2.2.2) ?_
 (try dsimp only)
 refine bP (show nX (aI (fV a b c d).1 (fV a b c d).2).1 (aI (fV a b c d).1 (fV a b c d).2).2.1 (aI (fW e f).1 (fW e f).2).1 (aI (fW e f).1 (fW e f).2).2.1=((zV a b c d e f).1,(zV a b c d e f).2.1) from rfl) ?_
 (try dsimp only)
 refine bP (show pX 0 (aI (fV a b c d).1 (fV a b c d).2).1 (aI (fV a b c d).1 (fV a b c d).2).2.1 (aI (fW e f).1 (fW e f).2).1 (aI (fW e f).1 (fW e f).2).2.1=0 from k0 q.2.2.2) ?_
 (try dsimp only)
 refine bP (show nY (fU a b c d).1 (fU a b c d).2=((aK (fU a b c d).1 (fU a b c d).2).1,(aK (fU a b c d).1 (fU a b c d).2).2.1) from rfl) ?_
 (try dsimp only)
 refine bP (show pY 0 (fU a b c d).1 (fU a b c d).2=0 from k0 (aU vu).2.2.2) ?_
 (try dsimp only)
 refine bP (show nY (fW e f).1 (fW e f).2=((aK (fW e f).1 (fW e f).2).1,(aK (fW e f).1 (fW e f).2).2.1) from rfl) ?_
 (try dsimp only)
 refine bP (show pY 0 (fW e f).1 (fW e f).2=0 from k0 (aU vw).2.2.2) ?_
 (try dsimp only)
 refine bP (show nX (aK (fU a b c d).1 (fU a b c d).2).1 (aK (fU a b c d).1 (fU a b c d).2).2.1 (aK (fW e f).1 (fW e f).2).1 (aK (fW e f).1 (fW e f).2).2.1=((zW a b c d e f).1,(zW a b c d e f).2.1) from rfl) ?_
 (try dsimp only)
 refine bP (show pX 0 (aK (fU a b c d).1 (fU a b c d).2).1 (aK (fU a b c d).1 (fU a b c d).2).2.1 (aK (fW e f).1 (fW e f).2).1 (aK (fW e f).1 (fW e f).2).2.1=0 from k0 r.2.2.2) ?_
 (try dsimp only)
 refine bP (show nY (fV a b c d).1 (fV a b c d).2=((aK (fV a b c d).1 (fV a b c d).2).1,(aK (fV a b c d).1 (fV a b c d).2).2.1) from rfl) ?_
 (try dsimp only)
 refine bP (show pY 0 (fV a b c d).1 (fV a b c d).2=0 from k0 (aU vv).2.2.2) ?_
 (try dsimp only)
 refine bP (show tJ (fW e f).1 (fW e f).2=((aI (fW e f).1 (fW e f).2).1,(aI (fW e f).1 (fW e f).2).2.1) from rfl) ?_
 (try dsimp only)
 refine bP (show xS 0 (fW e f).1 (fW e f).2=0 from k0 (aW vw).2.2.2) ?_
 (try dsimp only)
 refine bP (show nX (aK (fV a b c d).1 (fV a b c d).2).1 (aK (fV a b c d).1 (fV a b c d).2).2.1 (aI (fW e f).1 (fW e f).2).1 (aI (fW e f).1 (fW e f).2).2.1=((zX a b c d e f).1,(zX a b c d e f).2.1) from rfl) ?_
 (try dsimp only)
 refine bP (show pX 0 (aK (fV a b c d).1 (fV a b c d).2).1 (aK (fV a b c d).1 (fV a b c d).2).2.1 (aI (fW e f).1 (fW e f).2).1 (aI (fW e f).1 (fW e f).2).2.1=0 from k0 s.2.2.2) ?_
 (try dsimp only)
 refine bP (show EJ (zW a b c d e f).1 (zW a b c d e f).2.1 (zX a b c d e f).1 (zX a b c d e f).2.1=((FR a b c d e f).1,(FR a b c d e f).2.1) from rfl) ?_
 (try dsimp only)
 refine bP (show EI 0 (zW a b c d e f).1 (zW a b c d e f).2.1 (zX a b c d e f).1 (zX a b c d e f).2.1=0 from by
  unfold EI;rw [S1.2.1.2.2.2,S2.2.1.2.2.2];have e1:(gB (dN (zW a b c d e f).1 (zW a b c d e f).2.1).1 (dN (zW a b c d e f).1 (zW a b c d e f).2.1).2.1 (dN (zX a b c d e f).1 (zX a b c d e f).2.1).1 (dN (zX a b c d e f).1 (zX a b c d e f).2.1).2.1).2.2=0:=by
   have:=L1.1;unfold yT at this;rw [this]
  have e2:(CR (gB (dN (zW a b c d e f).1 (zW a b c d e f).2.1).1 (dN (zW a b c d e f).1 (zW a b c d e f).2.1).2.1 (dN (zX a b c d e f).1 (zX a b c d e f).2.1).1 (dN (zX a b c d e f).1 (zX a b c d e f).2.1).2.1).1 (gB (dN (zW a b c d e f).1 (zW a b c d e f).2.1).1 (dN (zW a b c d e f).1 (zW a b c d e f).2.1).2.1 (dN (zX a b c d e f).1 (zX a b c d e f).2.1).1 (dN (zX a b c d e f).1 (zX a b c d e f).2.1).2.1).2.1).2.2=0:=L1.2.2.2.1;rw [e1,e2];rfl) ?_
 (try dsimp only)
 refine bP (show EJ (zU a b c d e f).1 (zU a b c d e f).2.1 (zV a b c d e f).1 (zV a b c d e f).2.1=((FQ a b c d e f).1,(FQ a b c d e f).2.1) from rfl) ?_
 (try dsimp only)
 refine bP (show EI 0 (zU a b c d e f).1 (zU a b c d e f).2.1 (zV a b c d e f).1 (zV a b c d e f).2.1=0 from by
  unfold EI;rw [S3.2.1.2.2.2,S4.2.1.2.2.2];have e1:(gB (dN (zU a b c d e f).1 (zU a b c d e f).2.1).1 (dN (zU a b c d e f).1 (zU a b c d e f).2.1).2.1 (dN (zV a b c d e f).1 (zV a b c d e f).2.1).1 (dN (zV a b c d e f).1 (zV a b c d e f).2.1).2.1).2.2=0:=by
   have:=L2.1;unfold yT at this;rw [this]
  have e2:(CR (gB (dN (zU a b c d e f).1 (zU a b c d e f).2.1).1 (dN (zU a b c d e f).1 (zU a b c d e f).2.1).2.1 (dN (zV a b c d e f).1 (zV a b c d e f).2.1).1 (dN (zV a b c d e f).1 (zV a b c d e f).2.1).2.1).1 (gB (dN (zU a b c d e f).1 (zU a b c d e f).2.1).1 (dN (zU a b c d e f).1 (zU a b c d e f).2.1).2.1 (dN (zV a b c d e f).1 (zV a b c d e f).2.1).1 (dN (zV a b c d e f).1 (zV a b c d e f).2.1).2.1).2.1).2.2=0:=L2.2.2.2.1;rw [e1,e2];rfl) ?_
 (try dsimp only)
 refine bP (show xQ (FR a b c d e f).1 (FR a b c d e f).2.1 (FQ a b c d e f).1 (FQ a b c d e f).2.1=((zT a b c d e f).1,(zT a b c d e f).2.1) from rfl) ?_
 (try dsimp only)
 refine bP (show EE 0 (FR a b c d e f).1 (FR a b c d e f).2.1 (FQ a b c d e f).1 (FQ a b c d e f).2.1=0 from k0 B.2.2.2.2) ?_
 (try dsimp only)
 rw [show ((0:Int) != 0)=false from rfl,cond_false];have fb:aX (FR a b c d e f).1 (FR a b c d e f).2.1 (FQ a b c d e f).1 (FQ a b c d e f).2.1=zT a b c d e f:=rfl;rw [fb] at B;have Bb:=dir_bd B;rw [TY Bb.1 Bb.2.1 Bb.2.2.1 Bb.2.2.2.1];cases ho:dI (FR a b c d e f).1 (FR a b c d e f).2.1 (FQ a b c d e f).1 (FQ a b c d e f).2.1 with
 | true=>
  have eb:zT a b c d e f=(0,21600000,0):=by
   rw [←fb];unfold aX;rw [V.1,V.2.1,ho];rfl
  rw [eb];rfl
 | false=>
 have F:=xY V.1 V.2.1 V.2.2.1 V.2.2.2 ho;rw [fb] at F;rw [decide_eq_false (show ¬21600000≤(zT a b c d e f).2.1-(zT a b c d e f).1 by omega),cond_false,if_neg (by simp)];have E9:CS (zT a b c d e f).1 (zT a b c d e f).2.1 2 1=(2*(zT a b c d e f).1,2*(zT a b c d e f).2.1,0):=by
  rw [TX Bb.1 Bb.2.2.2.2 Bb.2.2.2.1 (.inr ⟨rfl,.inl rfl⟩),Int.ediv_one,Int.ediv_one,Int.neg_neg,akZ 2,akZ 2]
 have E10:kK 5400000 5400000 (2*(zT a b c d e f).1) (2*(zT a b c d e f).2.1)=((hfH a b c d e f).1,(hfH a b c d e f).2.1,0):=by
  rw [pP (by omega) (by omega) (by omega) (by omega) (by omega) (by omega)];rfl
 refine bP (show kI (zT a b c d e f).1 (zT a b c d e f).2.1 2 1=(2*(zT a b c d e f).1,2*(zT a b c d e f).2.1) from by unfold kI;rw [E9]) ?_
 (try dsimp only)
 refine bP (show qI 0 (zT a b c d e f).1 (zT a b c d e f).2.1 2 1=0 from k0 (by rw [E9])) ?_
 (try dsimp only)
 refine bP (show mH 5400000 5400000 (2*(zT a b c d e f).1) (2*(zT a b c d e f).2.1)=((hfH a b c d e f).1,(hfH a b c d e f).2.1) from by unfold mH;rw [E10]) ?_
 (try dsimp only)
 refine bP (show tK 0 5400000 5400000 (2*(zT a b c d e f).1) (2*(zT a b c d e f).2.1)=0 from k0 (by rw [E10])) ?_
 (try dsimp only)
 refine bP (show xQ (zV a b c d e f).1 (zV a b c d e f).2.1 (zU a b c d e f).1 (zU a b c d e f).2.1=((hfA a b c d e f).1,(hfA a b c d e f).2.1) from rfl) ?_
 (try dsimp only)
 refine bP (show EE 0 (zV a b c d e f).1 (zV a b c d e f).2.1 (zU a b c d e f).1 (zU a b c d e f).2.1=0 from k0 DA.2.2.2.2) ?_
 (try dsimp only)
 refine bP (show xQ (zX a b c d e f).1 (zX a b c d e f).2.1 (zW a b c d e f).1 (zW a b c d e f).2.1=((hfC a b c d e f).1,(hfC a b c d e f).2.1) from rfl) ?_
 (try dsimp only)
 refine bP (show EE 0 (zX a b c d e f).1 (zX a b c d e f).2.1 (zW a b c d e f).1 (zW a b c d e f).2.1=0 from k0 DC.2.2.2.2) ?_
 (try dsimp only)
 have Ab:=dir_bd DA;have Cb:=dir_bd DC;have fa:aX (zV a b c d e f).1 (zV a b c d e f).2.1 (zU a b c d e f).1 (zU a b c d e f).2.1=hfA a b c d e f:=rfl;have fc:aX (zX a b c d e f).1 (zX a b c d e f).2.1 (zW a b c d e f).1 (zW a b c d e f).2.1=hfC a b c d e f:=rfl;rw [fa] at Ab;rw [fc] at Cb;have eZ:hfZ a b c d e f=xG (hfA a b c d e f) (hfC a b c d e f):=rfl;rw [TY Ab.1 Ab.2.1 Ab.2.2.1 Ab.2.2.2.1,TY Cb.1 Cb.2.1 Cb.2.2.1 Cb.2.2.2.1,eZ];unfold xG fullB;generalize hfA a b c d e f=A at*;generalize hfC a b c d e f=T at*;by_cases c1:21600000≤A.2.1-A.1
 ·rw [decide_eq_true c1];rfl
 rw [decide_eq_false c1];by_cases c2:21600000≤T.2.1-T.1
 ·rw [decide_eq_true c2];rfl
 rw [decide_eq_false c2,Bool.not_false,cond_true,cond_true];have E11:oO A.1 A.2.1 T.1 T.2.1=(A.1+T.1,A.2.1+T.2.1,0):=aadd_ok (by omega) (by omega) (by omega) (by omega) (by omega) (by omega);refine bP (show qJ A.1 A.2.1 T.1 T.2.1=(A.1+T.1,A.2.1+T.2.1) from by unfold qJ;rw [E11]) ?_
 (try dsimp only)
 refine bP (show CW 0 A.1 A.2.1 T.1 T.2.1=0 from k0 (by rw [E11])) ?_
 (try dsimp only)
 have E12:zG (A.1+T.1) (A.2.1+T.2.1)=(-(A.2.1+T.2.1),-(A.1+T.1),0):=by
  unfold zG;rw [if_pos (aR (by omega) (by omega) (by omega))]
 refine bP E12 ?_
 (try dsimp only)
 refine bP (show yX (-(A.2.1+T.2.1)) (-(A.1+T.1)) 0=(-(A.2.1+T.2.1),-(A.1+T.1)) from rfl) ?_
 (try dsimp only)
 refine bP (show AX 0 (-(A.2.1+T.2.1)) (-(A.1+T.1)) 0=0 from rfl) ?_
 (try dsimp only)
 have E13:dO (-(A.2.1+T.2.1)) (-(A.1+T.1))=(fG (-(A.2.1+T.2.1)) (-(A.1+T.1)),dU (-(A.2.1+T.2.1)) (-(A.1+T.1)),0):=by
  unfold dO;rw [if_pos (aR (by omega) (by omega) (by omega))]
 refine bP E13 ?_
 (try dsimp only)
 rfl
end
section
open Go.RowKit
attribute [local go_sem] Oper.semAt_some
theorem NW (n:Int):bits .and .i64 n 1152921504606846975=n%1152921504606846976:=by
 have h127:(BitVec.ofInt 64 1152921504606846975).toNat=2^60-1:=by decide
 have key:(BitVec.ofInt 64 n&&& BitVec.ofInt 64 1152921504606846975).toNat=(n%((2^64:Nat):Int)).toNat%2^60:=by
  rw [BitVec.toNat_and,BitVec.toNat_ofInt,h127,Nat.and_two_pow_sub_one_eq_mod]
 show i64.wrap ((BitVec.ofInt 64 n&&& BitVec.ofInt 64 1152921504606846975).toNat:Nat)=n%1152921504606846976;rw [key,IntKind.wrap_i64];omega
theorem OX (n:Int):bits .and .u64 n 1152921504606846975=n%1152921504606846976:=by
 have h127:(BitVec.ofInt 64 1152921504606846975).toNat=2^60-1:=by decide
 have key:(BitVec.ofInt 64 n&&& BitVec.ofInt 64 1152921504606846975).toNat=(n%((2^64:Nat):Int)).toNat%2^60:=by
  rw [BitVec.toNat_and,BitVec.toNat_ofInt,h127,Nat.and_two_pow_sub_one_eq_mod]
 show u64.wrap ((BitVec.ofInt 64 n&&& BitVec.ofInt 64 1152921504606846975).toNat:Nat)=n%1152921504606846976;rw [key,IntKind.wrap_u64];omega
theorem u64_or0 (n:Int) (h0:0≤n) (h1:n<18446744073709551616):bits .or .u64 0 n=n:=by
 show u64.wrap ((BitVec.ofInt 64 0||| BitVec.ofInt 64 n).toNat:Nat)=n;have:(BitVec.ofInt 64 0||| BitVec.ofInt 64 n)=BitVec.ofInt 64 n:=by simp
 rw [this,BitVec.toNat_ofInt,IntKind.wrap_u64];omega
theorem set2 {w:World} {b t:Nat} {u0 u1:Value} (v0 v1:Value) (h:w.heap[b]? =some (.cells #[u0,u1] t (0,0))):((w.setCell ⟨b,0,none⟩ v0).setCell ⟨b,1,none⟩ v1).heap[b]? =some (.cells #[v0,v1] t (0,0)):=by
 simp [ayQ,h,Array.getElem?_modify]
theorem rL {B b:Nat} {a w:World} (h:Below B a w) (hb:B≤b) (v0 v1:Value):Below B a ((w.setCell ⟨b,0,none⟩ v0).setCell ⟨b,1,none⟩ v1):=(h.setCell (by simpa using hb) _).setCell (by simpa using hb) _
theorem oS {w:World} {b t:Nat} {v0 v1:Value} (h:w.heap[b]? =some (.cells #[v0,v1] t (0,0))):w.cell? ⟨b,0,none⟩=some v0∧w.cell? ⟨b,1,none⟩=some v1∧w.frozen? ⟨b,0,none⟩=false∧w.frozen? ⟨b,1,none⟩=false:=by
 simp [World.cell?,World.frozen?,h]
theorem set3 {w:World} {b t:Nat} {u0 u1 u2:Value} (v0 v1 v2:Value) (h:w.heap[b]? =some (.cells #[u0,u1,u2] t (0,0))):(((w.setCell ⟨b,0,none⟩ v0).setCell ⟨b,1,none⟩ v1).setCell ⟨b,2,none⟩ v2).heap[b]? =some (.cells #[v0,v1,v2] t (0,0)):=by
 simp [ayQ,h,Array.getElem?_modify]
theorem GR {B b:Nat} {a w:World} (h:Below B a w) (hb:B≤b) (v0 v1 v2:Value):Below B a (((w.setCell ⟨b,0,none⟩ v0).setCell ⟨b,1,none⟩ v1).setCell ⟨b,2,none⟩ v2):=((h.setCell (by simpa using hb) _).setCell (by simpa using hb) _).setCell (by simpa using hb) _
theorem IB {w:World} {b t:Nat} {v0 v1 v2:Value} (h:w.heap[b]? =some (.cells #[v0,v1,v2] t (0,0))):w.cell? ⟨b,0,none⟩=some v0∧w.cell? ⟨b,1,none⟩=some v1∧w.cell? ⟨b,2,none⟩=some v2∧w.frozen? ⟨b,0,none⟩=false∧w.frozen? ⟨b,1,none⟩=false∧w.frozen? ⟨b,2,none⟩=false:=by
 simp [World.cell?,World.frozen?,h]
def oN (v:Value) (w:World) (e:Ending) (w':World):Prop:=e=.returned v∧Below w.heap.size w w'
theorem LK (x:Int) (h1:-4611686018427387904<x) (h2:x<4611686018427387904) (w:World):Calls aaZ 197 #[.int .i64 x] w (oN (.int .u64 (if x<0 then -x else x)) w):=by
 go_enter Tryz.func197,Tryz.ntmps197;go_wp2_with fail
 ·rename_i h;rw [show u64.wrap (-u64.wrap x)=-x by simp only [IntKind.wrap_u64];omega];go_ret;exact ⟨rfl,aeX _ _⟩
 ·rename_i h;go_ret;exact ⟨rfl,aeX _ _⟩
theorem wval_any {a b:Int} (h1:-1152921504606846976≤a) (h2:a<1152921504606846976) (h3:0≤b) (h4:b<1152921504606846976) (w:World):Calls aaZ 226 #[.agg #[.int .i64 a,.int .i64 b]] w (oN (.bool true) w):=by
 have H1:=aaX (aeX w.heap.size w);go_enter Tryz.func226,Tryz.ntmps226;go_wp2_with fail
 go_ret;exact ⟨rfl,H1.out.alloc (aaJ _) _⟩
theorem wfit_any (p:Int) (h1:-1152921504606846976<p) (h2:p<1152921504606846976) (w:World):Calls aaZ 225 #[.int .i64 0,.int .i64 p] w (oN (.tuple #[.agg #[.int .i64 (p/1152921504606846976),.int .i64 (p%1152921504606846976)],.int .i64 0]) w):=by
 go_enter Tryz.func225,Tryz.ntmps225;go_wp2_with fail
 rw [NW];have hb0:Below w.heap.size w ((w.alloc (.cells #[.int .i64 0,.int .i64 0] 188)).alloc (.cells #[.int .i64 (p/1152921504606846976),.int .i64 (p%1152921504606846976)] 188)):=((aeX _ w).alloc (aaJ _) _).alloc (by simp) _;refine (wval_any (a:=p/1152921504606846976) (b:=p%1152921504606846976) (by omega) (by omega) (by omega) (by omega) _).mono ?_;rintro e w1 ⟨rfl,hb⟩;have g4:w1.heap[w.heap.size]? =some (.cells #[.int .i64 0,.int .i64 0] 188 (0,0)):=(hb.block w.heap.size (by simp only [agZ];omega)).trans ((ahX _ _ _ (by simp)).trans (heap_alloc_new w _));have g6:w1.heap[w.heap.size+ 1]? =some (.cells #[.int .i64 (p/1152921504606846976),.int .i64 (p%1152921504606846976)] 188 (0,0)):=(hb.block (w.heap.size+1) (by simp)).trans (by
  have:=heap_alloc_new (w.alloc (.cells #[.int .i64 0,.int .i64 0] 188)) (.cells #[.int .i64 (p/1152921504606846976),.int .i64 (p%1152921504606846976)] 188);rwa [agZ] at this)
 obtain ⟨c0,c1,_,_⟩:=oS g6;obtain ⟨d0,d1,f0,f1⟩:=oS g4;have HB:=aaX (hb0.trans (hb.mono hb0.size));have HG:=aaX g4;clear hb0 hb g4 g6;go_wp2_with fail
 obtain ⟨g0,g1,_,_⟩:=oS (set2 (.int .i64 (p/1152921504606846976)) (.int .i64 (p%1152921504606846976)) HG.out);refine bodyPost_ret (v:=.tuple #[.agg #[.int .i64 (p/1152921504606846976),.int .i64 (p%1152921504606846976)],.int .i64 0]) (by simp [results,Tryz.results225,go_sem,g0,g1]) rfl ⟨rfl,rL HB.out (aaJ _) _ _⟩
theorem wdK {w0 W:World} {k j t:Nat} {v0 v1 v2 u0 u1:Value} (h:(W.cell? ⟨k,0,none⟩=some v0∧W.cell? ⟨k,1,none⟩=some v1∧W.cell? ⟨k,2,none⟩=some v2)∧W.heap[j]? =some (.cells #[u0,u1] t (0,0))∧Below w0.heap.size w0 W):
  (W.drew.cell? ⟨k,0,none⟩=some v0∧W.drew.cell? ⟨k,1,none⟩=some v1∧W.drew.cell? ⟨k,2,none⟩=some v2)∧W.drew.heap[j]? =some (.cells #[u0,u1] t (0,0))∧Below w0.heap.size w0 W.drew:=⟨h.1,h.2.1,h.2.2.drew⟩
theorem wwide_any (p:Int) (h1:0≤p) (h2:p<1152921504606846976) (s:Bool) (w:World):Calls aaZ 198 #[.agg #[.int .u64 0,.int .u64 p,.bool s]] w (oN (.tuple #[.agg #[.int .i64 ((if s then -p else p)/1152921504606846976),.int .i64 ((if s then -p else p)%1152921504606846976)],.int .i64 0]) w):=by
 cases s with
 | false=>
  have hb0:Below w.heap.size w ((w.alloc (.cells #[.int .u64 0,.int .u64 p,.bool false] 215)).alloc (.cells #[.int .i64 0,.int .i64 0] 188)):=((aeX _ w).alloc (aaJ _) _).alloc (by simp) _;have k0:((w.alloc (.cells #[.int .u64 0,.int .u64 p,.bool false] 215)).alloc (.cells #[.int .i64 0,.int .i64 0] 188)).heap[w.heap.size]? =some (.cells #[.int .u64 0,.int .u64 p,.bool false] 215 (0,0)):=(ahX _ _ _ (by simp)).trans (heap_alloc_new w _);have k1:((w.alloc (.cells #[.int .u64 0,.int .u64 p,.bool false] 215)).alloc (.cells #[.int .i64 0,.int .i64 0] 188)).heap[w.heap.size+ 1]? =some (.cells #[.int .i64 0,.int .i64 0] 188 (0,0)):=by
   have:=heap_alloc_new (w.alloc (.cells #[.int .u64 0,.int .u64 p,.bool false] 215)) (.cells #[.int .i64 0,.int .i64 0] 188);rwa [agZ] at this
  go_enter Tryz.func198,Tryz.ntmps198;go_wp2_with fail
  generalize (w.alloc (.cells #[.int .u64 0,.int .u64 p,.bool false] 215)).alloc (.cells #[.int .i64 0,.int .i64 0] 188)=W at*;have hX:(W.cell? ⟨w.heap.size,0,none⟩=some (.int .u64 0)∧W.cell? ⟨w.heap.size,1,none⟩=some (.int .u64 p)∧W.cell? ⟨w.heap.size,2,none⟩=some (.bool false))∧W.heap[w.heap.size+ 1]? =some (.cells #[.int .i64 0,.int .i64 0] 188 (0,0))∧Below w.heap.size w W:=⟨⟨by simp [World.cell?,k0],by simp [World.cell?,k0],by simp [World.cell?,k0]⟩,k1,hb0⟩;have HX:=aaX hX;clear k0 k1 hb0 hX;go_region_held3 (fun w'=>(w'.cell? ⟨w.heap.size,0,none⟩=some (.int .u64 0)∧w'.cell? ⟨w.heap.size,1,none⟩=some (.int .u64 p)∧w'.cell? ⟨w.heap.size,2,none⟩=some (.bool false))∧w'.heap[w.heap.size+ 1]? =some (.cells #[.int .i64 0,.int .i64 0] 188 (0,0))∧Below w.heap.size w w')
   (first
    | (with_reducible exact HX.out)
    | (with_reducible exact wdK HX.out)
    | fail)
   (fail)
  have HY:=aaX (show (W.drew.cell? ⟨w.heap.size,0,none⟩=some (.int .u64 0)∧W.drew.cell? ⟨w.heap.size,1,none⟩=some (.int .u64 p)∧W.drew.cell? ⟨w.heap.size,2,none⟩=some (.bool false))∧W.drew.heap[w.heap.size+ 1]? =some (.cells #[.int .i64 0,.int .i64 0] 188 (0,0))∧Below w.heap.size w W.drew from wdK HX.out);rw [show i64.wrap (bits BinOp.or IntKind.u64 (u64.wrap 0) (p/1152921504606846976))=0 by rw [show p/1152921504606846976=0 by omega];decide,show i64.wrap (bits BinOp.and IntKind.u64 p 1152921504606846975)=p by rw [OX,IntKind.wrap_i64];omega];generalize W.drew=V at*;have v2:=HY.out.1.2.2;clear HX;go_wp2_with fail
  refine (wfit_any p (by omega) (by omega) V).mono ?_;rintro e w1 ⟨rfl,hb⟩;have g4:=(hb.block _ (Array.getElem?_eq_some_iff.1 HY.out.2.1).1).trans HY.out.2.1;have HB:=aaX (HY.out.2.2.trans (hb.mono HY.out.2.2.size));have HG:=aaX g4;obtain ⟨d0,d1,f0,f1⟩:=oS g4;clear hb g4 v2 HY;go_wp2_with fail
  obtain ⟨g0,g1,_,_⟩:=oS (set2 (.int .i64 ((p)/1152921504606846976)) (.int .i64 ((p)%1152921504606846976)) HG.out);refine bodyPost_ret (v:=.tuple #[.agg #[.int .i64 ((p)/1152921504606846976),.int .i64 ((p)%1152921504606846976)],.int .i64 0]) (by simp [results,Tryz.results198,go_sem,g0,g1]) rfl ⟨rfl,rL HB.out (by simp) _ _⟩
 | true=>
  have hb0:Below w.heap.size w ((w.alloc (.cells #[.int .u64 0,.int .u64 p,.bool true] 215)).alloc (.cells #[.int .i64 0,.int .i64 0] 188)):=((aeX _ w).alloc (aaJ _) _).alloc (by simp) _;have k0:((w.alloc (.cells #[.int .u64 0,.int .u64 p,.bool true] 215)).alloc (.cells #[.int .i64 0,.int .i64 0] 188)).heap[w.heap.size]? =some (.cells #[.int .u64 0,.int .u64 p,.bool true] 215 (0,0)):=(ahX _ _ _ (by simp)).trans (heap_alloc_new w _);have k1:((w.alloc (.cells #[.int .u64 0,.int .u64 p,.bool true] 215)).alloc (.cells #[.int .i64 0,.int .i64 0] 188)).heap[w.heap.size+ 1]? =some (.cells #[.int .i64 0,.int .i64 0] 188 (0,0)):=by
   have:=heap_alloc_new (w.alloc (.cells #[.int .u64 0,.int .u64 p,.bool true] 215)) (.cells #[.int .i64 0,.int .i64 0] 188);rwa [agZ] at this
  go_enter Tryz.func198,Tryz.ntmps198;go_wp2_with fail
  generalize (w.alloc (.cells #[.int .u64 0,.int .u64 p,.bool true] 215)).alloc (.cells #[.int .i64 0,.int .i64 0] 188)=W at*;have hX:(W.cell? ⟨w.heap.size,0,none⟩=some (.int .u64 0)∧W.cell? ⟨w.heap.size,1,none⟩=some (.int .u64 p)∧W.cell? ⟨w.heap.size,2,none⟩=some (.bool true))∧W.heap[w.heap.size+ 1]? =some (.cells #[.int .i64 0,.int .i64 0] 188 (0,0))∧Below w.heap.size w W:=⟨⟨by simp [World.cell?,k0],by simp [World.cell?,k0],by simp [World.cell?,k0]⟩,k1,hb0⟩;have HX:=aaX hX;clear k0 k1 hb0 hX;go_region_held3 (fun w'=>(w'.cell? ⟨w.heap.size,0,none⟩=some (.int .u64 0)∧w'.cell? ⟨w.heap.size,1,none⟩=some (.int .u64 p)∧w'.cell? ⟨w.heap.size,2,none⟩=some (.bool true))∧w'.heap[w.heap.size+ 1]? =some (.cells #[.int .i64 0,.int .i64 0] 188 (0,0))∧Below w.heap.size w w')
   (first
    | (with_reducible exact HX.out)
    | (with_reducible exact wdK HX.out)
    | fail)
   (fail)
  have HY:=aaX (show (W.drew.cell? ⟨w.heap.size,0,none⟩=some (.int .u64 0)∧W.drew.cell? ⟨w.heap.size,1,none⟩=some (.int .u64 p)∧W.drew.cell? ⟨w.heap.size,2,none⟩=some (.bool true))∧W.drew.heap[w.heap.size+ 1]? =some (.cells #[.int .i64 0,.int .i64 0] 188 (0,0))∧Below w.heap.size w W.drew from wdK HX.out);rw [show i64.wrap (bits BinOp.or IntKind.u64 (u64.wrap 0) (p/1152921504606846976))=0 by rw [show p/1152921504606846976=0 by omega];decide,show i64.wrap (bits BinOp.and IntKind.u64 p 1152921504606846975)=p by rw [OX,IntKind.wrap_i64];omega];generalize W.drew=V at*;have v2:=HY.out.1.2.2;clear HX;go_wp2_with fail
  refine (wfit_any (-p) (by omega) (by omega) V).mono ?_;rintro e w1 ⟨rfl,hb⟩;have g4:=(hb.block _ (Array.getElem?_eq_some_iff.1 HY.out.2.1).1).trans HY.out.2.1;have HB:=aaX (HY.out.2.2.trans (hb.mono HY.out.2.2.size));have HG:=aaX g4;obtain ⟨d0,d1,f0,f1⟩:=oS g4;clear hb g4 v2 HY;go_wp2_with fail
  obtain ⟨g0,g1,_,_⟩:=oS (set2 (.int .i64 ((-p)/1152921504606846976)) (.int .i64 ((-p)%1152921504606846976)) HG.out);refine bodyPost_ret (v:=.tuple #[.agg #[.int .i64 ((-p)/1152921504606846976),.int .i64 ((-p)%1152921504606846976)],.int .i64 0]) (by simp [results,Tryz.results198,go_sem,g0,g1]) rfl ⟨rfl,rL HB.out (by simp) _ _⟩
theorem wdK2 {w0 W:World} {k j t:Nat} {v0 v1:Value} {c:Array Value} (h:(W.cell? ⟨k,0,none⟩=some v0∧W.cell? ⟨k,1,none⟩=some v1)∧W.heap[j]? =some (.cells c t (0,0))∧Below w0.heap.size w0 W):
  (W.drew.cell? ⟨k,0,none⟩=some v0∧W.drew.cell? ⟨k,1,none⟩=some v1)∧W.drew.heap[j]? =some (.cells c t (0,0))∧Below w0.heap.size w0 W.drew:=⟨h.1,h.2.1,h.2.2.drew⟩
theorem wsize_pos (p:Int) (h1:0≤p) (h2:p<1152921504606846976) (w:World):Calls aaZ 227 #[.agg #[.int .i64 0,.int .i64 p]] w (oN (.agg #[.int .u64 0,.int .u64 p,.bool false]) w):=by
 have hb0:Below w.heap.size w ((w.alloc (.cells #[.int .i64 0,.int .i64 p] 188)).alloc (.cells #[.int .u64 0,.int .u64 0,.bool false] 215)):=((aeX _ w).alloc (aaJ _) _).alloc (by simp) _;have k0:((w.alloc (.cells #[.int .i64 0,.int .i64 p] 188)).alloc (.cells #[.int .u64 0,.int .u64 0,.bool false] 215)).heap[w.heap.size]? =some (.cells #[.int .i64 0,.int .i64 p] 188 (0,0)):=(ahX _ _ _ (by simp)).trans (heap_alloc_new w _);have k1:((w.alloc (.cells #[.int .i64 0,.int .i64 p] 188)).alloc (.cells #[.int .u64 0,.int .u64 0,.bool false] 215)).heap[w.heap.size+ 1]? =some (.cells #[.int .u64 0,.int .u64 0,.bool false] 215 (0,0)):=by
  have:=heap_alloc_new (w.alloc (.cells #[.int .i64 0,.int .i64 p] 188)) (.cells #[.int .u64 0,.int .u64 0,.bool false] 215);rwa [agZ] at this
 go_enter Tryz.func227,Tryz.ntmps227;go_wp2_with fail
 generalize (w.alloc (.cells #[.int .i64 0,.int .i64 p] 188)).alloc (.cells #[.int .u64 0,.int .u64 0,.bool false] 215)=W at*;have HX:=aaX (show (W.cell? ⟨w.heap.size,0,none⟩=some (.int .i64 0)∧W.cell? ⟨w.heap.size,1,none⟩=some (.int .i64 p))∧W.heap[w.heap.size+ 1]? =some (.cells #[.int .u64 0,.int .u64 0,.bool false] 215 (0,0))∧Below w.heap.size w W from ⟨⟨by simp [World.cell?,k0],by simp [World.cell?,k0]⟩,k1,hb0⟩);clear k0 k1 hb0;go_region_held3 (fun w'=>(w'.cell? ⟨w.heap.size,0,none⟩=some (.int .i64 0)∧w'.cell? ⟨w.heap.size,1,none⟩=some (.int .i64 p))∧w'.heap[w.heap.size+ 1]? =some (.cells #[.int .u64 0,.int .u64 0,.bool false] 215 (0,0))∧Below w.heap.size w w')
  (first
   | (with_reducible exact HX.out)
   | (with_reducible exact wdK2 HX.out)
   | fail)
  (fail)
 have HY:=aaX (wdK2 HX.out);generalize W.drew=V at*;clear HX;obtain ⟨d0,d1,d2,f0,f1,f2⟩:=IB HY.out.2.1;go_wp2_with fail
 rw [u64_or0 p (by omega) (by omega)];have HB:=aaX (GR HY.out.2.2 (b:=w.heap.size+1) (by simp) (.int .u64 0) (.int .u64 (p)) (.bool false));obtain ⟨g0,g1,g2,_,_,_⟩:=IB (set3 (.int .u64 0) (.int .u64 (p)) (.bool false) HY.out.2.1);refine bodyPost_ret (v:=.agg #[.int .u64 0,.int .u64 (p),.bool false]) (by simp [results,Tryz.results227,go_sem,g0,g1,g2]) rfl ⟨rfl,HB.out⟩
theorem wsize_neg (l:Int) (h1:0<l) (h2:l<1152921504606846976) (w:World):Calls aaZ 227 #[.agg #[.int .i64 (-1),.int .i64 l]] w (oN (.agg #[.int .u64 0,.int .u64 (1152921504606846976-l),.bool true]) w):=by
 have hb0:Below w.heap.size w ((w.alloc (.cells #[.int .i64 (-1),.int .i64 l] 188)).alloc (.cells #[.int .u64 0,.int .u64 0,.bool false] 215)):=((aeX _ w).alloc (aaJ _) _).alloc (by simp) _;have k0:((w.alloc (.cells #[.int .i64 (-1),.int .i64 l] 188)).alloc (.cells #[.int .u64 0,.int .u64 0,.bool false] 215)).heap[w.heap.size]? =some (.cells #[.int .i64 (-1),.int .i64 l] 188 (0,0)):=(ahX _ _ _ (by simp)).trans (heap_alloc_new w _);have k1:((w.alloc (.cells #[.int .i64 (-1),.int .i64 l] 188)).alloc (.cells #[.int .u64 0,.int .u64 0,.bool false] 215)).heap[w.heap.size+ 1]? =some (.cells #[.int .u64 0,.int .u64 0,.bool false] 215 (0,0)):=by
  have:=heap_alloc_new (w.alloc (.cells #[.int .i64 (-1),.int .i64 l] 188)) (.cells #[.int .u64 0,.int .u64 0,.bool false] 215);rwa [agZ] at this
 go_enter Tryz.func227,Tryz.ntmps227;go_wp2_with fail
 generalize (w.alloc (.cells #[.int .i64 (-1),.int .i64 l] 188)).alloc (.cells #[.int .u64 0,.int .u64 0,.bool false] 215)=W at*;have HX:=aaX (show (W.cell? ⟨w.heap.size,0,none⟩=some (.int .i64 (-1))∧W.cell? ⟨w.heap.size,1,none⟩=some (.int .i64 l))∧W.heap[w.heap.size+ 1]? =some (.cells #[.int .u64 0,.int .u64 0,.bool false] 215 (0,0))∧Below w.heap.size w W from ⟨⟨by simp [World.cell?,k0],by simp [World.cell?,k0]⟩,k1,hb0⟩);clear k0 k1 hb0;go_region_held3 (fun w'=>(w'.cell? ⟨w.heap.size,0,none⟩=some (.int .i64 (-1))∧w'.cell? ⟨w.heap.size,1,none⟩=some (.int .i64 l))∧w'.heap[w.heap.size+ 1]? =some (.cells #[.int .u64 0,.int .u64 0,.bool false] 215 (0,0))∧Below w.heap.size w w')
  (first
   | (with_reducible exact HX.out)
   | (with_reducible exact wdK2 HX.out)
   | fail)
  (fail)
 have HY:=aaX (wdK2 HX.out);generalize W.drew=V at*;clear HX;obtain ⟨d0,d1,d2,f0,f1,f2⟩:=IB HY.out.2.1;go_wp2_with fail
 rw [show (1+-l/1152921504606846976:Int)=0 by omega,show bits BinOp.and IntKind.i64 (-l) 1152921504606846975=1152921504606846976-l by rw [NW];omega,show (0/16:Int)=0 by rfl,show (0*1152921504606846976:Int)=0 by rfl,show u64.wrap (1152921504606846976-l)=1152921504606846976-l by rw [IntKind.wrap_u64];omega,u64_or0 _ (by omega) (by omega)];have HB:=aaX (GR HY.out.2.2 (b:=w.heap.size+1) (by simp) (.int .u64 0) (.int .u64 (1152921504606846976-l)) (.bool true));obtain ⟨g0,g1,g2,_,_,_⟩:=IB (set3 (.int .u64 0) (.int .u64 (1152921504606846976-l)) (.bool true) HY.out.2.1);refine bodyPost_ret (v:=.agg #[.int .u64 0,.int .u64 (1152921504606846976-l),.bool true]) (by simp [results,Tryz.results227,go_sem,g0,g1,g2]) rfl ⟨rfl,HB.out⟩
theorem wneg (q:Int) (h1:0≤q) (h2:q<4611686018427387904):wrap64 (u64.wrap (-q))=-q:=by
 simp only [IntKind.wrap_u64,wrap64];omega
def WQ (up neg:Bool) (q r:Int):Int:=if neg then -(if 0<r∧up=false then q+1 else q) else (if 0<r∧up=true then q+1 else q)
theorem wquot_walk {hi lo M D d q r:Int} {s:Bool} (up:Bool) (hv:∀w,Calls aaZ 226 #[.agg #[.int .i64 hi,.int .i64 lo]] w (oN (.bool true) w)) (hs:∀w,Calls aaZ 227 #[.agg #[.int .i64 hi,.int .i64 lo]] w (oN (.agg #[.int .u64 0,.int .u64 M,.bool s]) w))
  (ha:∀w,Calls aaZ 197 #[.int .i64 d] w (oN (.int .u64 D) w)) (hd:∀w,Calls aaZ 222 #[.int .u64 0,.int .u64 M,.int .u64 D] w (yZ q r w)) (h0:d≠0) (hD:0<D) (hq:0≤q) (hq2:q<1152921504606846976) (hr:0≤r) {R:Int} (hR:R=WQ up (s != decide (d<0)) q r) (w:World):
  Calls aaZ 199 #[.agg #[.int .i64 hi,.int .i64 lo],.int .i64 d,.bool up] w (oN (.tuple #[.int .i64 R,.int .i64 0]) w):=by
 have HR:=aaX hR;clear hR;have HV:=aaX hv;have HS:=aaX hs;have HA:=aaX ha;have HD:=aaX hd;have hb0:Below w.heap.size w (w.alloc (.cells #[.int .i64 hi,.int .i64 lo] 188)):=(aeX _ w).alloc (aaJ _) _;have k0:=heap_alloc_new w (.cells #[.int .i64 hi,.int .i64 lo] 188);have hd0:(d==0)=false:=beq_eq_false_iff_ne.2 h0;clear hv hs ha hd;go_enter Tryz.func199,Tryz.ntmps199;go_wp2_with fail
 generalize w.alloc (.cells #[.int .i64 hi,.int .i64 lo] 188)=W at*;refine (HV.out W).mono ?_;rintro e w1 ⟨rfl,hb1⟩;have k1:=(hb1.block _ (Array.getElem?_eq_some_iff.1 k0).1).trans k0;have hB1:=hb0.trans (hb1.mono hb0.size);clear hb0 k0 hb1;obtain ⟨c0,c1,_,_⟩:=oS k1;have HB:=aaX hB1;clear hB1 k1;go_wp2_with fail
 refine (HS.out w1).mono ?_;rintro e w2 ⟨rfl,hb2⟩;have HB2:=aaX (HB.out.trans (hb2.mono HB.out.size));clear HB hb2 c0 c1;go_wp2_with fail
 refine (HA.out w2).mono ?_;rintro e w3 ⟨rfl,hb3⟩;have HB3:=aaX ((HB2.out.trans (hb3.mono HB2.out.size)).alloc (Nat.le_trans HB2.out.size hb3.size) (.cells #[.int .u64 0,.int .u64 M,.bool s] 215));have k3:=heap_alloc_new w3 (.cells #[.int .u64 0,.int .u64 M,.bool s] 215);clear HB2 hb3;have hDD:¬D≤0:=by omega
 go_wp2_with fail
 generalize w3.alloc (.cells #[.int .u64 0,.int .u64 M,.bool s] 215)=V at*;refine (HD.out V).mono ?_;rintro e w4 ⟨rfl,h4⟩;have k4:w4.heap[w3.heap.size]? =some (.cells #[.int .u64 0,.int .u64 M,.bool s] 215 (0,0)):=by rcases h4 with rfl | rfl<;>exact k3
 have HB4:RowKit.Hid (Below w.heap.size w w4):=aaX (by rcases h4 with rfl | rfl<;>first | exact HB3.out | exact HB3.out.drew);obtain ⟨_,_,c2,_,_,_⟩:=IB k4;clear h4 k3 k4 HB3 HV HS HA HD;have hz:d<0∨¬d<0:=by omega
 have hrr:r=0∨0<r:=by omega
 have hR:=HR.out;clear HR;unfold WQ at hR;cases up<;>cases s<;>rcases hz with hz | hz<;>rcases hrr with hrr | hrr<;>simp only [hz,hrr,decide_true,decide_false,bne_self_eq_false,Bool.false_bne,Bool.true_bne,Bool.not_false,Bool.not_true,if_true,if_false,and_true,and_false,true_and,false_and,Bool.false_eq_true,Int.lt_irrefl,reduceCtorEq] at hR<;>subst hR
 all_goals (try have hdd:decide (d<0)=false:=decide_eq_false (by omega))
 all_goals go_wp2_with fail
 all_goals (first
  | rw [wneg (q+1) (by omega) (by omega)]
  | rw [wneg q hq (by omega)]
  | skip)
 all_goals (first | (go_ret2;exact ⟨rfl,HB4.out⟩) | (exfalso;omega) | (exfalso;simp_all;done) | trace_state)
theorem kV {P D X:Int} (hD:0<D) (h1:X*D≤P) (h2:P<X*D+D):P/D=X:=by
 have e:P=(P-X*D)+X*D:=by omega
 rw [e,Int.add_mul_ediv_right _ _ (by omega),Int.ediv_eq_zero_of_lt (by omega) (by omega)];omega
def WO (P d:Int):Int:=if d<0 then (-P)/(-d) else P/d
def ceQ (P d:Int):Int:=-WO (-P) d
theorem wq_fl {P d q r:Int} (hd:d≠0) (hq:0≤q) (hr:0≤r) (hr2:r<(if d<0 then -d else d)) (h:(if P<0 then -P else P)=q*(if d<0 then -d else d)+r):WQ false (decide (P<0) != decide (d<0)) q r=WO P d:=by
 unfold WO WQ;by_cases hd0:d<0
 ·rw [if_pos hd0] at h hr2 ⊢;rw [decide_eq_true hd0];by_cases hP:P<0
  ·rw [if_pos hP] at h;rw [decide_eq_true hP];simp only [bne_self_eq_false,Bool.false_eq_true,if_false,and_false];exact (kV (by omega) (by omega) (by omega)).symm
  ·rw [if_neg hP] at h;rw [decide_eq_false hP];simp only [Bool.false_bne,if_true,and_true];split
   ·refine (kV (by omega) ?_ ?_).symm<;>simp only [amQ,Int.add_mul]<;>omega
   ·refine (kV (by omega) ?_ ?_).symm<;>simp only [amQ]<;>omega
 ·rw [if_neg hd0] at h hr2 ⊢;rw [decide_eq_false hd0];by_cases hP:P<0
  ·rw [if_pos hP] at h;rw [decide_eq_true hP];simp only [Bool.bne_false,if_true,and_true];split
   ·refine (kV (by omega) ?_ ?_).symm<;>simp only [amQ,Int.add_mul]<;>omega
   ·refine (kV (by omega) ?_ ?_).symm<;>simp only [amQ]<;>omega
  ·rw [if_neg hP] at h;rw [decide_eq_false hP];simp only [bne_self_eq_false,Bool.false_eq_true,if_false,and_false];exact (kV (by omega) (by omega) (by omega)).symm
theorem wq_ce {P d q r:Int} (hd:d≠0) (hq:0≤q) (hr:0≤r) (hr2:r<(if d<0 then -d else d)) (h:(if P<0 then -P else P)=q*(if d<0 then -d else d)+r):WQ true (decide (P<0) != decide (d<0)) q r=ceQ P d:=by
 unfold ceQ WO WQ;by_cases hd0:d<0
 ·rw [if_pos hd0] at h hr2 ⊢;rw [decide_eq_true hd0];by_cases hP:P<0
  ·rw [if_pos hP] at h;rw [decide_eq_true hP];simp only [bne_self_eq_false,Bool.false_eq_true,if_false,and_true];split
   ·rw [kV (X:=-(q+1)) (by omega)]<;>(try simp only [amQ,Int.add_mul])<;>omega
   ·rw [kV (X:=-q) (by omega)]<;>(try simp only [amQ])<;>omega
  ·rw [if_neg hP] at h;rw [decide_eq_false hP];simp only [Bool.false_bne,if_true,and_false,if_false,Bool.true_eq_false];rw [kV (X:=q) (by omega)]<;>omega
 ·rw [if_neg hd0] at h hr2 ⊢;rw [decide_eq_false hd0];by_cases hP:P<0
  ·rw [if_pos hP] at h;rw [decide_eq_true hP];simp only [Bool.bne_false,if_true,and_false,if_false,Bool.true_eq_false];rw [kV (X:=q) (by omega)]<;>omega
  ·rw [if_neg hP] at h;rw [decide_eq_false hP];simp only [bne_self_eq_false,Bool.false_eq_true,if_false,and_true];split
   ·rw [kV (X:=-(q+1)) (by omega)]<;>(try simp only [amQ,Int.add_mul])<;>omega
   ·rw [kV (X:=-q) (by omega)]<;>(try simp only [amQ])<;>omega
theorem PA {P d:Int} (up:Bool) (h1:-1152921504606846976<P) (h2:P<1152921504606846976) (hd:d≠0) (d1:-4294967296<d) (d2:d<4294967296) (w:World):
  Calls aaZ 199 #[.agg #[.int .i64 (P/1152921504606846976),.int .i64 (P%1152921504606846976)],.int .i64 d,.bool up] w (oN (.tuple #[.int .i64 (if up then ceQ P d else WO P d),.int .i64 0]) w):=by
 obtain ⟨q,r,q0,q1,r0,r1,he,hc⟩:=jU 0 (if P<0 then -P else P) (if d<0 then -d else d) (by split<;>omega) (by split<;>omega) (by omega) (by split<;>omega) (by split<;>omega) (by split<;>omega);have he':(if P<0 then -P else P)=q*(if d<0 then -d else d)+r:=by omega
 have hq2:q<1152921504606846976:=by
  have hm:q*1≤q*(if d<0 then -d else d):=Int.mul_le_mul_of_nonneg_left (by split<;>omega) q0;have:(if P<0 then -P else P)<1152921504606846976:=by split<;>omega
  omega
 refine wquot_walk (s:=decide (P<0)) up (fun w=>wval_any (by omega) (by omega) (by omega) (by omega) w) (fun w=>?_) (fun w=>LK d (by omega) (by omega) w) hc hd (by split<;>omega) q0 hq2 r0 ?_ w
 ·by_cases hP:P<0
  ·rw [if_pos hP,decide_eq_true hP];have e1:P/1152921504606846976=-1:=by omega
   have e2:P%1152921504606846976=P+1152921504606846976:=by omega
   have:=wsize_neg (P+1152921504606846976) (by omega) (by omega) w;rw [show 1152921504606846976-(P+1152921504606846976)=-P by omega] at this;rw [e1,e2];exact this
  ·rw [if_neg hP,decide_eq_false hP];have e1:P/1152921504606846976=0:=by omega
   have e2:P%1152921504606846976=P:=by omega
   rw [e1,e2];exact wsize_pos P (by omega) h2 w
 ·cases up
  ·exact (wq_fl hd q0 r0 r1 he').symm
  ·exact (wq_ce hd q0 r0 r1 he').symm
theorem wfloor_any {P d:Int} (h1:-1152921504606846976<P) (h2:P<1152921504606846976) (hd:d≠0) (d1:-4294967296<d) (d2:d<4294967296) (w:World):
  Calls aaZ 167 #[.agg #[.int .i64 (P/1152921504606846976),.int .i64 (P%1152921504606846976)],.int .i64 d] w (oN (.tuple #[.int .i64 (WO P d),.int .i64 0]) w):=by
 have HQ:=aaX (fun w=>PA false h1 h2 hd d1 d2 w);have HB:=aaX ((aeX _ w).alloc (aaJ _) (.cells #[.int .i64 (P/1152921504606846976),.int .i64 (P%1152921504606846976)] 188));clear h1 h2 hd d1 d2;go_enter Tryz.func167,Tryz.ntmps167;go_wp2_with fail
 refine (HQ.out _).mono ?_;rintro e w1 ⟨rfl,hb⟩;have HC:=aaX (HB.out.trans (hb.mono HB.out.size));clear hb HB HQ;go_wp2_with fail
 go_ret2
 exact ⟨rfl,HC.out⟩
theorem wceil_any {P d:Int} (h1:-1152921504606846976<P) (h2:P<1152921504606846976) (hd:d≠0) (d1:-4294967296<d) (d2:d<4294967296) (w:World):
  Calls aaZ 168 #[.agg #[.int .i64 (P/1152921504606846976),.int .i64 (P%1152921504606846976)],.int .i64 d] w (oN (.tuple #[.int .i64 (ceQ P d),.int .i64 0]) w):=by
 have HQ:=aaX (fun w=>PA true h1 h2 hd d1 d2 w);have HB:=aaX ((aeX _ w).alloc (aaJ _) (.cells #[.int .i64 (P/1152921504606846976),.int .i64 (P%1152921504606846976)] 188));clear h1 h2 hd d1 d2;go_enter Tryz.func168,Tryz.ntmps168;go_wp2_with fail
 refine (HQ.out _).mono ?_;rintro e w1 ⟨rfl,hb⟩;have HC:=aaX (HB.out.trans (hb.mono HB.out.size));clear hb HB HQ;go_wp2_with fail
 go_ret2
 exact ⟨rfl,HC.out⟩
theorem calls_arg {f:FuncId} {a a':Value} {w:World} {R:Ending→World→Prop} (h:a=a') (hc:Calls aaZ f #[a] w R):Calls aaZ f #[a'] w R:=h ▸ hc
theorem wprod_any {x y:Int} (x1:-4611686018427387904<x) (x2:x<4611686018427387904) (y1:-4611686018427387904<y) (y2:y<4611686018427387904) (h1:-1152921504606846976<x*y) (h2:x*y<1152921504606846976) (w:World):
  Calls aaZ 166 #[.int .i64 x,.int .i64 y] w (oN (.tuple #[.agg #[.int .i64 (x*y/1152921504606846976),.int .i64 (x*y%1152921504606846976)],.int .i64 0]) w):=by
 obtain ⟨M,hM⟩:∃M,M=(if x<0 then -x else x)*(if y<0 then -y else y):=⟨_,rfl⟩;have hMx:M=if x*y<0 then -(x*y) else x*y:=by
  rw [hM];by_cases hx:x<0<;>by_cases hy:y<0
  ·have:=Int.mul_pos_of_neg_of_neg hx hy;rw [if_pos hx,if_pos hy,if_neg (by omega),Int.neg_mul_neg]
  ·rw [if_pos hx,if_neg hy,amQ];have:=aeJ (show 0≤-x by omega) (show 0≤y by omega);rw [amQ] at this;split<;>omega
  ·rw [if_neg hx,if_pos hy,auX];have:=aeJ (show 0≤x by omega) (show 0≤-y by omega);rw [auX] at this;split<;>omega
  ·have:=aeJ (show 0≤x by omega) (show 0≤y by omega);rw [if_neg hx,if_neg hy,if_neg (by omega)]
 have hm0:0≤M:=by rw [hMx];split<;>omega
 have hm1:M<1152921504606846976:=by rw [hMx];split<;>omega
 obtain ⟨s,hs⟩:∃s,s=(((decide (x<0) != decide (y<0))&&(x != 0))&&(y != 0)):=⟨_,rfl⟩;have hsx:(if s then -M else M)=x*y:=by
  by_cases hx0:x=0
  ·subst hx0;simp at hMx;rw [hMx];simp
  ·by_cases hy0:y=0
   ·subst hy0;simp at hMx;rw [hMx];simp
   ·rw [hs,bne_iff_ne.2 hx0,bne_iff_ne.2 hy0,Bool.and_true,Bool.and_true,hM];by_cases hx:x<0<;>by_cases hy:y<0<;>simp [hx,hy,amQ,auX]
 have HA:=aaX (fun w=>LK x x1 x2 w);have HA2:=aaX (fun w=>LK y y1 y2 w);have HM:=aaX (show ∀w,Calls aaZ 192 #[.int .u64 (if x<0 then -x else x),.int .u64 (if y<0 then -y else y)] w (fun e w'=>e=.returned (.tuple #[.int .u64 0,.int .u64 M])∧w=w') by
  intro w;have:=wT (if x<0 then -x else x) (if y<0 then -y else y) ⟨by split<;>omega,by split<;>omega⟩ ⟨by split<;>omega,by split<;>omega⟩ w;unfold MulPost at this;rwa [←hM,show M/18446744073709551616=0 by omega,show M%18446744073709551616=M by omega] at this)
 have HW:=aaX (fun w=>wwide_any M hm0 hm1 s w);rw [hsx] at HW;have HSS:=aaX hs;clear x1 x2 y1 y2 h1 h2 hM hMx hm0 hm1 hsx hs;generalize (if x<0 then -x else x)=X at*;generalize (if y<0 then -y else y)=Y at*;generalize x*y=P at*;have hb0:Below w.heap.size w (w.alloc (.cells #[.int .i64 0,.int .i64 0] 188)):=(aeX _ w).alloc (aaJ _) _;have k0:=heap_alloc_new w (.cells #[.int .i64 0,.int .i64 0] 188);go_enter Tryz.func166,Tryz.ntmps166;go_wp2_with fail
 generalize w.alloc (.cells #[.int .i64 0,.int .i64 0] 188)=W at*;refine (HA.out W).mono ?_;rintro e w1 ⟨rfl,hb1⟩;have k1:=(hb1.block _ (Array.getElem?_eq_some_iff.1 k0).1).trans k0;have HB1:=aaX (hb0.trans (hb1.mono hb0.size));clear hb0 k0 hb1;go_wp2_with fail
 refine (HA2.out w1).mono ?_;rintro e w2 ⟨rfl,hb2⟩;have k2:=(hb2.block _ (Array.getElem?_eq_some_iff.1 k1).1).trans k1;have HB2:=aaX (HB1.out.trans (hb2.mono HB1.out.size));clear HB1 k1 hb2;go_wp2_with fail
 refine (HM.out w2).mono ?_;rintro e w3 ⟨rfl,rfl⟩;go_wp2_with fail
 all_goals
  refine (calls_arg (by rw [HSS.out];first | rfl | (simp_all;done)) (HW.out w2)).mono ?_;rintro e w3 ⟨rfl,hb3⟩;have k3:=(hb3.block _ (Array.getElem?_eq_some_iff.1 k2).1).trans k2;have HB3:=aaX (HB2.out.trans (hb3.mono HB2.out.size));obtain ⟨d0,d1,f0,f1⟩:=oS k3;have HG:=aaX k3;clear k2 k3 hb3;go_wp2_with fail
  obtain ⟨g0,g1,_,_⟩:=oS (set2 (.int .i64 (P/1152921504606846976)) (.int .i64 (P%1152921504606846976)) HG.out);refine bodyPost_ret (v:=.tuple #[.agg #[.int .i64 (P/1152921504606846976),.int .i64 (P%1152921504606846976)],.int .i64 0]) (by simp [results,Tryz.results166,go_sem,g0,g1]) rfl ⟨rfl,rL HB3.out (aaJ _) _ _⟩
def IT (x n d:Int):Bool:=decide (-2147483648≤x∧x≤2147483648∧-131072≤n∧n≤131072∧d≠0∧-2147483648≤d∧d≤2147483648)
def encR (x n d:Int):Int×Int×Int:=(WO (x*n) d,ceQ (x*n) d,0)
theorem qenc_any (x n d:Int) (hp:IT x n d=true):Ev.aH aaZ 129 [.int .i64 x,.int .i64 n,.int .i64 d] (.tuple ⟨[.int .i64 (encR x n d).1,.int .i64 (encR x n d).2.1,.int .i64 (encR x n d).2.2]⟩):=by
 intro w _;obtain ⟨x1,x2,n1,n2,d0,d1,d2⟩:=of_decide_eq_true hp;have b1:x*n≤2147483648*131072:=by
  have h1:(2147483648-x)*(131072+n)≥0:=aeJ (by omega) (by omega);have h2:(2147483648+x)*(131072-n)≥0:=aeJ (by omega) (by omega);have e1:(2147483648-x)*(131072+n)=2147483648*131072+2147483648*n-x*131072-x*n:=by grind
  have e2:(2147483648+x)*(131072-n)=2147483648*131072-2147483648*n+x*131072-x*n:=by grind
  omega
 have b2:-(2147483648*131072)≤x*n:=by
  have h1:(2147483648+x)*(131072+n)≥0:=aeJ (by omega) (by omega);have h2:(2147483648-x)*(131072-n)≥0:=aeJ (by omega) (by omega);have e1:(2147483648+x)*(131072+n)=2147483648*131072+2147483648*n+x*131072+x*n:=by grind
  have e2:(2147483648-x)*(131072-n)=2147483648*131072-2147483648*n-x*131072+x*n:=by grind
  omega
 have HP:=aaX (fun w=>wprod_any (x:=x) (y:=n) (by omega) (by omega) (by omega) (by omega) (by omega) (by omega) w);have HF:=aaX (fun w=>wfloor_any (P:=x*n) (d:=d) (by omega) (by omega) d0 (by omega) (by omega) w);have HC:=aaX (fun w=>wceil_any (P:=x*n) (d:=d) (by omega) (by omega) d0 (by omega) (by omega) w);unfold encR;clear hp x1 x2 n1 n2 d0 d1 d2 b1 b2;dsimp only;generalize x*n=P at*;show Calls aaZ 129 #[.int .i64 x,.int .i64 n,.int .i64 d] w (oN (.tuple #[.int .i64 (WO P d),.int .i64 (ceQ P d),.int .i64 0]) w);go_enter Tryz.func129,Tryz.ntmps129;go_wp2_with fail
 refine (HP.out w).mono ?_;rintro e w1 ⟨rfl,hb1⟩;have HB1:=aaX (hb1.alloc hb1.size (.cells #[.int .i64 (P/1152921504606846976),.int .i64 (P%1152921504606846976)] 188));have k1:=heap_alloc_new w1 (.cells #[.int .i64 (P/1152921504606846976),.int .i64 (P%1152921504606846976)] 188);clear hb1;go_wp2_with fail
 generalize w1.alloc (.cells #[.int .i64 (P/1152921504606846976),.int .i64 (P%1152921504606846976)] 188)=V at*;refine (HF.out V).mono ?_;rintro e w2 ⟨rfl,hb2⟩;have k2:=(hb2.block _ (Array.getElem?_eq_some_iff.1 k1).1).trans k1;have HB2:=aaX (HB1.out.trans (hb2.mono HB1.out.size));obtain ⟨c0,c1,_,_⟩:=oS k2;clear k1 k2 hb2 HB1;go_wp2_with fail
 refine (HC.out w2).mono ?_;rintro e w3 ⟨rfl,hb3⟩;have HB3:=aaX (HB2.out.trans (hb3.mono HB2.out.size));clear hb3 HB2;go_wp2_with fail
 go_ret3
 exact ⟨rfl,HB3.out⟩
end
end Go.Proofs.YtajpgkpdhcbngaaGreatDoor
