/-
  Gauss's formulas, for the truth: the half zenith distance and the azimuth's two directions. No program here. Half-angles: the altitude's and the azimuth's arcs hold the truth. No program here..
-/
import Derived.Test.YtmididlfnajhiaaGreatDoorU12
import Derived.Test.YtmididlfnajhiaaGreatDoorU18
import Derived.Test.YtmididlfnajhiaaGreatDoorU15
import Derived.Test.YtmididlfnajhiaaGreatDoorU13
set_option maxRecDepth 100000
set_option maxHeartbeats 4000000
open _root_.Int renaming emod_lt_of_pos→ahJ,emod_nonneg→ajQ,le_refl→aeX,mul_comm→akQ,mul_one→atJ,neg_neg→ayJ,neg_tmod→azZ,tdiv→apQ,tmod→avZ,tmod_lt_of_pos→arX,toNat_of_nonneg→ahX,zero_sub→aoX
open _root_.Rat renaming intCast_add→adQ,intCast_mul→abJ,intCast_sub→acZ,le_total→adJ,mul_nonneg→aaZ
open Go.IntKind (i64 u64)
namespace Go.Proofs.YtmididlfnajhiaaGreatDoor
section
open SM TB TA
theorem ee0:e0=1048576*u0:=rfl
theorem dblq (q:Rat):Cl (e0/20) (2*(si q*si q)) (1-co (q+q))∧Cl (e0/20) (2*(co q*co q)) (1+co (q+q))∧Cl (e0/20) (2*(si q*co q)) (si (q+q)):=by
 have a:=addq q q;have n:=EM q;have u:=cT;have e:=ee0;unfold Cl at*;generalize co q*co q=c2 at*;generalize si q*si q=s2 at*;rw [show si q*co q+co q*si q=2*(si q*co q) by grind] at a;generalize si q*co q=sc at*;refine ⟨⟨?_,?_⟩,⟨?_,?_⟩,?_,?_⟩<;>grind
theorem compq (q:Rat):Cl (e0/20) (co (10800000-q)) (-co q)∧Cl (e0/20) (si (10800000-q)) (si q):=by
 have a:=oppq (-q);have n:=BU q;have u:=cT;have e:=ee0;rw [show -q+10800000=10800000-q by grind] at a;unfold Cl at*;refine ⟨⟨?_,?_⟩,?_,?_⟩<;>grind
theorem mul2 {e a b c d:Rat} (h:Cl e a b) (k:Cl e c d) (hb:-5≤b∧b≤5) (hd:-5≤d∧d≤5) (he1:e≤1):Cl (11*e) (a*c) (b*d):=by
 have m:=Cl.mul 6 5 h k (by unfold Cl at k;constructor<;>grind) hb;exact m.wide (by grind)
theorem bd_prod (p q:Rat):(-3/2≤co p*co q∧co p*co q≤3/2)∧(-3/2≤si p*si q∧si p*si q≤3/2)∧(-3/2≤si p*co q∧si p*co q≤3/2)∧(-3/2≤co p*si q∧co p*si q≤3/2):=by
 have a:=bdq p;have b:=bdq q;have u:=cT;refine ⟨?_,?_,?_,?_⟩
 ·have:=aM (a:=co p) (b:=co q) (A:=11/10) (B:=11/10) (by grind) (by grind) (by grind) (by grind);constructor<;>grind
 ·have:=aM (a:=si p) (b:=si q) (A:=11/10) (B:=11/10) (by grind) (by grind) (by grind) (by grind);constructor<;>grind
 ·have:=aM (a:=si p) (b:=co q) (A:=11/10) (B:=11/10) (by grind) (by grind) (by grind) (by grind);constructor<;>grind
 ·have:=aM (a:=co p) (b:=si q) (A:=11/10) (B:=11/10) (by grind) (by grind) (by grind) (by grind);constructor<;>grind
theorem halves {x y t u v w:Rat} (hu:u+u=10800000-(x+y)) (hv:v+v=x-y) (hw:co (w+w)=co t∧si (w+w)=si t):
  Cl (e0/4) (2*(si u*si u)) (1+(co x*co y-si x*si y))∧Cl (e0/4) (2*(co u*co u)) (1-(co x*co y-si x*si y))∧Cl (e0/4) (2*(si u*co u)) (si x*co y+co x*si y)∧
  Cl (e0/4) (2*(si v*si v)) (1-(co x*co y+si x*si y))∧Cl (e0/4) (2*(co v*co v)) (1+(co x*co y+si x*si y))∧Cl (e0/4) (2*(si v*co v)) (si x*co y-co x*si y)∧
  Cl (e0/4) (2*(si w*si w)) (1-co t)∧Cl (e0/4) (2*(co w*co w)) (1+co t)∧Cl (e0/4) (2*(si w*co w)) (si t):=by
 have a:=dblq u;have b:=dblq v;have c:=dblq w;rw [hu] at a;rw [hv] at b;rw [hw.1,hw.2] at c;have k:=compq (x+y);have p:=addq x y;have q:=UI x y;have ub:=cT;have e:=ee0;have c1:=c.1.wide (show e0/20≤e0/4 by grind);have c2:=c.2.1.wide (show e0/20≤e0/4 by grind);have c3:=c.2.2.wide (show e0/20≤e0/4 by grind);refine ⟨?_,?_,?_,?_,?_,?_,c1,c2,c3⟩
 ·have a:=a.1;have k:=k.1;have p:=p.1;clear b c c1 c2 c3 q;unfold Cl at*;constructor<;>grind
 ·have a:=a.2.1;have k:=k.1;have p:=p.1;clear b c c1 c2 c3 q;unfold Cl at*;constructor<;>grind
 ·have a:=a.2.2;have k:=k.2;have p:=p.2;clear b c c1 c2 c3 q;unfold Cl at*;constructor<;>grind
 ·have b:=b.1;have q:=q.1;clear a c c1 c2 c3 p k;unfold Cl at*;constructor<;>grind
 ·have b:=b.2.1;have q:=q.1;clear a c c1 c2 c3 p k;unfold Cl at*;constructor<;>grind
 ·have b:=b.2.2;have q:=q.2;clear a c c1 c2 c3 p k;unfold Cl at*;constructor<;>grind
theorem bd_six (x y t:Rat):(-5≤1+(co x*co y-si x*si y)∧1+(co x*co y-si x*si y)≤5)∧(-5≤1-(co x*co y-si x*si y)∧1-(co x*co y-si x*si y)≤5)∧(-5≤si x*co y+co x*si y∧si x*co y+co x*si y≤5)∧
  (-5≤1-(co x*co y+si x*si y)∧1-(co x*co y+si x*si y)≤5)∧(-5≤1+(co x*co y+si x*si y)∧1+(co x*co y+si x*si y)≤5)∧(-5≤si x*co y-co x*si y∧si x*co y-co x*si y≤5)∧
  (-5≤1-co t∧1-co t≤5)∧(-5≤1+co t∧1+co t≤5)∧(-5≤si t∧si t≤5)∧(-5≤co y∧co y≤5):=by
 obtain ⟨p1,p2,p3,p4⟩:=bd_prod x y;have bt:=iN t;have by':=iN y;generalize co x*co y=A at*;generalize si x*si y=B at*;generalize si x*co y=C at*;generalize co x*si y=D at*;generalize co t=E at*;generalize si t=F at*;generalize co y=G at*;refine ⟨⟨?_,?_⟩,⟨?_,?_⟩,⟨?_,?_⟩,⟨?_,?_⟩,⟨?_,?_⟩,⟨?_,?_⟩,⟨?_,?_⟩,⟨?_,?_⟩,⟨?_,?_⟩,?_,?_⟩<;>grind
theorem gauss {x y t h u v w κ:Rat} (hu:u+u=10800000-(x+y)) (hv:v+v=x-y) (hw:co (w+w)=co t∧si (w+w)=si t) (huv:u+v=5400000-y) (hk:κ+κ=5400000-h) (hs:Cl (5*e0) (si h) (yE x y t)):
  Cl (16*e0) (si u*si w*(si u*si w)+si v*co w*(si v*co w)) (si κ*si κ)∧
  Cl (16*e0) (co u*si w*(co u*si w)+co v*co w*(co v*co w)) (co κ*co κ)∧
  Cl (16*e0) (2*(co u*si w*(si u*si w)-co v*co w*(si v*co w))) (yC x y t)∧
  Cl (16*e0) (2*(co u*si w*(si v*co w)+co v*co w*(si u*si w))) (-(IA y t))∧
  Cl (16*e0) (2*(co κ*si κ)) (co h):=by
 obtain ⟨a1,a2,a3,b1,b2,b3,c1,c2,c3⟩:=halves hu hv hw;have d:=dblq κ;rw [hk] at d;have cq:=WJ h;have av:=addq u v;rw [huv] at av;have cy:=WJ y;have ub:=cT;have e:=ee0;have eb:=eR;obtain ⟨g1,g2,g3,g4,g5,g6,g7,g8,g9,g10⟩:=bd_six x y t;have eq:e0/4≤1:=by grind
 have w1:Cl (e0/4) (si u*co v+co u*si v) (co y):=by
  have av:=av.2;have cy:=cy.1;clear a1 a2 a3 b1 b2 b3 c1 c2 c3 g1 g2 g3 g4 g5 g6 g7 g8 g9 g10 d cq;unfold Cl at av cy ⊢;constructor<;>grind
 have r1:=mul2 a1 c1 g1 g7 eq;have r2:=mul2 b1 c2 g4 g8 eq;have r3:=mul2 a2 c1 g2 g7 eq;have r4:=mul2 b2 c2 g5 g8 eq;have r5:=mul2 a3 c1 g3 g7 eq;have r6:=mul2 b3 c2 g6 g8 eq;have r7:=mul2 c3 w1 g9 g10 eq;clear a1 a2 a3 b1 b2 b3 c1 c2 c3 g1 g2 g3 g4 g5 g6 g7 g8 g9 g10 w1 av cy;refine ⟨?_,?_,?_,?_,?_⟩
 ·have d:=d.1;have cq:=cq.2;unfold yE at hs;unfold Cl at r1 r2 d cq hs ⊢;have f1:si u*si w*(si u*si w)=2*(si u*si u)*(2*(si w*si w))/4:=by grind
  have f2:si v*co w*(si v*co w)=2*(si v*si v)*(2*(co w*co w))/4:=by grind
  rw [f1,f2];generalize 2*(si u*si u)*(2*(si w*si w))=X1 at*;generalize 2*(si v*si v)*(2*(co w*co w))=X2 at*;generalize si κ*si κ=K at*;generalize co (5400000-h)=J at*;have g:(1+(co x*co y-si x*si y))*(1-co t)+(1-(co x*co y+si x*si y))*(1+co t)=2-2*(si x*si y+co x*co y*co t):=by grind
  generalize (1+(co x*co y-si x*si y))*(1-co t)=Y1 at*;generalize (1-(co x*co y+si x*si y))*(1+co t)=Y2 at*;generalize si x*si y+co x*co y*co t=U at*;generalize si h=s at*;constructor<;>grind
 ·have d:=d.2.1;have cq:=cq.2;unfold yE at hs;unfold Cl at r3 r4 d cq hs ⊢;have f1:co u*si w*(co u*si w)=2*(co u*co u)*(2*(si w*si w))/4:=by grind
  have f2:co v*co w*(co v*co w)=2*(co v*co v)*(2*(co w*co w))/4:=by grind
  rw [f1,f2];generalize 2*(co u*co u)*(2*(si w*si w))=X1 at*;generalize 2*(co v*co v)*(2*(co w*co w))=X2 at*;generalize co κ*co κ=K at*;generalize co (5400000-h)=J at*;have g:(1-(co x*co y-si x*si y))*(1-co t)+(1+(co x*co y+si x*si y))*(1+co t)=2+2*(si x*si y+co x*co y*co t):=by grind
  generalize (1-(co x*co y-si x*si y))*(1-co t)=Y1 at*;generalize (1+(co x*co y+si x*si y))*(1+co t)=Y2 at*;generalize si x*si y+co x*co y*co t=U at*;generalize si h=s at*;constructor<;>grind
 ·unfold yC;unfold Cl at r5 r6 ⊢;have f1:co u*si w*(si u*si w)=2*(si u*co u)*(2*(si w*si w))/4:=by grind
  have f2:co v*co w*(si v*co w)=2*(si v*co v)*(2*(co w*co w))/4:=by grind
  rw [f1,f2];generalize 2*(si u*co u)*(2*(si w*si w))=X1 at*;generalize 2*(si v*co v)*(2*(co w*co w))=X2 at*;have g:(si x*co y+co x*si y)*(1-co t)-(si x*co y-co x*si y)*(1+co t)=2*(si y*co x-co y*co t*si x):=by grind
  generalize (si x*co y+co x*si y)*(1-co t)=Y1 at*;generalize (si x*co y-co x*si y)*(1+co t)=Y2 at*;generalize si y*co x-co y*co t*si x=N at*;constructor<;>grind
 ·unfold IA;unfold Cl at r7 ⊢;have f1:co u*si w*(si v*co w)+co v*co w*(si u*si w)=2*(si w*co w)*(si u*co v+co u*si v)/2:=by grind
  rw [f1];rw [show si t*co y=co y*si t by grind] at r7;generalize 2*(si w*co w)*(si u*co v+co u*si v)=X1 at*;generalize co y*si t=N at*;constructor<;>grind
 ·have d:=d.2.2;have cq:=cq.1;unfold Cl at d cq ⊢;rw [show co κ*si κ=si κ*co κ by grind];generalize si κ*co κ=K at*;constructor<;>grind
end
section
open SM TB TA
def fU (a b c d:Int):Int×Int:=((10800000-b-d)/2,-(-(10800000-a-c)/2))
def fV (a b c d:Int):Int×Int:=((a-d)/2,-(-(b-c)/2))
def fW (e f:Int):Int×Int:=(dE e f/2,-(-cJ e f/2))
def mulT (r s:Int×Int×Int):Int×Int×Int:=bT r.1 r.2.1 s.1 s.2.1
def jR (a b c d e f:Int):Int×Int×Int:=mulT (aN (fU a b c d).1 (fU a b c d).2) (aW (fW e f).1 (fW e f).2)
def jT (a b c d e f:Int):Int×Int×Int:=mulT (aN (fV a b c d).1 (fV a b c d).2) (aN (fW e f).1 (fW e f).2)
def jU (a b c d e f:Int):Int×Int×Int:=mulT (aW (fU a b c d).1 (fU a b c d).2) (aW (fW e f).1 (fW e f).2)
def jV (a b c d e f:Int):Int×Int×Int:=mulT (aW (fV a b c d).1 (fV a b c d).2) (aN (fW e f).1 (fW e f).2)
def jI (r s:Int×Int×Int):Int×Int×Int:=fS (bF r.1 r.2.1).1 (bF r.1 r.2.1).2.1 (bF s.1 s.2.1).1 (bF s.1 s.2.1).2.1
def YU (r s:Int×Int×Int):Int×Int×Int:=rT (jI r s).1 (jI r s).2.1
def sT (a b c d e f:Int):Int×Int×Int:=YU (jU a b c d e f) (jV a b c d e f)
def sS (a b c d e f:Int):Int×Int×Int:=YU (jR a b c d e f) (jT a b c d e f)
def NH (r s:Int×Int×Int):Int×Int×Int:=aQ r.1 r.2.1 s.1 s.2.1
def XE (r:Int×Int×Int):Bool:=decide (21600000≤r.2.1-r.1)
def rY (a b c d e f:Int):Int×Int×Int:=NH (sT a b c d e f) (sS a b c d e f)
def hfH (a b c d e f:Int):Int×Int×Int:=(5400000-2*(rY a b c d e f).2.1,5400000-2*(rY a b c d e f).1,0)
def hfA (a b c d e f:Int):Int×Int×Int:=NH (jT a b c d e f) (jR a b c d e f)
def hfC (a b c d e f:Int):Int×Int×Int:=NH (jV a b c d e f) (jU a b c d e f)
def wM (r s:Int×Int×Int):Int×Int×Int:=if XE r||XE s then (0,21600000,0) else (dE (-(r.2.1+s.2.1)) (-(r.1+s.1)),cJ (-(r.2.1+s.2.1)) (-(r.1+s.1)),0)
def hfZ (a b c d e f:Int):Int×Int×Int:=wM (hfA a b c d e f) (hfC a b c d e f)
theorem turn_in {e f:Int} {t:Rat} (_h:aF e f=true) (ht:Hs 0 e f t):∃m:Int,Hs 0 (dE e f) (cJ e f) (t+21600000*(m:Rat)):=by
 unfold dE cJ;by_cases c:21600000≤f-e
 ·rw [if_pos c,if_pos c];exact Dr.all (by grind) t
 ·rw [if_neg c,if_neg c];refine ⟨-(e/21600000),?_⟩;have q:e%21600000=e+21600000*-(e/21600000):=by omega
  rw [q];unfold Hs at*;rw [adQ,adQ,adQ,abJ,acZ,show ((21600000:Int):Rat)=21600000 by rfl];generalize ((-(e/21600000):Int):Rat)=k at*;constructor<;>grind
theorem RE {a b c d e f:Int} (h:cS a b c d e f=true):aF (fU a b c d).1 (fU a b c d).2=true∧aF (fV a b c d).1 (fV a b c d).2=true∧aF (fW e f).1 (fW e f).2=true:=by
 obtain ⟨h1,h2,h3⟩:=eB h;have l1:=bV h1;have l2:=bV h2;have l3:=dG h3;have m0:=ajQ e (show (21600000:Int)≠0 by omega);have m1:=ahJ e (show (0:Int)<21600000 by omega);refine ⟨?_,?_,?_⟩
 ·unfold fU;exact bE (by dsimp only;omega) (by dsimp only;omega) (by dsimp only;omega)
 ·unfold fV;exact bE (by dsimp only;omega) (by dsimp only;omega) (by dsimp only;omega)
 ·unfold fW dE cJ;split
  ·exact bE (by dsimp only;omega) (by dsimp only;omega) (by dsimp only;omega)
  ·exact bE (by dsimp only;omega) (by dsimp only;omega) (by dsimp only;omega)
theorem ang_v {a b c d e f:Int} {x y t:Rat} (h:cS a b c d e f=true) (hx:Hs 0 a b x) (hy:Hs 0 c d y) (ht:Hs 0 e f t):
  ∃u v w:Rat,u+u=10800000-(x+y)∧v+v=x-y∧(co (w+w)=co t∧si (w+w)=si t)∧u+v=5400000-y∧Hs 0 (fU a b c d).1 (fU a b c d).2 u∧Hs 0 (fV a b c d).1 (fV a b c d).2 v∧Hs 0 (fW e f).1 (fW e f).2 w:=by
 obtain ⟨h1,h2,h3⟩:=eB h;obtain ⟨m,hm⟩:=turn_in h3 ht;refine ⟨(10800000-(x+y))/2,(x-y)/2,(t+21600000*(m:Rat))/2,by grind,by grind,?_,by grind,?_,?_,?_⟩
 ·rw [show (t+21600000*(m:Rat))/2+(t+21600000*(m:Rat))/2=t+21600000*(m:Rat) by grind];exact iF t m
 ·refine half_v (by grind) ?_;rw [show 2*((10800000-(x+y))/2)=10800000-(x+y) by grind];unfold Hs at*;rw [acZ,acZ,acZ,acZ,show ((10800000:Int):Rat)=10800000 by rfl];constructor<;>grind
 ·refine half_v (by grind) ?_;rw [show 2*((x-y)/2)=x-y by grind];unfold Hs at*;rw [acZ,acZ];constructor<;>grind
 ·refine half_v (by grind) ?_;rw [show 2*((t+21600000*(m:Rat))/2)=t+21600000*(m:Rat) by grind];exact hm
theorem one4 {a b c d e f:Int} (h:cS a b c d e f=true):fJ (jR a b c d e f)∧fJ (jT a b c d e f)∧fJ (jU a b c d e f)∧fJ (jV a b c d e f):=by
 obtain ⟨u,v,w⟩:=RE h;exact ⟨aR (aU u) (bG w),aR (aU v) (aU w),aR (bG u) (bG w),aR (bG v) (aU w)⟩
theorem four_v {a b c d e f:Int} {u v w:Rat} (h:cS a b c d e f=true) (hu:Hs 0 (fU a b c d).1 (fU a b c d).2 u) (hv:Hs 0 (fV a b c d).1 (fV a b c d).2 v) (hw:Hs 0 (fW e f).1 (fW e f).2 w):
  Vl (jR a b c d e f) (15*e1) (co u*si w)∧Vl (jT a b c d e f) (15*e1) (co v*co w)∧Vl (jU a b c d e f) (15*e1) (si u*si w)∧Vl (jV a b c d e f) (15*e1) (si v*co w):=by
 obtain ⟨vu,vv,vw⟩:=RE h;have e1b:=iR;have q:5*e1≤1/4:=by grind
 have q0:0≤5*e1:=by grind
 have su:=pR vu hu;have cu:=mG vu hu;have sv:=pR vv hv;have cv:=mG vv hv;have sw:=pR vw hw;have cw:=mG vw hw;refine ⟨?_,?_,?_,?_⟩
 ·exact (jK (aU vu) (bG vw) q0 q cu sw).wide (by grind)
 ·exact (jK (aU vv) (aU vw) q0 q cv cw).wide (by grind)
 ·exact (jK (bG vu) (bG vw) q0 q su sw).wide (by grind)
 ·exact (jK (bG vv) (aU vw) q0 q sv cw).wide (by grind)
def sF:Rat:=pw 570
def tF:Rat:=pw 1140
theorem lvF:1073741824*(90*e1+1073741824*(18*e0))≤tF∧0≤tF∧tF≤sF*sF∧0≤sF∧tF≤sF∧sF+1073741824*eT≤1/2^91∧2^64*(sF+1073741824*eT+2*e1)≤dS/4∧15*e1+1073741824*(2*eT)≤1/2^91∧2^64*(15*e1+1073741824*(2*eT)+2*e1)≤dS/8∧5*e0≤eT∧15*e1≤1/4∧dS≤1/8∧2^64*eT≤1/2^100∧0<eT∧16000000*(2^50*eT+e0)≤dS/8∧2^50*eT≤1/2^40:=by decide+kernel
theorem zT {r s:Int×Int×Int} (h:fJ r) (k:fJ s):jI r s=((bF r.1 r.2.1).1+(bF s.1 s.2.1).1,(bF r.1 r.2.1).2.1+(bF s.1 s.2.1).2.1,0)∧0≤(jI r s).1∧aG (jI r s).1 (jI r s).2.1=true∧(YU r s).2.2=0∧0≤(YU r s).1∧aG (YU r s).1 (YU r s).2.1=true:=by
 obtain ⟨_,p2,p3⟩:=iM h;obtain ⟨_,q2,q3⟩:=iM k;have a:=uX p2 q2;have e:jI r s=((bF r.1 r.2.1).1+(bF s.1 s.2.1).1,(bF r.1 r.2.1).2.1+(bF s.1 s.2.1).2.1,0):=a.1;have v:aG (jI r s).1 (jI r s).2.1=true:=by
  rw [e];exact a.2
 have z:0≤(jI r s).1:=by
  rw [e];dsimp only;omega
 have b:=fR v;have q:=sqt_ok z b.2.1 b.2.2;have e2:YU r s=(kV ((jI r s).1*1073741824),FG ((jI r s).2.1*1073741824),0):=q.1;refine ⟨e,z,v,?_,?_,?_⟩
 ·rw [e2]
 ·rw [e2];exact q.2.1
 ·rw [e2];exact dH (by dsimp only;omega) q.2.2.1 q.2.2.2
theorem len_v {r s:Int×Int×Int} {X Y ρ:Rat} (h:fJ r) (k:fJ s) (h':Vl r (15*e1) X) (k':Vl s (15*e1) Y) (hr:0≤ρ) (hu:Cl (18*e0) (ρ*ρ) (X*X+Y*Y)):Vl (YU r s) sF ρ:=by
 obtain ⟨w1,w2,w3,w4,w5,_,_,_,_,_,w11,_⟩:=lvF;have e1b:=iR;have a:=sqr_v h (by grind) w11 h';have b:=sqr_v k (by grind) w11 k';obtain ⟨_,p2,p3⟩:=iM h;obtain ⟨_,q2,q3⟩:=iM k;have s':=add_v p2 q2 a b;have l:=zT h k;have n:Vl (jI r s) (90*e1+1073741824*(18*e0)) (ρ*ρ):=Vl.near (Vl.wide s' (by grind)) hu;exact sqt_v l.2.1 n hr w1 w2 w3 w4 w5
theorem co_nn {κ:Rat} (h0:0≤κ) (h1:κ≤5400000):∃r:Rat,0≤r∧r≤2∧Cl e0 r (co κ)∧Cl (2*e0) (r*r) (co κ*co κ):=by
 have cl:=sJ (show -5400000≤κ by grind) h1;have eb:=eR;rcases (adJ:0≤co κ∨co κ≤0) with c | c
 ·exact ⟨co κ,c,cl.2,Cl.refl _ (by grind),Cl.refl _ (by grind)⟩
 ·refine ⟨0,by grind,by grind,?_,?_⟩
  ·unfold Cl;constructor<;>grind
  ·have m:=aM (a:=co κ) (b:=co κ) (A:=e0) (B:=1) (by grind) (by grind) (by grind) (by grind);unfold Cl;constructor<;>grind
theorem val4 {a b c d e f:Int} (h:cS a b c d e f=true):aG (sT a b c d e f).1 (sT a b c d e f).2.1=true∧aG (sS a b c d e f).1 (sS a b c d e f).2.1=true∧0≤(sT a b c d e f).1∧0≤(sS a b c d e f).1:=by
 obtain ⟨p,q,r,s⟩:=one4 h;have a:=zT r s;have b:=zT p q;exact ⟨a.2.2.2.2.2,b.2.2.2.2.2,a.2.2.2.2.1,b.2.2.2.2.1⟩
theorem hf_up {a b c d e f:Int} {x y t h' z':Rat} (h:cS a b c d e f=true) (ho:cM (sT a b c d e f).1 (sT a b c d e f).2.1 (sS a b c d e f).1 (sS a b c d e f).2.1=false) (hx:Hs 0 a b x) (hy:Hs 0 c d y) (ht:Hs 0 e f t) (s:sA x y t h' z'):
  Hs dS (hfH a b c d e f).1 (hfH a b c d e f).2.1 h':=by
 obtain ⟨u,v,w,gu,gv,gw,guv,hu,hv,hw⟩:=ang_v h hx hy ht;obtain ⟨h0,h1,_,_,k1,_,_⟩:=s;obtain ⟨G1,G2,_,_,_⟩:=gauss (κ:=(5400000-h')/2) gu gv gw guv (by grind) k1;obtain ⟨p,q,r,s⟩:=one4 h;obtain ⟨P,Q,R,S⟩:=four_v h hu hv hw;obtain ⟨w1,w2,w3,w4,w5,w6,w7,w8,w9,w10,w11,w12,_⟩:=lvF;have eb:=eR;have κ0:0≤(5400000-h')/2:=by grind
 have κ1:(5400000-h')/2≤5400000:=by grind
 have hh:h'=5400000-2*((5400000-h')/2):=by grind
 generalize (5400000-h')/2=κ at*;obtain ⟨ρ,r0,r1,rc,rr⟩:=co_nn κ0 κ1;have Y:=len_v r s R S (tP κ0 κ1) (G1.symm.wide (by grind));have X:=len_v p q P Q r0 (ρ:=ρ) ((Cl.trans rr G2.symm).wide (by grind));have V:=val4 h;have B:=CY (q:=κ) (ρ:=1) (e:=sF) (t:=eT) Y X (by rw [show 1*si κ=si κ by grind];exact Cl.refl _ (by grind)) (by rw [show 1*co κ=co κ by grind];exact rc.symm.wide (by grind)) (by grind) (by grind) w4 (by grind) w6;have F:=sE V.1 V.2.1 V.2.2.1 V.2.2.2 ho;obtain ⟨_,m,B⟩:=B;have fb:rY a b c d e f=aQ (sT a b c d e f).1 (sT a b c d e f).2.1 (sS a b c d e f).1 (sS a b c d e f).2.1:=rfl;have B':Hs (dS/4) (rY a b c d e f).1 (rY a b c d e f).2.1 (κ+21600000*(m:Rat)):=B.wide w7 (aeX _) (aeX _);rw [←fb] at F;unfold hfH;dsimp only;generalize rY a b c d e f=T at*;unfold Hs at B' ⊢;have f1:(0:Rat)≤(T.1:Rat):=cQ (a:=0) F.1;have f2:(T.2.1:Rat)≤5400000:=cQ (b:=5400000) F.2;have hm:m=0:=by
  rcases Int.lt_trichotomy m 0 with q | q | q
  ·have:=cQ (show m≤-1 by omega);rw [show ((-1:Int):Rat)=-1 by rfl] at this;grind
  ·exact q
  ·have:=cQ (show 1≤m by omega);rw [show ((1:Int):Rat)=1 by rfl] at this;grind
 subst hm;rw [show ((0:Int):Rat)=0 by rfl] at B';rw [acZ,acZ,abJ,abJ,show ((5400000:Int):Rat)=5400000 by rfl,show ((2:Int):Rat)=2 by rfl];constructor<;>grind
end
section
open SM TB TA
theorem dir_close {z γ ε:Rat} (he0:0≤ε) (he:ε≤1/2^50) (hc:Cl ε (co γ) (co z)) (hs:Cl ε (si γ) (si z)):∃m:Int,Cl (16000000*(6*ε+e0)) z (γ+21600000*(m:Rat)):=by
 have sb:=UI z γ;have un:=EM z;have ub:=cT;have e:=ee0;have eb:=eR;have bz:=bdq z;have m1:=aM (a:=co z) (b:=co γ-co z) (A:=11/10) (B:=ε) (by grind) (by grind) (by unfold Cl at hc;grind) (by unfold Cl at hc;grind);have m2:=aM (a:=si z) (b:=si γ-si z) (A:=11/10) (B:=ε) (by grind) (by grind) (by unfold Cl at hs;grind) (by unfold Cl at hs;grind);have m3:=aM (a:=si z) (b:=co γ-co z) (A:=11/10) (B:=ε) (by grind) (by grind) (by unfold Cl at hc;grind) (by unfold Cl at hc;grind);have m4:=aM (a:=co z) (b:=si γ-si z) (A:=11/10) (B:=ε) (by grind) (by grind) (by unfold Cl at hs;grind) (by unfold Cl at hs;grind);have C:1/2≤co (z-γ):=by
  have sb:=sb.1;clear m3 m4 hc hs bz;unfold Cl at sb un;rw [show co z*co γ+si z*si γ=co z*co z+si z*si z+(co z*(co γ-co z)+si z*(si γ-si z)) by grind] at sb;generalize co z*co z+si z*si z=n at*;generalize co z*(co γ-co z)=x1 at*;generalize si z*(si γ-si z)=x2 at*;grind
 have S:Cl (5*ε+e0) (si (z-γ)) 0:=by
  have sb:=sb.2;clear m1 m2 hc hs bz un;unfold Cl at sb ⊢;rw [show si z*co γ-co z*si γ=si z*(co γ-co z)-co z*(si γ-si z) by grind] at sb;generalize si z*(co γ-co z)=x1 at*;generalize co z*(si γ-si z)=x2 at*;constructor<;>grind
 have rd:=AC (z-γ);have tq:=iF (uU (z-γ)) (tm (z-γ));have hz:uU (z-γ)+21600000*(tm (z-γ):Rat)=z-γ:=by unfold uU;grind
 rw [hz] at tq;rw [tq.1] at C;rw [tq.2] at S;clear sb un m1 m2 m3 m4 tq bz hc hs;refine ⟨tm (z-γ),?_⟩;generalize ((tm (z-γ):Int):Rat)=k at*;generalize uU (z-γ)=D at*;have pc:=pos_co (p:=D) (ρ:=1) rd.1 (by grind) (by grind) (by grind) (by grind);unfold Cl at S;have t1:5*ε+e0≤1/2^40:=by grind
 unfold Cl;rcases (adJ:0≤D∨D≤0) with g | g
 ·have:=CH (z:=D) (t:=5*ε+e0) g (by grind) t1 (by grind);constructor<;>grind
 ·have n:=AJ (q:=D) (by grind) (by grind);have:=CH (z:=-D) (t:=5*ε+e0) (by grind) (by grind) t1 (by rw [n.1];grind);constructor<;>grind
theorem Dr_move {d g:Rat} {lo hi:Int} {γ z:Rat} {m:Int} (h:Dr d lo hi γ) (k:Cl g z (γ+21600000*(m:Rat))):Dr (d+g) lo hi z:=by
 obtain ⟨n,h⟩:=h;refine ⟨n-m,?_⟩;unfold Hs at*;unfold Cl at k;rw [acZ];generalize (n:Rat)=n' at*;generalize (m:Rat)=m' at*;constructor<;>grind
theorem VV {r s:Int×Int×Int} {X Y:Rat} (h:Vl r (15*e1) Y) (k:Vl s (15*e1) X) (hX:-1/2^31≤X∧X≤1/2^31) (hY:-1/2^31≤Y∧Y≤1/2^31):NH r s=(0,21600000,0):=by
 have e1b:=iR;obtain ⟨_,v1,a1,a2⟩:=h;obtain ⟨_,v2,b1,b2⟩:=k;have z:((0:Int):Rat)=0:=rfl;have c1:r.1≤0:=LO (e:=3/4) (by rw [z];grind) (by grind);have c2:0≤r.2.1:=LO (e:=3/4) (by rw [z];grind) (by grind);have c3:s.1≤0:=LO (e:=3/4) (by rw [z];grind) (by grind);have c4:0≤s.2.1:=LO (e:=3/4) (by rw [z];grind) (by grind);have o:cM r.1 r.2.1 s.1 s.2.1=true:=decide_eq_true (by omega);unfold NH aQ;rw [v1,v2,o];rfl
theorem PQ {r s:Int×Int×Int} (h:r=(0,21600000,0)∨s=(0,21600000,0)):wM r s=(0,21600000,0):=by
 unfold wM;have f:XE ((0:Int),(21600000:Int),(0:Int))=true:=rfl;rcases h with rfl | rfl
 ·rw [f];rfl
 ·rw [f];simp
theorem oppS_dir {r s:Int×Int×Int} (h:qT r) (k:qT s):qT (wM r s)∧(((wM r s).1=0∧(wM r s).2.1=21600000)∨(wM r s).2.1<(wM r s).1+21600000):=by
 obtain ⟨h1,h2,h3,h4,h5⟩:=h;obtain ⟨k1,k2,k3,k4,k5⟩:=k;unfold wM;split
 ·exact ⟨⟨by dsimp only;omega,by dsimp only;omega,by dsimp only;omega,by dsimp only;omega,rfl⟩,.inl ⟨rfl,rfl⟩⟩
 ·have m0:=ajQ (-(r.2.1+s.2.1)) (show (21600000:Int)≠0 by omega);have m1:=ahJ (-(r.2.1+s.2.1)) (show (0:Int)<21600000 by omega);unfold dE cJ;split
  ·exact ⟨⟨by dsimp only;omega,by dsimp only;omega,by dsimp only;omega,by dsimp only;omega,rfl⟩,.inl ⟨rfl,rfl⟩⟩
  ·exact ⟨⟨by dsimp only;omega,by dsimp only;omega,by dsimp only;omega,by dsimp only;omega,rfl⟩,.inr (by dsimp only;omega)⟩
theorem oppS_v {r s:Int×Int×Int} {d α β:Rat} (d0:0≤d) (h:Dr d r.1 r.2.1 α) (k:Dr d s.1 s.2.1 β):Dr (2*d) (wM r s).1 (wM r s).2.1 (-(α+β)):=by
 unfold wM;split
 ·exact Dr.all (by grind) _
 ·obtain ⟨m,h⟩:=h;obtain ⟨n,k⟩:=k;have a:=(h.add k).neg;dsimp only;unfold dE cJ;split
  ·exact Dr.all (by grind) _
  ·refine ⟨-(m+n)-(-(r.2.1+s.2.1))/21600000,?_⟩;have q:-(r.2.1+s.2.1)%21600000=-(r.2.1+s.2.1)+21600000*-(-(r.2.1+s.2.1)/21600000):=by omega
   rw [q];have q2:-(r.2.1+s.2.1)+21600000*-(-(r.2.1+s.2.1)/21600000)+(-(r.1+s.1)- -(r.2.1+s.2.1))=-(r.1+s.1)+21600000*-(-(r.2.1+s.2.1)/21600000):=by omega
   rw [q2,show -(m+n)- -(r.2.1+s.2.1)/21600000=-(m+n)+-(-(r.2.1+s.2.1)/21600000) by omega];generalize -(-(r.2.1+s.2.1)/21600000)=j at*;generalize -(r.2.1+s.2.1)=p at*;generalize -(r.1+s.1)=p' at*;unfold Hs at*;rw [adQ,adQ,adQ,Rat.intCast_neg,adQ,abJ,show ((21600000:Int):Rat)=21600000 by rfl];generalize (m:Rat)=m' at*;generalize (n:Rat)=n' at*;generalize (j:Rat)=j' at*;constructor<;>grind
theorem arm {r s:Int×Int×Int} {X Y ρ:Rat} (h0:-e0≤ρ) (h1:ρ≤2) (h:Vl r (15*e1) Y) (k:Vl s (15*e1) X) (hu:Cl (40*e0) (X*X+Y*Y) (ρ*ρ)):
  qT (NH r s)∧∃α:Rat,Cl eT (ρ*co α) X∧Cl eT (ρ*si α) Y∧Dr (dS/8) (NH r s).1 (NH r s).2.1 α:=by
 obtain ⟨w1,w2,w3,w4,w5,w6,w7,w8,w9,w10,w11,w12,w13,w14,w15⟩:=lvF;have e1b:=iR;obtain ⟨α,_,_,a1,a2⟩:=aim h0 h1 hu;obtain ⟨ρ',p0,p1,b1,b2⟩:=IH h0 h1 a1 a2;have B:=CY (q:=α) (ρ:=ρ') (e:=15*e1) (t:=2*eT) h k b2 b1 p0 (by grind) (by grind) (by grind) w8;exact ⟨B.1,α,a1,a2,B.2.wide w9⟩
theorem turn_arm {c s α β X Y P Q:Rat} (hc:-2≤c∧c≤2) (hs:-2≤s∧s≤2) (a1:Cl eT (c*co α) X) (a2:Cl eT (c*si α) Y) (b1:Cl eT (s*co β) P) (b2:Cl eT (s*si β) Q):
  Cl (30*eT) (c*s*co (-(α+β))) (X*P-Y*Q)∧Cl (30*eT) (c*s*si (-(α+β))) (-(X*Q+Y*P)):=by
 have ab:=addq α β;have ng:=BU (α+β);have eb:=eR;have ub:=cT;have e:=ee0;have et:5*e0≤eT:=lvF.2.2.2.2.2.2.2.2.2.1;have et1:eT≤1/2^100:=by
  have:=lvF.2.2.2.2.2.2.2.2.2.2.2.2.1;have:=lvF.2.2.2.2.2.2.2.2.2.2.2.2.2.1;grind
 have bα:=bdq α;have bβ:=bdq β;have A:-9/4≤c*co α∧c*co α≤9/4:=by
  have:=aM (a:=c) (b:=co α) (A:=2) (B:=11/10) hc.1 hc.2 (by grind) (by grind);constructor<;>grind
 have B:-9/4≤c*si α∧c*si α≤9/4:=by
  have:=aM (a:=c) (b:=si α) (A:=2) (B:=11/10) hc.1 hc.2 (by grind) (by grind);constructor<;>grind
 have C:-9/4≤s*co β∧s*co β≤9/4:=by
  have:=aM (a:=s) (b:=co β) (A:=2) (B:=11/10) hs.1 hs.2 (by grind) (by grind);constructor<;>grind
 have D:-9/4≤s*si β∧s*si β≤9/4:=by
  have:=aM (a:=s) (b:=si β) (A:=2) (B:=11/10) hs.1 hs.2 (by grind) (by grind);constructor<;>grind
 have bd:∀{u v:Rat},Cl eT u v→-9/4≤u∧u≤9/4→-3≤v∧v≤3:=fun h k=>by
  unfold Cl at h;constructor<;>grind
 have p1:=Cl.mul 3 3 a1 b1 (by constructor<;>grind) (bd a1 A);have p2:=Cl.mul 3 3 a2 b2 (by constructor<;>grind) (bd a2 B);have p3:=Cl.mul 3 3 a1 b2 (by constructor<;>grind) (bd a1 A);have p4:=Cl.mul 3 3 a2 b1 (by constructor<;>grind) (bd a2 B);have cs:=aM (a:=c) (b:=s) (A:=2) (B:=2) hc.1 hc.2 hs.1 hs.2;have k1:Cl (10000*u0) (co (-(α+β))) (co α*co β-si α*si β):=by
  have:=Cl.trans ng.1 ab.1;exact this.wide (by grind)
 have k2:Cl (10000*u0) (si (-(α+β))) (-(si α*co β+co α*si β)):=by
  have:=Cl.trans ng.2 ab.2.neg;exact this.wide (by grind)
 have l1:=aM (a:=c*s) (b:=co (-(α+β))-(co α*co β-si α*si β)) (A:=4) (B:=10000*u0) (by grind) (by grind) (by unfold Cl at k1;grind) (by unfold Cl at k1;grind);have l2:=aM (a:=c*s) (b:=si (-(α+β))- -(si α*co β+co α*si β)) (A:=4) (B:=10000*u0) (by grind) (by grind) (by unfold Cl at k2;grind) (by unfold Cl at k2;grind);have f1:c*co α*(s*co β)-c*si α*(s*si β)=c*s*(co α*co β-si α*si β):=by grind
 have f2:c*co α*(s*si β)+c*si α*(s*co β)=c*s*(si α*co β+co α*si β):=by grind
 rw [show c*s*(co (-(α+β))-(co α*co β-si α*si β))=c*s*co (-(α+β))-(c*co α*(s*co β)-c*si α*(s*si β)) by grind] at l1;rw [show c*s*(si (-(α+β))- -(si α*co β+co α*si β))=c*s*si (-(α+β))+(c*co α*(s*si β)+c*si α*(s*co β)) by grind] at l2;clear f1 f2 k1 k2 A B C D bα bβ ab ng bd cs a1 a2 b1 b2;unfold Cl at*;generalize c*s*co (-(α+β))=L1 at*;generalize c*s*si (-(α+β))=L2 at*;generalize c*co α*(s*co β)=x1 at*;generalize c*si α*(s*si β)=x2 at*;generalize c*co α*(s*si β)=x3 at*;generalize c*si α*(s*co β)=x4 at*;generalize X*P=y1 at*;generalize Y*Q=y2 at*;generalize X*Q=y3 at*;generalize Y*P=y4 at*;refine ⟨⟨?_,?_⟩,?_,?_⟩<;>grind
end
section
open SM TB TA
theorem OV {ρ a b e f r:Rat} (hr:r≤ρ) (hr0:0<r) (he:e<r*f) (hf:0≤f) (h:Cl e (ρ*a) (ρ*b)):Cl f a b:=by
 unfold Cl at*;have half:∀{u v:Rat},ρ*u-ρ*v≤e→u-v≤f:=fun {u v} k=>by
  rcases (adJ:u-v≤f∨f≤u-v) with g | g
  ·exact g
  ·exfalso;have m:=aaZ (show 0≤ρ-r by grind) (show 0≤u-v by grind);have m2:=aaZ (show 0≤r by grind) (show 0≤u-v-f by grind);grind
 have p:=half h.2;have q:=half (u:=b) (v:=a) (by grind);constructor<;>grind
theorem big_one {c s:Rat} (_hc0:-e0≤c) (hs0:0≤s) (hn:Cl e0 (c*c+s*s) 1) (h1:1/2^32≤c) (h2:1/2^32≤s):1/2^32≤2*(c*s):=by
 have eb:=eR;unfold Cl at hn;rcases (adJ:c≤1/2∨1/2≤c) with g | g
 ·rcases (adJ:s≤1/2∨1/2≤s) with k | k
  ·exfalso;have m1:=aaZ (show 0≤1/2-c by grind) (show 0≤1/2+c by grind);have m2:=aaZ (show 0≤1/2-s by grind) (show 0≤1/2+s by grind);grind
  ·have:=aaZ (show 0≤c by grind) (show 0≤2*s-1 by grind);grind
 ·have:=aaZ hs0 (show 0≤2*c-1 by grind);grind
theorem tiny {c p q:Rat} (h0:-e0≤c) (h1:c≤1/2^32) (h:Cl (16*e0) (p*p+q*q) (c*c)):(-1/2^31≤p∧p≤1/2^31)∧(-1/2^31≤q∧q≤1/2^31):=by
 have eb:=eR;have m:=aaZ (show 0≤1/2^32-c by grind) (show 0≤1/2^32+c by grind);have p2:=lK p;have q2:=lK q;unfold Cl at h;have a:=kH (z:=p) (f:=1/2^31) (e:=1/2^62) (by grind) (by grind) (by grind);have b:=kH (z:=q) (f:=1/2^31) (e:=1/2^62) (by grind) (by grind) (by grind);constructor<;>constructor<;>grind
theorem hf_az {a b c d e f:Int} {x y t h' z':Rat} (h:cS a b c d e f=true) (hx:Hs 0 a b x) (hy:Hs 0 c d y) (ht:Hs 0 e f t) (s:sA x y t h' z'):
  Dr dS (hfZ a b c d e f).1 (hfZ a b c d e f).2.1 z':=by
 obtain ⟨u,v,w,gu,gv,gw,guv,hu,hv,hw⟩:=ang_v h hx hy ht;obtain ⟨h0,h1,_,_,k1,k2,k3⟩:=s;obtain ⟨G1,G2,G3,G4,G5⟩:=gauss (κ:=(5400000-h')/2) gu gv gw guv (by grind) k1;obtain ⟨P,Q,R,S⟩:=four_v h hu hv hw;have eb:=eR;have ub:=cT;have ee:=ee0;have d0:0≤dS:=by decide+kernel
 have κ0:0≤(5400000-h')/2:=by grind
 have κ1:(5400000-h')/2≤5400000:=by grind
 generalize (5400000-h')/2=κ at*;have cl:=sJ (show -5400000≤κ by grind) κ1;have s0:=tP κ0 κ1;have bs:=bdq κ;have un:=EM κ;have eZ:hfZ a b c d e f=wM (hfA a b c d e f) (hfC a b c d e f):=rfl;have eA:hfA a b c d e f=NH (jT a b c d e f) (jR a b c d e f):=rfl;have eC:hfC a b c d e f=NH (jV a b c d e f) (jU a b c d e f):=rfl;rcases (adJ:co κ≤1/2^32∨1/2^32≤co κ) with g1 | g1
 ·obtain ⟨tp,tq⟩:=tiny cl.1 g1 G2;rw [eZ,PQ (.inl (eA.trans (VV Q P tp tq)))];exact Dr.all d0 _
 rcases (adJ:si κ≤1/2^32∨1/2^32≤si κ) with g2 | g2
 ·obtain ⟨tr,ts⟩:=tiny (show -e0≤si κ by grind) g2 G1;rw [eZ,PQ (.inr (eC.trans (VV S R tr ts)))];exact Dr.all d0 _
 obtain ⟨DA,α,a1,a2,A⟩:=arm cl.1 cl.2 Q P (G2.wide (by grind));obtain ⟨DC,β,b1,b2,C⟩:=arm (show -e0≤si κ by grind) (show si κ≤2 by grind) S R (G1.wide (by grind));have T:=turn_arm (by constructor<;>grind) (by constructor<;>grind) a1 a2 b1 b2;have big:=big_one cl.1 s0 (Cl.wide un (by grind)) g1 g2;have O:=oppS_v (show 0≤dS/8 by grind) A C;rw [eZ,eA,eC];clear gu gv gw guv hu hv hw P Q R S A C a1 a2 b1 b2 DA DC G1 G2 un eZ eA eC;obtain ⟨w1,w2,w3,w4,w5,w6,w7,w8,w9,w10,w11,w12,w13,w14,w15,w16⟩:=lvF;have bg:=bdq (-(α+β));have M1:=aM (a:=2*(co κ*si κ)-co h') (b:=co (-(α+β))) (A:=16*e0) (B:=2) (by unfold Cl at G5;grind) (by unfold Cl at G5;grind) (by grind) (by grind);have M2:=aM (a:=2*(co κ*si κ)-co h') (b:=si (-(α+β))) (A:=16*e0) (B:=2) (by unfold Cl at G5;grind) (by unfold Cl at G5;grind) (by grind) (by grind);have lg:1/2^33≤co h':=by
  unfold Cl at G5;grind
 have E1:Cl (100*eT) (co h'*co (-(α+β))) (co h'*co z'):=by
  have T:=T.1;rw [show (2*(co κ*si κ)-co h')*co (-(α+β))=2*(co κ*si κ*co (-(α+β)))-co h'*co (-(α+β)) by grind] at M1;clear M2 bg bs big lg g1 g2 G5 G4 k3 O;unfold Cl at*;generalize co κ*si κ*co (-(α+β))=L at*;generalize co h'*co (-(α+β))=L2 at*;generalize co h'*co z'=L3 at*;generalize yC x y t=N at*;constructor<;>grind
 have E2:Cl (100*eT) (co h'*si (-(α+β))) (co h'*si z'):=by
  have T:=T.2;rw [show (2*(co κ*si κ)-co h')*si (-(α+β))=2*(co κ*si κ*si (-(α+β)))-co h'*si (-(α+β)) by grind] at M2;clear M1 bg bs big lg g1 g2 G5 G3 k2 O E1;unfold Cl at*;generalize co κ*si κ*si (-(α+β))=L at*;generalize co h'*si (-(α+β))=L2 at*;generalize co h'*si z'=L3 at*;generalize IA y t=N at*;constructor<;>grind
 have F1:=OV (r:=1/2^33) (f:=2^40*eT) lg (by grind) (by grind) (by grind) E1;have F2:=OV (r:=1/2^33) (f:=2^40*eT) lg (by grind) (by grind) (by grind) E2;obtain ⟨m,cl2⟩:=dir_close (z:=z') (γ:=-(α+β)) (ε:=2^40*eT) (by grind) (by grind) F1 F2;exact (Dr_move O cl2).wide (by grind)
theorem half_hold {a b c d e f:Int} (h:cS a b c d e f=true) (ho:cM (sT a b c d e f).1 (sT a b c d e f).2.1 (sS a b c d e f).1 (sS a b c d e f).2.1=false):Hold a b c d e f (hfH a b c d e f) (hfZ a b c d e f):=by
 have V:=val4 h;have F:=sE V.1 V.2.1 V.2.2.1 V.2.2.2 ho;have D:=jJ V.1 V.2.1;obtain ⟨p,q,r,s⟩:=one4 h;have dA:qT (hfA a b c d e f):=jJ q.val p.val;have dC:qT (hfC a b c d e f):=jJ s.val r.val;have o:=oppS_dir dA dC;refine ⟨?_,o.1,o.2,fun x y t hx hy ht h' z' s'=>hf_up h ho hx hy ht s',fun x y t hx hy ht h' z' s'=>hf_az h hx hy ht s'⟩;have fb:rY a b c d e f=aQ (sT a b c d e f).1 (sT a b c d e f).2.1 (sS a b c d e f).1 (sS a b c d e f).2.1:=rfl;rw [←fb] at F D;obtain ⟨d1,d2,d3,d4,d5⟩:=D;unfold hfH xZ;dsimp only;exact ⟨by omega,by omega,by omega,rfl⟩
end
section
open SM TB TA
end
section
open SM TB TA
end
section
open SM TB TA
end
section
open SM TB TA
open Ev (lt bJ)
theorem aP {α β:Type} {x y:α} {f:α→β} {r:β} (h:x=y) (k:f y=r):lt x f=r:=by
 subst h;exact k
theorem k0 {e:Int} (h:e=0):bJ 0 e=0:=by
 rw [h];rfl
theorem aadd_ok {a b c d:Int} (h1:-100000000≤a) (h2:a≤b) (h3:b≤100000000) (h4:-100000000≤c) (h5:c≤d) (h6:d≤100000000):
  oY a b c d=(a+c,b+d,0):=by
 unfold oY;rw [if_pos ⟨bE (by omega) h2 (by omega),bE (by omega) h5 (by omega)⟩];unfold uP pZ;rw [if_pos ⟨decide_eq_true (by omega),decide_eq_true (by omega)⟩]
theorem UL {a b n d:Int} (h1:-100000000≤a) (h2:a≤b) (h3:b≤100000000) (h:(n=1∧(d=2∨d=4))∨(d=1∧(n=2∨n=4))):EJ a b n d=((a*n)/d,-(-(b*n)/d),0):=by
 unfold EJ;rw [if_pos (bE (by omega) h2 (by omega)),if_pos (by omega)];have l:a*n≤b*n:=Int.mul_le_mul_of_nonneg_right h2 (by omega);have e1:mn (a*n) (b*n)=a*n:=by unfold mn;split<;>omega
 have e2:mx (a*n) (b*n)=b*n:=by unfold mx;split<;>omega
 rw [e1,e2];unfold uP pZ;have q:-1000000000≤a*n/d∧a*n/d≤1000000000∧-1000000000≤-(b*n)/d∧-(b*n)/d≤1000000000:=by
  rcases h with ⟨rfl,rfl | rfl⟩ | ⟨rfl,rfl | rfl⟩<;>omega
 rw [if_pos ⟨decide_eq_true (by omega),decide_eq_true (by omega)⟩]
theorem UO {x y:Int} (h1:-100000000≤x) (h2:x≤100000000) (h3:-100000000≤y) (h4:y≤100000000):NF x y=decide (21600000≤y-x):=by
 unfold NF;rw [aX (by omega)]
theorem hsl_no {a b c d e f:Int} (h:cS a b c d e f=false):sU a b c d e f=(0,0,0,0,1):=by
 unfold sU XM;rw [h];rfl
theorem DK {r:Int×Int×Int} (h:qT r):-100000000≤r.1∧r.1≤100000000∧-100000000≤r.2.1∧r.2.1≤100000000∧r.1≤r.2.1:=by
 obtain ⟨h1,h2,h3,h4,_⟩:=h;omega
theorem hsl_ok {a b c d e f:Int} (h:cS a b c d e f=true):sU a b c d e f=if cM (sT a b c d e f).1 (sT a b c d e f).2.1 (sS a b c d e f).1 (sS a b c d e f).2.1=true then (0,0,0,0,24) else ((hfH a b c d e f).1,(hfH a b c d e f).2.1,(hfZ a b c d e f).1,(hfZ a b c d e f).2.1,0):=by
 obtain ⟨h1,h2,h3⟩:=eB h;have l1:=bV h1;have l2:=bV h2;obtain ⟨vu,vv,vw⟩:=RE h;obtain ⟨p,q,r,s⟩:=one4 h;have L1:=zT r s;have L2:=zT p q;have S1:=iM r;have S2:=iM s;have S3:=iM p;have S4:=iM q;have V:=val4 h;have B:=jJ V.1 V.2.1;have DA:=jJ q.val p.val;have DC:=jJ s.val r.val;have tu:aF (dE e f) (cJ e f)=true∧0≤dE e f∧dE e f≤cJ e f∧cJ e f≤43200000:=by
  have m0:=ajQ e (show (21600000:Int)≠0 by omega);have m1:=ahJ e (show (0:Int)<21600000 by omega);have v3:=dG h3;unfold dE cJ;split
  ·exact ⟨bE (by omega) (by omega) (by omega),by omega,by omega,by omega⟩
  ·exact ⟨bE (by omega) (by omega) (by omega),by omega,by omega,by omega⟩
 have E1:jW 5400000 5400000 c d=(5400000-d,5400000-c,0):=sD (by omega) (by omega) (by omega) (by omega) (by omega) (by omega);have E2:jW 5400000 5400000 a b=(5400000-b,5400000-a,0):=sD (by omega) (by omega) (by omega) (by omega) (by omega) (by omega);have E3:oY (5400000-d) (5400000-c) (5400000-b) (5400000-a)=(10800000-b-d,10800000-a-c,0):=by
  rw [aadd_ok (by omega) (by omega) (by omega) (by omega) (by omega) (by omega),show 5400000-d+(5400000-b)=10800000-b-d by omega,show 5400000-c+(5400000-a)=10800000-a-c by omega]
 have E4:EJ (10800000-b-d) (10800000-a-c) 1 2=((fU a b c d).1,(fU a b c d).2,0):=by
  rw [UL (by omega) (by omega) (by omega) (.inl ⟨rfl,.inl rfl⟩),atJ,atJ];rfl
 have E5:jW (5400000-d) (5400000-c) (5400000-b) (5400000-a)=(a-d,b-c,0):=by
  rw [sD (by omega) (by omega) (by omega) (by omega) (by omega) (by omega),show 5400000-d-(5400000-a)=a-d by omega,show 5400000-c-(5400000-b)=b-c by omega]
 have E6:EJ (a-d) (b-c) 1 2=((fV a b c d).1,(fV a b c d).2,0):=by
  rw [UL (by omega) (by omega) (by omega) (.inl ⟨rfl,.inl rfl⟩),atJ,atJ];rfl
 have E7:cD e f=(dE e f,cJ e f,0):=by
  unfold cD;rw [if_pos h3]
 have E8:EJ (dE e f) (cJ e f) 1 2=((fW e f).1,(fW e f).2,0):=by
  rw [UL (by omega) (by omega) (by omega) (.inl ⟨rfl,.inl rfl⟩),atJ,atJ];rfl
 unfold sU XM;rw [h,Bool.not_true,cond_false];refine aP (show oI 5400000 5400000 c d=(5400000-d,5400000-c) from by unfold oI;rw [E1]) ?_
 (try dsimp only)
 refine aP (show yS 0 5400000 5400000 c d=0 from k0 (by rw [E1])) ?_
 (try dsimp only)
 refine aP (show oI 5400000 5400000 a b=(5400000-b,5400000-a) from by unfold oI;rw [E2]) ?_
 (try dsimp only)
 refine aP (show yS 0 5400000 5400000 a b=0 from k0 (by rw [E2])) ?_
 (try dsimp only)
 refine aP (show qR (5400000-d) (5400000-c) (5400000-b) (5400000-a)=(10800000-b-d,10800000-a-c) from by unfold qR;rw [E3]) ?_
 (try dsimp only)
 refine aP (show EO 0 (5400000-d) (5400000-c) (5400000-b) (5400000-a)=0 from k0 (by rw [E3])) ?_
 (try dsimp only)
 refine aP (show lD (10800000-b-d) (10800000-a-c) 1 2=((fU a b c d).1,(fU a b c d).2) from by unfold lD;rw [E4]) ?_
 (try dsimp only)
 refine aP (show qQ 0 (10800000-b-d) (10800000-a-c) 1 2=0 from k0 (by rw [E4])) ?_
 (try dsimp only)
 refine aP (show oI (5400000-d) (5400000-c) (5400000-b) (5400000-a)=(a-d,b-c) from by unfold oI;rw [E5]) ?_
 (try dsimp only)
 refine aP (show yS 0 (5400000-d) (5400000-c) (5400000-b) (5400000-a)=0 from k0 (by rw [E5])) ?_
 (try dsimp only)
 refine aP (show lD (a-d) (b-c) 1 2=((fV a b c d).1,(fV a b c d).2) from by unfold lD;rw [E6]) ?_
 (try dsimp only)
 refine aP (show qQ 0 (a-d) (b-c) 1 2=0 from k0 (by rw [E6])) ?_
 (try dsimp only)
 refine aP E7 ?_
 (try dsimp only)
 refine aP (show EN (dE e f) (cJ e f) 0=(dE e f,cJ e f) from rfl) ?_
 (try dsimp only)
 refine aP (show GT 0 (dE e f) (cJ e f) 0=0 from k0 rfl) ?_
 (try dsimp only)
 refine aP (show lD (dE e f) (cJ e f) 1 2=((fW e f).1,(fW e f).2) from by unfold lD;rw [E8]) ?_
 (try dsimp only)
 refine aP (show qQ 0 (dE e f) (cJ e f) 1 2=0 from k0 (by rw [E8])) ?_
 (try dsimp only)
 refine aP (show uI (fU a b c d).1 (fU a b c d).2=((aN (fU a b c d).1 (fU a b c d).2).1,(aN (fU a b c d).1 (fU a b c d).2).2.1) from rfl) ?_
 (try dsimp only)
 refine aP (show yQ 0 (fU a b c d).1 (fU a b c d).2=0 from k0 (aU vu).2.2.2) ?_
 (try dsimp only)
 refine aP (show uK (fW e f).1 (fW e f).2=((aW (fW e f).1 (fW e f).2).1,(aW (fW e f).1 (fW e f).2).2.1) from rfl) ?_
 (try dsimp only)
 refine aP (show yU 0 (fW e f).1 (fW e f).2=0 from k0 (bG vw).2.2.2) ?_
 (try dsimp only)
 refine aP (show uJ (aN (fU a b c d).1 (fU a b c d).2).1 (aN (fU a b c d).1 (fU a b c d).2).2.1 (aW (fW e f).1 (fW e f).2).1 (aW (fW e f).1 (fW e f).2).2.1=((jR a b c d e f).1,(jR a b c d e f).2.1) from rfl) ?_
 (try dsimp only)
 refine aP (show yT 0 (aN (fU a b c d).1 (fU a b c d).2).1 (aN (fU a b c d).1 (fU a b c d).2).2.1 (aW (fW e f).1 (fW e f).2).1 (aW (fW e f).1 (fW e f).2).2.1=0 from k0 p.2.2.2) ?_
 (try dsimp only)
 refine aP (show uI (fV a b c d).1 (fV a b c d).2=((aN (fV a b c d).1 (fV a b c d).2).1,(aN (fV a b c d).1 (fV a b c d).2).2.1) from rfl) ?_
 (try dsimp only)
 refine aP (show yQ 0 (fV a b c d).1 (fV a b c d).2=0 from k0 (aU vv).2.2.2) ?_
 (try dsimp only)
 refine aP (show uI (fW e f).1 (fW e f).2=((aN (fW e f).1 (fW e f).2).1,(aN (fW e f).1 (fW e f).2).2.1) from rfl) ?_
 (try dsimp only)
 refine aP (show yQ 0 (fW e f).1 (fW e f).2=0 from k0 (aU vw).2.2.2) ?_
 (try dsimp only)
 refine aP (show uJ (aN (fV a b c d).1 (fV a b c d).2).1 (aN (fV a b c d).1 (fV a b c d).2).2.1 (aN (fW e f).1 (fW e f).2).1 (aN (fW e f).1 (fW e f).2).2.1=((jT a b c d e f).1,(jT a b c d e f).2.1) from rfl) ?_
 (try dsimp only)
 refine aP (show yT 0 (aN (fV a b c d).1 (fV a b c d).2).1 (aN (fV a b c d).1 (fV a b c d).2).2.1 (aN (fW e f).1 (fW e f).2).1 (aN (fW e f).1 (fW e f).2).2.1=0 from k0 q.2.2.2) ?_
 (try dsimp only)
 refine aP (show uK (fU a b c d).1 (fU a b c d).2=((aW (fU a b c d).1 (fU a b c d).2).1,(aW (fU a b c d).1 (fU a b c d).2).2.1) from rfl) ?_
 (try dsimp only)
 refine aP (show yU 0 (fU a b c d).1 (fU a b c d).2=0 from k0 (bG vu).2.2.2) ?_
 (try dsimp only)
 refine aP (show uK (fW e f).1 (fW e f).2=((aW (fW e f).1 (fW e f).2).1,(aW (fW e f).1 (fW e f).2).2.1) from rfl) ?_
 (try dsimp only)
 refine aP (show yU 0 (fW e f).1 (fW e f).2=0 from k0 (bG vw).2.2.2) ?_
 (try dsimp only)
 refine aP (show uJ (aW (fU a b c d).1 (fU a b c d).2).1 (aW (fU a b c d).1 (fU a b c d).2).2.1 (aW (fW e f).1 (fW e f).2).1 (aW (fW e f).1 (fW e f).2).2.1=((jU a b c d e f).1,(jU a b c d e f).2.1) from rfl) ?_
 (try dsimp only)
 refine aP (show yT 0 (aW (fU a b c d).1 (fU a b c d).2).1 (aW (fU a b c d).1 (fU a b c d).2).2.1 (aW (fW e f).1 (fW e f).2).1 (aW (fW e f).1 (fW e f).2).2.1=0 from k0 r.2.2.2) ?_
 (try dsimp only)
 refine aP (show uK (fV a b c d).1 (fV a b c d).2=((aW (fV a b c d).1 (fV a b c d).2).1,(aW (fV a b c d).1 (fV a b c d).2).2.1) from rfl) ?_
 (try dsimp only)
 refine aP (show yU 0 (fV a b c d).1 (fV a b c d).2=0 from k0 (bG vv).2.2.2) ?_
 (try dsimp only)
 refine aP (show uI (fW e f).1 (fW e f).2=((aN (fW e f).1 (fW e f).2).1,(aN (fW e f).1 (fW e f).2).2.1) from rfl) ?_
 (try dsimp only)
 refine aP (show yQ 0 (fW e f).1 (fW e f).2=0 from k0 (aU vw).2.2.2) ?_
 (try dsimp only)
 refine aP (show uJ (aW (fV a b c d).1 (fV a b c d).2).1 (aW (fV a b c d).1 (fV a b c d).2).2.1 (aN (fW e f).1 (fW e f).2).1 (aN (fW e f).1 (fW e f).2).2.1=((jV a b c d e f).1,(jV a b c d e f).2.1) from rfl) ?_
 (try dsimp only)
 refine aP (show yT 0 (aW (fV a b c d).1 (fV a b c d).2).1 (aW (fV a b c d).1 (fV a b c d).2).2.1 (aN (fW e f).1 (fW e f).2).1 (aN (fW e f).1 (fW e f).2).2.1=0 from k0 s.2.2.2) ?_
 (try dsimp only)
 refine aP (show GB (jU a b c d e f).1 (jU a b c d e f).2.1 (jV a b c d e f).1 (jV a b c d e f).2.1=((sT a b c d e f).1,(sT a b c d e f).2.1) from rfl) ?_
 (try dsimp only)
 refine aP (show GA 0 (jU a b c d e f).1 (jU a b c d e f).2.1 (jV a b c d e f).1 (jV a b c d e f).2.1=0 from by
  unfold GA;rw [S1.2.1.2.2.2,S2.2.1.2.2.2];have e1:(fS (bF (jU a b c d e f).1 (jU a b c d e f).2.1).1 (bF (jU a b c d e f).1 (jU a b c d e f).2.1).2.1 (bF (jV a b c d e f).1 (jV a b c d e f).2.1).1 (bF (jV a b c d e f).1 (jV a b c d e f).2.1).2.1).2.2=0:=by
   have:=L1.1;unfold jI at this;rw [this]
  have e2:(rT (fS (bF (jU a b c d e f).1 (jU a b c d e f).2.1).1 (bF (jU a b c d e f).1 (jU a b c d e f).2.1).2.1 (bF (jV a b c d e f).1 (jV a b c d e f).2.1).1 (bF (jV a b c d e f).1 (jV a b c d e f).2.1).2.1).1 (fS (bF (jU a b c d e f).1 (jU a b c d e f).2.1).1 (bF (jU a b c d e f).1 (jU a b c d e f).2.1).2.1 (bF (jV a b c d e f).1 (jV a b c d e f).2.1).1 (bF (jV a b c d e f).1 (jV a b c d e f).2.1).2.1).2.1).2.2=0:=L1.2.2.2.1;rw [e1,e2];rfl) ?_
 (try dsimp only)
 refine aP (show GB (jR a b c d e f).1 (jR a b c d e f).2.1 (jT a b c d e f).1 (jT a b c d e f).2.1=((sS a b c d e f).1,(sS a b c d e f).2.1) from rfl) ?_
 (try dsimp only)
 refine aP (show GA 0 (jR a b c d e f).1 (jR a b c d e f).2.1 (jT a b c d e f).1 (jT a b c d e f).2.1=0 from by
  unfold GA;rw [S3.2.1.2.2.2,S4.2.1.2.2.2];have e1:(fS (bF (jR a b c d e f).1 (jR a b c d e f).2.1).1 (bF (jR a b c d e f).1 (jR a b c d e f).2.1).2.1 (bF (jT a b c d e f).1 (jT a b c d e f).2.1).1 (bF (jT a b c d e f).1 (jT a b c d e f).2.1).2.1).2.2=0:=by
   have:=L2.1;unfold jI at this;rw [this]
  have e2:(rT (fS (bF (jR a b c d e f).1 (jR a b c d e f).2.1).1 (bF (jR a b c d e f).1 (jR a b c d e f).2.1).2.1 (bF (jT a b c d e f).1 (jT a b c d e f).2.1).1 (bF (jT a b c d e f).1 (jT a b c d e f).2.1).2.1).1 (fS (bF (jR a b c d e f).1 (jR a b c d e f).2.1).1 (bF (jR a b c d e f).1 (jR a b c d e f).2.1).2.1 (bF (jT a b c d e f).1 (jT a b c d e f).2.1).1 (bF (jT a b c d e f).1 (jT a b c d e f).2.1).2.1).2.1).2.2=0:=L2.2.2.2.1;rw [e1,e2];rfl) ?_
 (try dsimp only)
 refine aP (show yP (sT a b c d e f).1 (sT a b c d e f).2.1 (sS a b c d e f).1 (sS a b c d e f).2.1=((rY a b c d e f).1,(rY a b c d e f).2.1) from rfl) ?_
 (try dsimp only)
 refine aP (show FZ 0 (sT a b c d e f).1 (sT a b c d e f).2.1 (sS a b c d e f).1 (sS a b c d e f).2.1=0 from k0 B.2.2.2.2) ?_
 (try dsimp only)
 rw [show ((0:Int) != 0)=false from rfl,cond_false];have fb:aQ (sT a b c d e f).1 (sT a b c d e f).2.1 (sS a b c d e f).1 (sS a b c d e f).2.1=rY a b c d e f:=rfl;rw [fb] at B;have Bb:=DK B;rw [UO Bb.1 Bb.2.1 Bb.2.2.1 Bb.2.2.2.1];cases ho:cM (sT a b c d e f).1 (sT a b c d e f).2.1 (sS a b c d e f).1 (sS a b c d e f).2.1 with
 | true=>
  have eb:rY a b c d e f=(0,21600000,0):=by
   rw [←fb];unfold aQ;rw [V.1,V.2.1,ho];rfl
  rw [eb];rfl
 | false=>
 have F:=sE V.1 V.2.1 V.2.2.1 V.2.2.2 ho;rw [fb] at F;rw [decide_eq_false (show ¬21600000≤(rY a b c d e f).2.1-(rY a b c d e f).1 by omega),cond_false,if_neg (by simp)];have E9:EJ (rY a b c d e f).1 (rY a b c d e f).2.1 2 1=(2*(rY a b c d e f).1,2*(rY a b c d e f).2.1,0):=by
  rw [UL Bb.1 Bb.2.2.2.2 Bb.2.2.2.1 (.inr ⟨rfl,.inl rfl⟩),Int.ediv_one,Int.ediv_one,ayJ,akQ 2,akQ 2]
 have E10:jW 5400000 5400000 (2*(rY a b c d e f).1) (2*(rY a b c d e f).2.1)=((hfH a b c d e f).1,(hfH a b c d e f).2.1,0):=by
  rw [sD (by omega) (by omega) (by omega) (by omega) (by omega) (by omega)];rfl
 refine aP (show lD (rY a b c d e f).1 (rY a b c d e f).2.1 2 1=(2*(rY a b c d e f).1,2*(rY a b c d e f).2.1) from by unfold lD;rw [E9]) ?_
 (try dsimp only)
 refine aP (show qQ 0 (rY a b c d e f).1 (rY a b c d e f).2.1 2 1=0 from k0 (by rw [E9])) ?_
 (try dsimp only)
 refine aP (show oI 5400000 5400000 (2*(rY a b c d e f).1) (2*(rY a b c d e f).2.1)=((hfH a b c d e f).1,(hfH a b c d e f).2.1) from by unfold oI;rw [E10]) ?_
 (try dsimp only)
 refine aP (show yS 0 5400000 5400000 (2*(rY a b c d e f).1) (2*(rY a b c d e f).2.1)=0 from k0 (by rw [E10])) ?_
 (try dsimp only)
 refine aP (show yP (jT a b c d e f).1 (jT a b c d e f).2.1 (jR a b c d e f).1 (jR a b c d e f).2.1=((hfA a b c d e f).1,(hfA a b c d e f).2.1) from rfl) ?_
 (try dsimp only)
 refine aP (show FZ 0 (jT a b c d e f).1 (jT a b c d e f).2.1 (jR a b c d e f).1 (jR a b c d e f).2.1=0 from k0 DA.2.2.2.2) ?_
 (try dsimp only)
 refine aP (show yP (jV a b c d e f).1 (jV a b c d e f).2.1 (jU a b c d e f).1 (jU a b c d e f).2.1=((hfC a b c d e f).1,(hfC a b c d e f).2.1) from rfl) ?_
 (try dsimp only)
 refine aP (show FZ 0 (jV a b c d e f).1 (jV a b c d e f).2.1 (jU a b c d e f).1 (jU a b c d e f).2.1=0 from k0 DC.2.2.2.2) ?_
 (try dsimp only)
 have Ab:=DK DA;have Cb:=DK DC;have fa:aQ (jT a b c d e f).1 (jT a b c d e f).2.1 (jR a b c d e f).1 (jR a b c d e f).2.1=hfA a b c d e f:=rfl;have fc:aQ (jV a b c d e f).1 (jV a b c d e f).2.1 (jU a b c d e f).1 (jU a b c d e f).2.1=hfC a b c d e f:=rfl;rw [fa] at Ab;rw [fc] at Cb;have eZ:hfZ a b c d e f=wM (hfA a b c d e f) (hfC a b c d e f):=rfl;rw [UO Ab.1 Ab.2.1 Ab.2.2.1 Ab.2.2.2.1,UO Cb.1 Cb.2.1 Cb.2.2.1 Cb.2.2.2.1,eZ];unfold wM XE;generalize hfA a b c d e f=A at*;generalize hfC a b c d e f=T at*;by_cases c1:21600000≤A.2.1-A.1
 ·rw [decide_eq_true c1];rfl
 rw [decide_eq_false c1];by_cases c2:21600000≤T.2.1-T.1
 ·rw [decide_eq_true c2];rfl
 rw [decide_eq_false c2,Bool.not_false,cond_true,cond_true];have E11:oY A.1 A.2.1 T.1 T.2.1=(A.1+T.1,A.2.1+T.2.1,0):=aadd_ok (by omega) (by omega) (by omega) (by omega) (by omega) (by omega);refine aP (show qR A.1 A.2.1 T.1 T.2.1=(A.1+T.1,A.2.1+T.2.1) from by unfold qR;rw [E11]) ?_
 (try dsimp only)
 refine aP (show EO 0 A.1 A.2.1 T.1 T.2.1=0 from k0 (by rw [E11])) ?_
 (try dsimp only)
 have E12:AT (A.1+T.1) (A.2.1+T.2.1)=(-(A.2.1+T.2.1),-(A.1+T.1),0):=by
  unfold AT;rw [if_pos (bE (by omega) (by omega) (by omega))]
 refine aP E12 ?_
 (try dsimp only)
 refine aP (show EN (-(A.2.1+T.2.1)) (-(A.1+T.1)) 0=(-(A.2.1+T.2.1),-(A.1+T.1)) from rfl) ?_
 (try dsimp only)
 refine aP (show GT 0 (-(A.2.1+T.2.1)) (-(A.1+T.1)) 0=0 from rfl) ?_
 (try dsimp only)
 have E13:cD (-(A.2.1+T.2.1)) (-(A.1+T.1))=(dE (-(A.2.1+T.2.1)) (-(A.1+T.1)),cJ (-(A.2.1+T.2.1)) (-(A.1+T.1)),0):=by
  unfold cD;rw [if_pos (bE (by omega) (by omega) (by omega))]
 refine aP E13 ?_
 (try dsimp only)
 rfl
end
section
open Ev
open SM TB TA
open Ev (lt bJ aH pD)
theorem hib_of (n:Int):jF n=if jP (dW n)=true then fZ n else fZ n+1:=by
 unfold jF fZ uS;split<;>split<;>omega
theorem exa_at {k:Nat} (h:jP k=true):k=0∨k=1800000∨k=5400000:=by
 unfold jP at h;simp only [Bool.or_eq_true,beq_iff_eq] at h;omega
theorem lob_even {n:Int} (h:jP (dW n)=true):fZ n%2=0:=by
 have f0:lX 0=0:=rfl;have f1:lX 1800000=536870912:=rfl;have f2:lX 5400000=1073741824:=rfl;unfold fZ uS;rw [if_pos h];rcases exa_at h with e | e | e<;>rw [e]<;>first | rw [f0] | rw [f1] | rw [f2]
 all_goals split<;>rfl
theorem aAe (a:Int):AD a=(fZ a,jF a):=by
 have b:=lO a;unfold AD IK;simp only [lt,rflR];rw [hib_of];cases h:jP (dW a)
 ·rw [cond_false,aX (by omega)];rfl
 ·rfl
theorem IM {a b c:Int} (h1:-2000000000000≤a∧a≤2000000000000) (_h2:-2000000000000≤b∧b≤2000000000000) (h3:-20000000≤c∧c≤20000000):wQ a b c=kB a b c:=by
 have t:=QM (c-a);have p:=arX (c-a) (show (0:Int)<21600000 by omega);have q:=arX (-(c-a)) (show (0:Int)<21600000 by omega);rw [azZ] at q;unfold wQ kB;rw [aX (x:=c-a) (by omega)];by_cases h:(c-a).tmod 21600000<0
 ·rw [if_pos h] at t;rw [fE h,cond_true,aX (x:=(c-a).tmod 21600000+21600000) (by omega),aX (by omega)];exact decide_eq_decide.2 (by omega)
 ·rw [if_neg h] at t;rw [fI h,cond_false,aX (by omega)];exact decide_eq_decide.2 (by omega)
theorem meet_turn (a b:Int):kB a b (-5400000)=kB a b 16200000:=by
 unfold kB;rw [show (-5400000-a)%21600000=(16200000-a)%21600000 by omega]
theorem aAv {a b:Int} (h1:-2000000000000≤a∧a≤2000000000000) (h2:-2000000000000≤b∧b≤2000000000000):tN a b=(mX a b,mW a b):=by
 unfold tN IT mX mW;simp only [lt];rw [aAe,aAe,IM h1 h2 (by omega),IM h1 h2 (by omega),meet_turn];have m1:mn (fZ a) (fZ b)=min (fZ a) (fZ b):=by unfold mn;split<;>omega
 have m2:mx (jF a) (jF b)=max (jF a) (jF b):=by unfold mx;split<;>omega
 cases kB a b 5400000<;>cases kB a b 16200000<;>simp only [cond_true,cond_false,m1,m2]<;>simp
theorem fG {a b:Int} (h:aF a b=true):eE a b=((aN a b).1,(aN a b).2.1):=by
 have:=dG h;unfold eE aN;simp only [lt];rw [aX (x:=a+5400000) (by omega),aX (x:=b+5400000) (by omega),aAv (by omega) (by omega),h];rfl
theorem rhv_eq {n:Int} (h:-2000000000000≤n∧n≤2000000000000):rhvM n=((1073741824-jF (n+5400000))/2,(1073741824-fZ (n+5400000)+1)/2):=by
 have b:=lO (n+5400000);unfold rhvM rhvMK;simp only [lt,rflR];rw [aX (x:=n+5400000) (by omega),hib_of];generalize hf:fZ (n+5400000)=f at*;rw [aX (x:=1073741824-f) (by omega)];have t:∀x:Int,0≤x→x.tdiv 2=x/2:=fun x hx=>Int.tdiv_eq_ediv_of_nonneg hx;cases e:jP (dW (n+5400000))
 ·have c:f+1≤1073741824:=by
   have:=hib_of (n+5400000);rw [e,hf] at this;simp at this;omega
  rw [cond_false,aX (x:=1073741824-f-1) (by omega),t _ (by omega),aX (x:=(1073741824-f-1)/2) (by omega),aX (by omega)];simp;omega
 ·have:=lob_even e;rw [hf] at this;rw [cond_true,t _ (by omega),aX (x:=(1073741824-f)/2) (by omega)];simp;omega
theorem IP {a b:Int} (h:aF a b=true):rN a b=((eJ a b).1,(eJ a b).2.1):=by
 have:=dG h;unfold rN TO eJ mX mW;simp only [lt];rw [rhv_eq (by omega),rhv_eq (by omega),IM (by omega) (by omega) (by omega),IM (by omega) (by omega) (by omega),h];have e1:kB (a+5400000) (b+5400000) 16200000=kB a b 10800000:=by
  unfold kB;rw [show (16200000-(a+5400000))%21600000=(10800000-a)%21600000 by omega];exact decide_eq_decide.2 (by omega)
 have e2:kB (a+5400000) (b+5400000) 5400000=kB a b 0:=by
  unfold kB;rw [show (5400000-(a+5400000))%21600000=(0-a)%21600000 by omega];exact decide_eq_decide.2 (by omega)
 rw [e1,e2];have p:=lO (a+5400000);have q:=lO (b+5400000);generalize fZ (a+5400000)=x at*;generalize fZ (b+5400000)=y at*;generalize jF (a+5400000)=u at*;generalize jF (b+5400000)=v at*;have m1:mn ((1073741824-u)/2) ((1073741824-v)/2)=(1073741824-max u v)/2:=by unfold mn;split<;>omega
 have m2:mx ((1073741824-x+1)/2) ((1073741824-y+1)/2)=(1073741824-min x y+1)/2:=by unfold mx;split<;>omega
 cases kB a b 10800000<;>cases kB a b 0<;>simp only [cond_true,cond_false,m1,m2]<;>simp
theorem nF {a b:Int} (h:a≤b):nS a b=kN a b:=by
 unfold nS TN kN;by_cases h1:a< -2147483648
 ·rw [fE h1,cond_true,if_neg (by simp [aG];omega)]
 ·rw [fI h1,cond_false];by_cases h2:b>2147483648
  ·rw [fE h2,cond_true,if_neg (by simp [aG];omega)]
  ·rw [fI h2,cond_false,if_pos (by simp [aG];omega)]
theorem BZ (a b:Int):gP a b=min a b:=by
 unfold gP;by_cases h:b<a
 ·rw [fE h];simp;omega
 ·rw [fI h];simp;omega
theorem xS (a b:Int):fC a b=max a b:=by
 unfold fC;by_cases h:a<b
 ·rw [fE h];simp;omega
 ·rw [fI h];simp;omega
theorem TI {a b c d:Int} (h1:aG a b=true) (h2:aG c d=true):ZX a b c d=fS a b c d:=by
 have p:=fR h1;have q:=fR h2;unfold ZX fS;simp only [lt];rw [aX (x:=a+c) (by omega),aX (x:=b+d) (by omega),nF (by omega),if_pos (iC h1 h2)]
theorem rsub_eq {a b c d:Int} (h1:aG a b=true) (h2:aG c d=true):aAx a b c d=mQ a b c d:=by
 have p:=fR h1;have q:=fR h2;unfold aAx mQ;simp only [lt];rw [aX (x:=a-d) (by omega),aX (x:=b-c) (by omega),nF (by omega),if_pos (iC h1 h2)]
theorem fl_one (x:Int):x/1073741824=(if x.tmod 1073741824<0 then x.tdiv 1073741824-1 else x.tdiv 1073741824):=by
 have t:=zP x 1073741824 (by omega);have s:=qK x 1073741824;split at t
 ·rw [if_pos (by omega)];exact t
 ·rw [if_neg (by omega)];exact t
theorem CA {a b c d:Int} (h1:aG a b=true) (h2:aG c d=true):QA a b c d=bT a b c d:=by
 have p:=fR h1;have q:=fR h2;have p1:=qE (x:=a) (y:=c) (by omega) (by omega) (by omega) (by omega);have p2:=qE (x:=a) (y:=d) (by omega) (by omega) (by omega) (by omega);have p3:=qE (x:=b) (y:=c) (by omega) (by omega) (by omega) (by omega);have p4:=qE (x:=b) (y:=d) (by omega) (by omega) (by omega) (by omega);have mo:=PN p.2.1 q.2.1;unfold QA TR bT;rw [aX (x:=a*c) (by omega),aX (x:=a*d) (by omega),aX (x:=b*c) (by omega),aX (x:=b*d) (by omega),if_pos (iC h1 h2)];have eL:gP (gP (a*c) (a*d)) (gP (b*c) (b*d))=pI a b c d:=by
  rw [BZ,BZ,BZ];unfold pI mn;repeat' split
  all_goals omega
 have eH:fC (fC (a*c) (a*d)) (fC (b*c) (b*d))=pH a b c d:=by
  rw [xS,xS,xS];unfold pH mx;repeat' split
  all_goals omega
 have bL:-4611686018427387904≤pI a b c d∧pI a b c d≤4611686018427387904:=by
  have:=(mn4 (a*c) (a*d) (b*c) (b*d)).2;unfold pI;omega
 have bH:-4611686018427387904≤pH a b c d∧pH a b c d≤4611686018427387904:=by
  have:=(mx4 (a*c) (a*d) (b*c) (b*d)).2;unfold pH;omega
 rw [eL,eH];generalize pI a b c d=L at*;generalize pH a b c d=H at*;rw [aX (x:=0-H) (by omega),aoX];have f1:=fl_one L;have f2:=fl_one (-H);have t1:=qJ L 1073741824 4611686018427387904 bL.1 bL.2;have t2:=qJ (-H) 1073741824 4611686018427387904 (by omega) (by omega);rw [aX (x:=L.tdiv 1073741824) (by omega),aX (x:=(-H).tdiv 1073741824) (by omega),aX (x:=L.tdiv 1073741824-1) (by omega),aX (x:=(-H).tdiv 1073741824-1) (by omega)];rw [aX (x:=0-(-H).tdiv 1073741824) (by omega),aX (x:=0-((-H).tdiv 1073741824-1)) (by omega),aoX,aoX];have mono:L/1073741824≤-(-H/1073741824):=by omega
 simp only [lt];by_cases c1:L.tmod 1073741824<0<;>by_cases c2:(-H).tmod 1073741824<0
 ·rw [if_pos c1] at f1;rw [if_pos c2] at f2;rw [fE c1,fE c2,←f1,←f2];exact nF mono
 ·rw [if_pos c1] at f1;rw [if_neg c2] at f2;rw [fE c1,fI c2,←f1,←f2];exact nF mono
 ·rw [if_neg c1] at f1;rw [if_pos c2] at f2;rw [fI c1,fE c2,←f1,←f2];exact nF mono
 ·rw [if_neg c1] at f1;rw [if_neg c2] at f2;rw [fI c1,fI c2,←f1,←f2];exact nF mono
theorem TP (a b:Int):wR a b=mD a b:=by
 unfold wR mD aF;by_cases h1:a≤b
 ·by_cases h2:a≥-5400000
  ·rw [fE h1,fE h2,cond_true,cond_true];by_cases h3:b≤5400000
   ·rw [fE h3,fE (by omega)];rfl
   ·rw [fI h3];simp
  ·rw [fE h1,fI h2,cond_true,cond_false];simp
 ·rw [fI h1,cond_false,fI (by omega)];rfl
theorem TZ (a b c d e f:Int):FU a b c d e f=cS a b c d e f:=by
 unfold FU cS;rw [TP,TP,rval_eq];cases mD a b<;>cases mD c d<;>rfl
theorem pP {a b c d:Int} (h1:-100000000≤a) (h2:a≤b) (h3:b≤100000000) (h4:-100000000≤c) (h5:c≤d) (h6:d≤100000000):gQ a b c d=(a-d,b-c):=by
 unfold gQ;rw [aX (by omega),aX (by omega)]
theorem qtr_eq {a b:Int} (h1:-100000000≤a) (h2:a≤b) (h3:b≤100000000):NY a b=(5400000-b,5400000-a):=by
 unfold NY;rw [aX (by omega),aX (by omega)]
theorem BI (x y:Int) (hy:y≠0):iZ (-x) (-y)=iZ x y:=by
 unfold iZ;by_cases h:0<y
 ·rw [if_pos h,if_neg (by omega),ayJ,ayJ]
 ·rw [if_neg h,if_pos (by omega)]
theorem GZ (x y:Int) (hy:y≠0):oE (-x) (-y)=oE x y:=by
 unfold oE;rw [BI _ _ hy]
theorem div_neg2 {a b c d:Int} (hc:c≠0) (hd:d≠0):zN (-b) (-a) (-d) (-c)=zN a b c d∧zM (-b) (-a) (-d) (-c)=zM a b c d:=by
 have n:∀x:Int,-x*1073741824=-(x*1073741824):=fun x=>by omega
 unfold zN zM;rw [n,n,BI _ _ hd,BI _ _ hc,BI _ _ hd,BI _ _ hc,GZ _ _ hd,GZ _ _ hc,GZ _ _ hd,GZ _ _ hc];generalize iZ (a*1073741824) c=p;generalize iZ (a*1073741824) d=q;generalize iZ (b*1073741824) c=r;generalize iZ (b*1073741824) d=s;generalize oE (a*1073741824) c=p';generalize oE (a*1073741824) d=q';generalize oE (b*1073741824) c=r';generalize oE (b*1073741824) d=s';constructor
 ·have h1:=mn5 s s r q p rfl;have h2:=mn5 p p q r s rfl;omega
 ·have h1:=mx5 s' s' r' q' p' rfl;have h2:=mx5 p' p' q' r' s' rfl;omega
theorem div_pos {a b c d:Int} (hc:0<c) (hd:0<d) (ab:a≤b):zN a b c d=min (iZ (a*1073741824) c) (iZ (a*1073741824) d)∧zM a b c d=max (oE (b*1073741824) c) (oE (b*1073741824) d):=by
 have m:a*1073741824≤b*1073741824:=by omega
 have f:∀y:Int,0<y→iZ (a*1073741824) y≤iZ (b*1073741824) y∧oE (a*1073741824) y≤oE (b*1073741824) y:=fun y hy=>by
  have p:=Int.ediv_le_ediv hy m;have q:=Int.ediv_le_ediv hy (show -(b*1073741824)≤-(a*1073741824) by omega);unfold oE iZ;rw [if_pos hy,if_pos hy];exact ⟨p,by rw [if_pos hy,if_pos hy];omega⟩
 have f1:=f c hc;have f2:=f d hd;unfold zN zM;have h2:=mn5 (iZ (a*1073741824) c) (iZ (a*1073741824) c) (iZ (a*1073741824) d) (iZ (b*1073741824) c) (iZ (b*1073741824) d) rfl;have h3:=mx5 (oE (a*1073741824) c) (oE (a*1073741824) c) (oE (a*1073741824) d) (oE (b*1073741824) c) (oE (b*1073741824) d) rfl;omega
theorem div_order {a b c d:Int} (hz:0<c∨d<0) (ab:a≤b) (cd:c≤d):zN a b c d≤zM a b c d:=by
 have h:=BE (x:=a) (y:=c) hz (aeX _) ab (aeX _) cd;have:=fl_ce (a*1073741824) c (by omega);omega
theorem iX {a b:Int} (h:aF a b=true):gV a b=((aW a b).1,(aW a b).2.1):=by
 have:=dG h;unfold gV aW;simp only [lt];rw [aAv (by omega) (by omega),h];rfl
theorem fQ {a b c d:Int} (h:aG a b=true) (k:aG c d=true):dI a b c d=((bT a b c d).1,(bT a b c d).2.1):=by
 unfold dI;simp only [lt];rw [CA h k]
theorem plus_eq {a b c d:Int} (h:aG a b=true) (k:aG c d=true):rJ a b c d=((fS a b c d).1,(fS a b c d).2.1):=by
 unfold rJ;simp only [lt];rw [TI h k]
theorem ZF {a b c d:Int} (h:aG a b=true) (k:aG c d=true):lY a b c d=((mQ a b c d).1,(mQ a b c d).2.1):=by
 unfold lY;simp only [lt];rw [rsub_eq h k]
theorem TT {r:Int×Int×Int} (h:fJ r):qH r.1 r.2.1=((mK r.1 r.2.1).1,(mK r.1 r.2.1).2.1):=by
 obtain ⟨h1,h2,h3,h4⟩:=h;rw [(BT ⟨h1,h2,h3,h4⟩).1];unfold qH;rw [aX (x:=0-r.2.1) (by omega),aX (x:=0-r.1) (by omega),aoX,aoX]
theorem aAl (a b c d:Int):tL a b c d=(mx c a,mn d b):=by
 unfold tL IR mx mn;by_cases c1:c>a
 ·rw [fE c1,cond_true];by_cases c2:d<b
  ·rw [fE c2,cond_true];split<;>split<;>simp<;>omega
  ·rw [fI c2,cond_false];split<;>split<;>simp<;>omega
 ·rw [fI c1,cond_false];by_cases c2:d<b
  ·rw [fE c2,cond_true];split<;>split<;>simp<;>omega
  ·rw [fI c2,cond_false];split<;>split<;>simp<;>omega
theorem aAm {a b:Int} (h1:-2147483648≤a) (h2:a≤b) (_h3:b≤2147483648):iW a b=gL a b:=by
 unfold iW gL;by_cases c1:a>0
 ·rw [fE c1,cond_true,if_pos (by omega)]
 ·rw [fI c1,cond_false,if_neg (by omega)];by_cases c2:b<0
  ·rw [fE c2,cond_true,if_pos c2,aX (by omega)];omega
  ·rw [fI c2,cond_false,if_neg c2]
theorem rfar_eq {a b:Int} (h1:-2147483648≤a) (h2:a≤b) (h3:b≤2147483648):gK a b=eW a b:=by
 unfold gK eW;rw [aX (x:=0-a) (by omega)];by_cases c:b< -a
 ·rw [fE (show 0-a>b by omega),cond_true,if_pos c];omega
 ·rw [fI (show ¬0-a>b by omega),cond_false,if_neg c]
theorem tJ (n:Int):dJ n=min n 1073741824:=by
 unfold dJ;by_cases c:n>1073741824
 ·rw [fE c,cond_true];omega
 ·rw [fI c,cond_false];omega
theorem oF {α:Type} {b:Bool} {x y r:α} (h:b=true) (k:x=r):cond b x y=r:=by
 rw [h];exact k
theorem BC {a b c d:Int} (h:eQ a b c d=true):aG a b=true∧aG c d=true:=(Bool.and_eq_true _ _).mp h
theorem raad_eq {a b c d:Int} (h1:-100000000≤a) (h2:a≤b) (h3:b≤100000000) (h4:-100000000≤c) (h5:c≤d) (h6:d≤100000000):yM a b c d=(a+c,b+d):=by
 unfold yM;rw [aX (by omega),aX (by omega)]
theorem raneg_eq {a b:Int} (h1:-100000000≤a) (h2:a≤b) (h3:b≤100000000):pO a b=(-b,-a):=by
 unfold pO;rw [aX (by omega),aX (by omega),aoX,aoX]
theorem rar_eq {x y:Int} (h1:-100000000≤x) (h2:x≤100000000) (h3:-100000000≤y) (h4:y≤100000000):rarM x y=decide (21600000≤y-x):=by
 unfold rarM;rw [aX (by omega)]
def AN (a b e:Int):Int×Int:=if e=0 then (a,b) else (0,0)
def CS (k _a _b e:Int):Int:=bJ k e
theorem uE {a b e:Int} (h:e=0):AN a b e=(a,b):=if_pos h
theorem GN {a b e:Int} (h:e=0):CS 0 a b e=0:=k0 h
theorem rmul_gives (a b c d:Int) (hp:eQ a b c d=true):aH Tryz.prog 163 [.agg ⟨[.int .i64 a,.int .i64 b]⟩,.agg ⟨[.int .i64 c,.int .i64 d]⟩] (aL (bT a b c d)):=by
 have h:=FR a b c d;rwa [CA (BC hp).1 (BC hp).2] at h
theorem radd_gives (a b c d:Int) (hp:eQ a b c d=true):aH Tryz.prog 173 [.agg ⟨[.int .i64 a,.int .i64 b]⟩,.agg ⟨[.int .i64 c,.int .i64 d]⟩] (aL (fS a b c d)):=by
 have h:=FK a b c d;rwa [TI (BC hp).1 (BC hp).2] at h
theorem isq_irt {n:Nat} (h:n<4611686018427387904):((isq n:Nat):Int)=kV (n:Int):=by
 have a:=SI (n:=n) (by omega);have b:=MP n 32 0 4294967296 (by omega) (by decide) (by omega) (by omega);unfold kV;rw [Int.toNat_natCast,xT a.1 a.2 b.1 b.2]
theorem TU (n:Int) (hp:rO n=true):aH Tryz.prog 214 [.int .i64 n] (.int .i64 (kV n)):=pD fun w=>by
 obtain ⟨h1,h2⟩:=of_decide_eq_true hp;have:=QE n.toNat (by omega) w;rw [isq_irt (by omega),ahX h1] at this;exact this
def QB (n:Int):Bool:=decide (0≤n∧n<4611686018427387904)
theorem TV (n:Int) (h:QB n=true):aH Tryz.prog 214 [.int .i64 n] (.int .i64 (bO n)):=pD fun w=>by
 obtain ⟨h1,h2⟩:=of_decide_eq_true h;have:=QE n.toNat (by omega) w;rwa [ahX h1] at this
def nC (a b:Int):Bool:=decide (0<b∧-4611686018427387904≤a∧a≤4611686018427387904)
def AE (a b:Int):Int:=a/b
noncomputable def kR20:aZ:=(207,eII (fun a b=>.int .i64 (gP a b)))::(208,eII (fun a b=>.int .i64 (fC a b)))::(209,eII (fun a b=>aL (nS a b)))::(214,eIif rO (fun a=>.int .i64 (kV a)))::(230,eP (fun a b=>.bool (EC a b)))::(231,nX (fun a b c d=>zW (FV a b c d)))::[]
theorem kR20_ok:aJ Tryz.prog kR20:=(aA (pB FP) (aA (pB FQ) (aA (pB FM) (aA (RU TU) (aA (cF UB) (aA (cH aAA) cO))))))
theorem rflD_gives (a b:Int) (hp:nC a b=true):aH Tryz.prog 210 [.int .i64 a,.int .i64 b] (.int .i64 (AE a b)):=by
 refine aE bK kR20_ok (t:=cond (b==0) (none) (cond (b==0) (none) (cond (decide ((avZ a b)<0)) (some (.v (.int .i64 (i64.wrap ((i64.wrap (apQ a b))-1))))) (some (.v (.int .i64 (i64.wrap (apQ a b)))))))) (by kernel_rfl) ?_;obtain ⟨hb,ha1,ha2⟩:=of_decide_eq_true hp;have t:=qJ a b 4611686018427387904 ha1 ha2;have s:=qK a b;have f:=zP a b hb;have e0:(b==0)=false:=beq_eq_false_iff_ne.2 (by omega);unfold AE;rw [e0,aX (x:=apQ a b) (by omega),aX (x:=apQ a b-1) (by omega)];simp only [cond_false];by_cases c:a.tmod b<0
 ·rw [if_pos (by omega)] at f;rw [fE c,f];rfl
 ·rw [if_neg (by omega)] at f;rw [fI c,f];rfl
def EA (a b:Int):Int:=-(-a/b)
noncomputable def kR21:aZ:=(210,rB nC (fun a b=>.int .i64 (AE a b)))::kR20
theorem kR21_ok:aJ Tryz.prog kR21:=(aA (jY rflD_gives) kR20_ok)
theorem rceD_gives (a b:Int) (hp:nC a b=true):aH Tryz.prog 211 [.int .i64 a,.int .i64 b] (.int .i64 (EA a b)):=by
 refine aE bK kR21_ok (t:=cond (nC (i64.wrap (0-a)) b) (some (.v (.int .i64 (i64.wrap (0-(AE (i64.wrap (0-a)) b)))))) (none)) (by kernel_rfl) ?_;obtain ⟨hb,ha1,ha2⟩:=of_decide_eq_true hp;have e2:nC (-a) b=true:=decide_eq_true ⟨hb,by omega,by omega⟩;have e1:i64.wrap (0-a)=-a:=by rw [aX (by omega)];omega
 have f:=flD_bd (-a) b (by omega) 4611686018427387904 (by omega) (by omega);unfold iZ at f;rw [if_pos hb] at f;simp only [e1,e2,cond_true,AE];rw [aX (by omega)];unfold EA;rw [aoX]
theorem aA6 {a b c d:Int} (ha:-2147483648≤a) (ab:a≤b) (hb:b≤2147483648) (hc:0<c) (hd:0<d) (hL:zN a b c d≤zM a b c d) (X:Int×Int×Int→Option AV):
  (cond (nC (i64.wrap (a*1073741824)) c) (cond (nC (i64.wrap (a*1073741824)) d) (cond (nC (i64.wrap (b*1073741824)) c) (cond (nC (i64.wrap (b*1073741824)) d)
   (X (nS (gP (AE (i64.wrap (a*1073741824)) c) (AE (i64.wrap (a*1073741824)) d)) (fC (EA (i64.wrap (b*1073741824)) c) (EA (i64.wrap (b*1073741824)) d)))) none) none) none) none)=X (kN (zN a b c d) (zM a b c d)):=by
 rw [aX (x:=a*1073741824) (by omega),aX (x:=b*1073741824) (by omega)];have f1:nC (a*1073741824) c=true:=decide_eq_true ⟨hc,by omega,by omega⟩;have f2:nC (a*1073741824) d=true:=decide_eq_true ⟨hd,by omega,by omega⟩;have f3:nC (b*1073741824) c=true:=decide_eq_true ⟨hc,by omega,by omega⟩;have f4:nC (b*1073741824) d=true:=decide_eq_true ⟨hd,by omega,by omega⟩;rw [f1,f2,f3,f4];simp only [cond_true];have g:∀x y:Int,0<y→AE x y=iZ x y∧EA x y=oE x y:=fun x y hy=>by
  unfold AE EA oE iZ;rw [if_pos hy,if_pos hy];exact ⟨rfl,rfl⟩
 rw [(g _ _ hc).1,(g _ _ hd).1,(g _ _ hc).2,(g _ _ hd).2,BZ,xS];obtain ⟨e1,e2⟩:=div_pos (a:=a) (b:=b) hc hd ab;rw [e1,e2] at hL ⊢;rw [nF hL]
noncomputable def kR22:aZ:=(211,rB nC (fun a b=>.int .i64 (EA a b)))::kR21
theorem xK:aJ Tryz.prog kR22:=(aA (jY rceD_gives) kR21_ok)
theorem rdiv_gives (a b c d:Int) (hp:eQ a b c d=true):aH Tryz.prog 204 [.agg ⟨[.int .i64 a,.int .i64 b]⟩,.agg ⟨[.int .i64 c,.int .i64 d]⟩] (aL (iB a b c d)):=by
 refine aE bK xK (t:=cond (EC c d) (some (.v (.tuple ⟨[.agg ⟨[.int .i64 0,.int .i64 0]⟩,.int .i64 16]⟩))) (lt (FV a b c d) fun x1=>cond (nC (i64.wrap (x1.1*1073741824)) x1.2.2.1) (cond (nC (i64.wrap (x1.1*1073741824)) x1.2.2.2) (cond (nC (i64.wrap (x1.2.1*1073741824)) x1.2.2.1) (cond (nC (i64.wrap (x1.2.1*1073741824)) x1.2.2.2) (lt (nS (gP (AE (i64.wrap (x1.1*1073741824)) x1.2.2.1) (AE (i64.wrap (x1.1*1073741824)) x1.2.2.2)) (fC (EA (i64.wrap (x1.2.1*1073741824)) x1.2.2.1) (EA (i64.wrap (x1.2.1*1073741824)) x1.2.2.2))) fun x2=>some (.v (.tuple ⟨[.agg ⟨[.int .i64 x2.1,.int .i64 x2.2.1]⟩,.int .i64 x2.2.2]⟩))) (none)) (none)) (none)) (none))) (by kernel_rfl) ?_;obtain ⟨a1,a2,a3,c1,c2,c3⟩:=BA hp;have zz:EC c d=wZ c d:=by
  unfold EC wZ;by_cases h1:c≤0
  ·rw [fE h1,cond_true];exact decide_eq_decide.2 (by omega)
  ·rw [fI h1,cond_false,fI (by omega)]
 unfold iB;simp only [lt];rw [if_pos hp,zz];cases hz:wZ c d
 ·have hz':=of_decide_eq_false hz;rw [cond_false,if_neg (by simp)];have hL:=div_order (a:=a) (b:=b) (c:=c) (d:=d) (by omega) a2 c2;by_cases s:c<0
  ·have e:FV a b c d=(-b,-a,-d,-c):=by
    unfold FV MJ qH;simp only [lt];rw [fE s,aX (x:=0-b) (by omega),aX (x:=0-a) (by omega),aX (x:=0-d) (by omega),aX (x:=0-c) (by omega)];simp
   rw [e];dsimp only;obtain ⟨n1,n2⟩:=div_neg2 (a:=a) (b:=b) (c:=c) (d:=d) (by omega) (by omega);refine (aA6 (a:=-b) (b:=-a) (c:=-d) (d:=-c) (by omega) (by omega) (by omega) (by omega) (by omega) (by omega) (fun x=>some (.v (.tuple ⟨[.agg ⟨[.int .i64 x.1,.int .i64 x.2.1]⟩,.int .i64 x.2.2]⟩)))).trans ?_;rw [n1,n2];rfl
  ·have e:FV a b c d=(a,b,c,d):=by
    unfold FV MJ;rw [fI s];rfl
   rw [e];dsimp only;exact aA6 (a:=a) (b:=b) (c:=c) (d:=d) (by omega) (by omega) (by omega) (by omega) (by omega) hL (fun x=>some (.v (.tuple ⟨[.agg ⟨[.int .i64 x.1,.int .i64 x.2.1]⟩,.int .i64 x.2.2]⟩)))
 ·rfl
theorem rsqr_gives (a b:Int) (hp:aG a b=true):aH Tryz.prog 174 [.agg ⟨[.int .i64 a,.int .i64 b]⟩] (aL (bF a b)):=by
 refine aE bK xK (t:=cond (decide (a≤0)) (cond (decide (b≥0)) (cond (nC 0 1073741824) (cond (nC (fC (i64.wrap (a*a)) (i64.wrap (b*b))) 1073741824) (lt (nS (AE 0 1073741824) (EA (fC (i64.wrap (a*a)) (i64.wrap (b*b))) 1073741824)) fun x1=>some (.v (.tuple ⟨[.agg ⟨[.int .i64 x1.1,.int .i64 x1.2.1]⟩,.int .i64 x1.2.2]⟩))) (none)) (none)) (cond (nC (gP (i64.wrap (a*a)) (i64.wrap (b*b))) 1073741824) (cond (nC (fC (i64.wrap (a*a)) (i64.wrap (b*b))) 1073741824) (lt (nS (AE (gP (i64.wrap (a*a)) (i64.wrap (b*b))) 1073741824) (EA (fC (i64.wrap (a*a)) (i64.wrap (b*b))) 1073741824)) fun x2=>some (.v (.tuple ⟨[.agg ⟨[.int .i64 x2.1,.int .i64 x2.2.1]⟩,.int .i64 x2.2.2]⟩))) (none)) (none))) (cond (nC (gP (i64.wrap (a*a)) (i64.wrap (b*b))) 1073741824) (cond (nC (fC (i64.wrap (a*a)) (i64.wrap (b*b))) 1073741824) (lt (nS (AE (gP (i64.wrap (a*a)) (i64.wrap (b*b))) 1073741824) (EA (fC (i64.wrap (a*a)) (i64.wrap (b*b))) 1073741824)) fun x3=>some (.v (.tuple ⟨[.agg ⟨[.int .i64 x3.1,.int .i64 x3.2.1]⟩,.int .i64 x3.2.2]⟩))) (none)) (none))) (by kernel_rfl) ?_;have v:=fR hp;have p:=uW (x:=a) (m:=2147483648) (by omega) (by omega);have q:=uW (x:=b) (m:=2147483648) (by omega) (by omega);have s:=sqr_int hp;rw [aX (x:=a*a) (by omega),aX (x:=b*b) (by omega),BZ,xS];have fH:nC (max (a*a) (b*b)) 1073741824=true:=decide_eq_true ⟨by omega,by omega,by omega⟩;have fL:nC (min (a*a) (b*b)) 1073741824=true:=decide_eq_true ⟨by omega,by omega,by omega⟩;have f0:nC 0 1073741824=true:=by decide
 rw [fH,fL,f0];unfold EH AL at s;unfold bF EH AL;rw [if_pos hp];simp only [lt,cond_true];unfold AE EA;by_cases c:a≤0∧0≤b
 ·rw [if_pos c] at s;rw [if_pos c,fE c.1,fE (show b≥0 from c.2),cond_true,cond_true,nF (by omega)];rfl
 ·rw [if_neg c] at s;rw [if_neg c];by_cases c1:a≤0
  ·rw [fE c1,fI (show ¬b≥0 by omega),cond_true,cond_false,nF (by omega)];rfl
  ·rw [fI c1,cond_false,nF (by omega)];rfl
theorem rsqt_gives (a b:Int) (hp:aG a b=true):aH Tryz.prog 172 [.agg ⟨[.int .i64 a,.int .i64 b]⟩] (aL (rT a b)):=by
 refine aE bK xK (t:=cond (decide (b<0)) (some (.v (.tuple ⟨[.agg ⟨[.int .i64 0,.int .i64 0]⟩,.int .i64 2]⟩))) (cond (rO (i64.wrap ((fC a 0)*1073741824))) (cond (rO (i64.wrap (b*1073741824))) (cond (decide (i64.wrap ((kV (i64.wrap (b*1073741824)))*(kV (i64.wrap (b*1073741824))))<i64.wrap (b*1073741824))) (some (.v (.tuple ⟨[.agg ⟨[.int .i64 (kV (i64.wrap ((fC a 0)*1073741824))),.int .i64 (i64.wrap ((kV (i64.wrap (b*1073741824)))+1))]⟩,.int .i64 0]⟩))) (some (.v (.tuple ⟨[.agg ⟨[.int .i64 (kV (i64.wrap ((fC a 0)*1073741824))),.int .i64 (kV (i64.wrap (b*1073741824)))]⟩,.int .i64 0]⟩)))) (none)) (none))) (by kernel_rfl) ?_;have v:=fR hp;unfold rT;rw [if_pos hp];by_cases c:b<0
 ·rw [fE c,if_pos c];rfl
 ·rw [fI c,if_neg c,xS,aX (x:=max a 0*1073741824) (by omega),aX (x:=b*1073741824) (by omega),show max a 0=max 0 a by omega];have q1:rO (b*1073741824)=true:=decide_eq_true ⟨by omega,by omega⟩;have q2:rO (max 0 a*1073741824)=true:=decide_eq_true ⟨by omega,by omega⟩;have r:=wC (n:=b*1073741824) (by omega) (by omega);have s:=lt_sq (x:=kV (b*1073741824)) (y:=2147483648) r.1 (by omega) (by omega);have z:=Int.mul_nonneg r.1 r.1;have o:=sqt_ok (a:=max 0 a) (b:=b) (by omega) (by omega) v.2.2;have fit:kN (kV (max 0 a*1073741824)) (FG (b*1073741824))=(kV (max 0 a*1073741824),FG (b*1073741824),0):=by
   unfold kN;rw [if_pos (dH (by omega) o.2.2.1 o.2.2.2)]
  rw [q1,q2,aX (x:=kV (b*1073741824)*kV (b*1073741824)) (by omega),aX (x:=kV (b*1073741824)+1) (by omega),fit];unfold FG;by_cases k:kV (b*1073741824)*kV (b*1073741824)<b*1073741824
  ·rw [fE k,if_pos k];rfl
  ·rw [fI k,if_neg k];rfl
def rfl5 (a b:Int):Int:=a/b
theorem rfl5_gives (a b:Int) (hp:AS a b=true):aH Tryz.prog 168 [.int .i64 a,.int .i64 b] (.int .i64 (rfl5 a b)):=by
 refine aE bK xK (t:=cond (b==0) (none) (cond (b==0) (none) (cond (decide ((avZ a b)<0)) (some (.v (.int .i64 (i64.wrap ((i64.wrap (apQ a b))-1))))) (some (.v (.int .i64 (i64.wrap (apQ a b)))))))) (by kernel_rfl) ?_;obtain ⟨hb,ha1,ha2⟩:=of_decide_eq_true hp;have t:=qJ a b 4611686018427387904 ha1 ha2;have s:=qK a b;have e0:(b==0)=false:=beq_eq_false_iff_ne.2 (by omega);rw [e0,aX (x:=apQ a b) (by omega),aX (x:=apQ a b-1) (by omega)];simp only [cond_false];unfold rfl5;rw [zP a b hb];by_cases h1:a.tmod b<0
 ·rw [fE h1,if_pos (by omega)];rfl
 ·rw [fI h1,if_neg (by omega)];rfl
def rce5 (a b:Int):Int:=-(-a/b)
theorem rce5_gives (a b:Int) (hp:AS a b=true):aH Tryz.prog 169 [.int .i64 a,.int .i64 b] (.int .i64 (rce5 a b)):=by
 refine aE bK xK (t:=cond (b==0) (none) (cond (b==0) (none) (cond (decide ((avZ a b)>0)) (some (.v (.int .i64 (i64.wrap ((i64.wrap (apQ a b))+1))))) (some (.v (.int .i64 (i64.wrap (apQ a b)))))))) (by kernel_rfl) ?_;obtain ⟨hb,ha1,ha2⟩:=of_decide_eq_true hp;have t:=qJ a b 4611686018427387904 ha1 ha2;have s:=qK a b;have n1:(-a).tmod b=-(a.tmod b):=azZ a b;have n2:(-a).tdiv b=-(a.tdiv b):=Int.neg_tdiv a b;have e0:(b==0)=false:=beq_eq_false_iff_ne.2 (by omega);rw [e0,aX (x:=apQ a b) (by omega),aX (x:=apQ a b+1) (by omega)];simp only [cond_false];unfold rce5;rw [zP (-a) b hb,n1,n2];by_cases h1:a.tmod b>0
 ·rw [fE h1,if_pos (by omega),show -(-a.tdiv b-1)=a.tdiv b+1 by omega];rfl
 ·rw [fI h1,if_neg (by omega),ayJ];rfl
def MI (a b n d:Int):Bool:=decide (-100000000≤a∧a≤b∧b≤100000000∧((n=1∧(d=2∨d=4))∨(d=1∧(n=2∨n=4))))
def oH (a b n d:Int):Int×Int:=((a*n)/d,-(-(b*n)/d))
noncomputable def qX:aZ:=[(115,eP (fun a b=>aD (pO a b).1 (pO a b).2)),(168,rB AS (fun a b=>.int .i64 (rfl5 a b))),(169,rB AS (fun a b=>.int .i64 (rce5 a b)))]
theorem yA:aJ Tryz.prog qX:=(aA (cF BW) (aA (jY rfl5_gives) (aA (jY rce5_gives) cO)))
theorem EB (a b c d:Int):evF Tryz.prog Es Cs qX 20 2 107 ([.agg ⟨[.int .i64 a,.int .i64 b]⟩,.int .i64 c,.int .i64 d].map AV.v) [] [] YT=
  cond (decide (c<0))
  (lt (pO a b) fun _=>
   cond (decide (i64.wrap (0-c)<0))
   (none)
   (none))
  (cond (AS (i64.wrap (a*c)) d)
   (cond (AS (i64.wrap (b*c)) d)
    (some (.v (.agg ⟨[.int .i64 (rfl5 (i64.wrap (a*c)) d),.int .i64 (rce5 (i64.wrap (b*c)) d)]⟩)))
    (none))
   (none)):=by kernel_rfl
theorem aAz (a b c d:Int) (hp:MI a b c d=true):aH Tryz.prog 107 [.agg ⟨[.int .i64 a,.int .i64 b]⟩,.int .i64 c,.int .i64 d] (aD (oH a b c d).1 (oH a b c d).2):=by
 refine oT (E:=Es) mixed bK JB yA (lim:=20) (d:=2) (nm:=[]) ?_;rw [EB a b c d];obtain ⟨h1,h2,h3,h⟩:=of_decide_eq_true hp;rw [fI (show ¬c<0 by omega),cond_false];have q:-1000000000≤a*c∧a*c≤1000000000∧-1000000000≤b*c∧b*c≤1000000000:=by
  rcases h with ⟨rfl,_⟩ | ⟨_,rfl | rfl⟩<;>omega
 have q1:AS (a*c) d=true:=fE ⟨by omega,by omega,by omega⟩;have q2:AS (b*c) d=true:=fE ⟨by omega,by omega,by omega⟩;rw [aX (x:=a*c) (by omega),aX (x:=b*c) (by omega),q1,q2];rfl
theorem rkV_mods (k a b c:Int):gW Tryz.prog 171 120 k [.agg ⟨[.int .i64 a,.int .i64 b]⟩,.int .i64 c] (aD (AN a b c).1 (AN a b c).2) (CS k a b c):=by
 refine bR bK xK (t:=cond (k==0) (cond (c != 0) (some (.v (.agg ⟨[.int .i64 0,.int .i64 0]⟩),⟨[.v (.int .i64 c)],120⟩)) (some (.v (.agg ⟨[.int .i64 a,.int .i64 b]⟩),⟨[.v (.int .i64 c)],120⟩))) (cond (c != 0) (some (.v (.agg ⟨[.int .i64 0,.int .i64 0]⟩),⟨[.v (.int .i64 k)],120⟩)) (some (.v (.agg ⟨[.int .i64 a,.int .i64 b]⟩),⟨[.v (.int .i64 k)],120⟩)))) (by kernel_rfl) ?_;unfold AN CS bJ;by_cases h:k=0
 ·subst h;by_cases h2:c=0
  ·subst h2;rfl
  ·rw [bne_iff_ne.2 h2,if_neg h2,if_pos rfl];rfl
 ·rw [beq_eq_false_iff_ne.2 h,if_neg h];by_cases h2:c=0
  ·subst h2;rfl
  ·rw [bne_iff_ne.2 h2,if_neg h2];rfl
end
end Go.Proofs.YtmididlfnajhiaaGreatDoor
