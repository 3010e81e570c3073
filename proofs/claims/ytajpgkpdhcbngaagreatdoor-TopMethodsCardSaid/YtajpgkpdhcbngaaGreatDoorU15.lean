/-
  Interpolation for the declination: the altitude. No program here. Interpolation for the declination: the altitude, continued. No program here. Interpolation for the declination: the altitude, the.
-/
import Derived.Test.YtajpgkpdhcbngaaGreatDoorU14
set_option maxRecDepth 100000
set_option maxHeartbeats 4000000
open _root_.Int renaming emod_lt_of_pos→agQ,emod_nonneg→aiQ,le_refl→abJ,lt_or_le→aiJ,mul_nonneg→aeJ
open _root_.Rat renaming intCast_add→acQ,intCast_mul→acX,intCast_neg→afQ,intCast_sub→abZ,le_total→abX,mul_comm→aqJ,mul_eq_zero→anZ,mul_nonneg→aaQ
open Go.IntKind (i64 u64)
namespace Go.Proofs.YtajpgkpdhcbngaaGreatDoor
section
open SM TB TA
theorem CM {q:Rat} (h0:-3000000≤q) (h1:q≤3000000):∃p:Rat,0≤p∧p≤tb*q*(tb*q)/6∧si q=tb*q*(1-p):=by
 have t:=jY;have key:∀q:Rat,0≤q→q≤3000000→∃p:Rat,0≤p∧p≤tb*q*(tb*q)/6∧si q=tb*q*(1-p):=fun q g0 g1=>by
  have c:=TR g0 (by grind);by_cases hq:q=0
  ·subst hq;refine ⟨0,by grind,?_,?_⟩
   ·grind
   ·rw [si_0];grind
  ·have gp:0<tb*q:=Rat.mul_pos (by grind) (by grind);generalize tb*q=X at*;generalize si q=Y at*;have hX:X≠0:=by grind
   have e1:X*(1-Y/X)=X-Y:=by
    have:X*(Y/X)=Y:=by rw [aqJ,Rat.div_mul_cancel hX]
    grind
   have hc:0≤X-Y:=by grind
   have hc2:X-Y≤X*(X*X/6):=by grind
   refine ⟨1-Y/X,?_,?_,?_⟩
   ·rcases (abX:0≤1-Y/X∨1-Y/X≤0) with k | k
    ·exact k
    ·have m:=aaQ (show 0≤X by grind) (show 0≤-(1-Y/X) by grind);have:X*-(1-Y/X)=-(X-Y):=by grind
     have e0:X-Y=0:=by grind
     have e2:X*(1-Y/X)=0:=by grind
     rcases anZ.1 e2 with k | k
     ·exact absurd k hX
     ·grind
   ·rcases (abX:1-Y/X≤X*X/6∨X*X/6≤1-Y/X) with k | k
    ·exact k
    ·have m:=aaQ (show 0≤X by grind) (show 0≤1-Y/X-X*X/6 by grind);have e2:X*(1-Y/X-X*X/6)=0:=by grind
     rcases anZ.1 e2 with k | k
     ·exact absurd k hX
     ·grind
   ·have:X*(Y/X)=Y:=by rw [aqJ,Rat.div_mul_cancel hX]
    grind
 rcases (abX:0≤q∨q≤0) with h | h
 ·exact key q h h1
 ·obtain ⟨p,p0,p1,p2⟩:=key (-q) (by grind) (by grind);rw [(gL (q:=q) (by grind) (by grind)).1] at p2;exact ⟨p,p0,by grind,by grind⟩
theorem QG {q:Rat} (h0:-30100≤q) (h1:q≤30100):1-tb*q*(tb*q)/2-qK≤co q∧co q≤1-tb*q*(tb*q)/2+1/1000000000:=by
 have e:=gT;have u:=aY;have ee:e0=1048576*u0:=rfl;have a:=(wZ (q/2) (q/2)).1;rw [show q/2+q/2=q by grind] at a;have un:=nE (q/2);obtain ⟨p,p0,p1,p2⟩:=CM (q:=q/2) (by grind) (by grind);have t:=pF (p:=q/2) (c:=15050) (d:=44/10000) (by grind) (by grind) (by grind);have e1:tb*q=2*(tb*(q/2)):=by grind
 rw [e1];unfold Cl at a un;generalize tb*(q/2)=X at*;generalize si (q/2)=Y at*;generalize co (q/2)=Z at*;have hx:=aB (a:=X) (b:=X) (A:=44/10000) (B:=44/10000) (by grind) (by grind) (by grind) (by grind);have hx0:=fC X;have hy:Y*Y=X*X*(1-p)*(1-p):=by rw [p2];grind
 have m1:=aaQ hx0 p0;have m2:=aaQ hx0 (show 0≤X*X/6-p by grind);have m3:=aaQ hx0 (aaQ p0 (show 0≤2-p by grind));have m4:=aaQ hx0 (aaQ p0 p0);have hxx:=aaQ hx0 (show 0≤44/10000*(44/10000)-X*X by grind);have ey:X*X*(1-p)*(1-p)=X*X-2*(X*X*p)+X*X*(p*p):=by grind
 have e3:X*X*(p*(2-p))=2*(X*X*p)-X*X*(p*p):=by grind
 have e4:X*X*(X*X/6-p)=X*X*(X*X)/6-X*X*p:=by grind
 have e5:X*X*(44/10000*(44/10000)-X*X)=X*X*(44/10000*(44/10000))-X*X*(X*X):=by grind
 have hy2:Y*Y=X*X-2*(X*X*p)+X*X*(p*p):=hy.trans ey;rw [hy2] at a un;rw [e3] at m3;rw [e4] at m2;rw [e5] at hxx;have e6:2*X*(2*X)=4*(X*X):=by grind
 rw [e6];generalize X*X*(X*X)=W1 at*;generalize X*X*p=W2 at*;generalize X*X*(p*p)=W3 at*;generalize X*X=W4 at*;generalize Z*Z=W5 at*;clear p2 hy hy2 ey e3 e4 e5 e6 e1;constructor<;>grind
theorem brk1 {a b c d A B C D:Rat} (hcd:c*d=a*b) (hd0:1/115≤d) (hd1:d≤1/114) (ha0:-d-qL≤a) (ha1:a≤d+qL) (hb0:-d≤b) (hb1:b≤d) (hc0:-d-qL≤c) (hc1:c≤d+qL)
  (hA:1-a*a/2-qK≤A∧A≤1-a*a/2+1/1000000000) (hB:1-b*b/2-qK≤B∧B≤1-b*b/2+1/1000000000) (hC:1-c*c/2-qK≤C∧C≤1-c*c/2+1/1000000000) (hD:1-d*d/2-qK≤D∧D≤1-d*d/2+1/1000000000):
  -(d*d/2+1/100000000)≤A*B-C*D∧A*B-C*D≤d*d/2+1/100000000:=by
 have e:=gT;have l:=xP;have sa:=aB (a:=a) (b:=a) (A:=1/113) (B:=1/113) (by grind) (by grind) (by grind) (by grind);have sb:=aB (a:=b) (b:=b) (A:=1/113) (B:=1/113) (by grind) (by grind) (by grind) (by grind);have sc:=aB (a:=c) (b:=c) (A:=1/113) (B:=1/113) (by grind) (by grind) (by grind) (by grind);have sd:=aB (a:=d) (b:=d) (A:=1/113) (B:=1/113) (by grind) (by grind) (by grind) (by grind);have a0:=fC a;have b0:=fC b;have c0:=fC c;have d0:=fC d;have dlow:1/115*(1/115)≤d*d:=by
  have:=aaQ (show 0≤d-1/115 by grind) (show 0≤d+1/115 by grind);grind
 have key:d*d*(c*c+d*d-a*a-b*b)=(d*d-a*a)*(d*d-b*b):=by
  have:d*d*(c*c)=a*b*(a*b):=by rw [←hcd];grind
  grind
 have ea:a*a≤d*d+qL:=by
  have:=aaQ (show 0≤d+qL-a by grind) (show 0≤d+qL+a by grind);have m:=aaQ (show 0≤qL by grind) (show 0≤1/4-d by grind);have m2:=aaQ (show 0≤qL by grind) (show 0≤1/4-qL by grind);grind
 have eb:b*b≤d*d:=by
  have:=aaQ (show 0≤d-b by grind) (show 0≤d+b by grind);grind
 obtain ⟨Q,hQ⟩:∃Q,Q=c*c+d*d-a*a-b*b:=⟨_,rfl⟩;have hQ1:Q≤d*d:=by
  rcases (abX:Q≤d*d∨d*d≤Q) with k | k
  ·exact k
  ·have m1:=aaQ (show 0≤d*d by grind) (show 0≤Q-d*d by grind);have m2:=aaQ a0 (show 0≤d*d-b*b by grind);have m3:=aaQ d0 b0;rw [←hQ] at key;have e1:d*d*(Q-d*d)=-(a*a*(d*d-b*b))-d*d*(b*b):=by grind
   have e2:d*d*(Q-d*d)=0:=by grind
   rcases anZ.1 e2 with k | k<;>grind
 have hQ0:-(1/1000000000000)≤Q:=by
  rcases (abX:-(1/1000000000000)≤Q∨Q≤-(1/1000000000000)) with k | k
  ·exact k
  ·rw [←hQ] at key;have m1:=aaQ (show 0≤d*d-1/115*(1/115) by grind) (show 0≤-Q by grind);have m2:=aaQ (show 0≤d*d-b*b by grind) (show 0≤d*d+qL-a*a by grind);have m3:=aaQ (show 0≤qL by grind) (show 0≤1-(d*d-b*b) by grind);generalize a*a=a2 at*;generalize b*b=b2 at*;generalize d*d=d2 at*;clear hcd hA hB hC hD;grind
 have AB1:=aB (a:=A-(1-a*a/2)) (b:=B) (A:=1/1000000000) (B:=2) (by grind) (by grind) (by grind) (by grind);have AB2:=aB (a:=1-a*a/2) (b:=B-(1-b*b/2)) (A:=2) (B:=1/1000000000) (by grind) (by grind) (by grind) (by grind);have CD1:=aB (a:=C-(1-c*c/2)) (b:=D) (A:=1/1000000000) (B:=2) (by grind) (by grind) (by grind) (by grind);have CD2:=aB (a:=1-c*c/2) (b:=D-(1-d*d/2)) (A:=2) (B:=1/1000000000) (by grind) (by grind) (by grind) (by grind);have eAB:A*B-C*D=(A-(1-a*a/2))*B+(1-a*a/2)*(B-(1-b*b/2))-(C-(1-c*c/2))*D-(1-c*c/2)*(D-(1-d*d/2))+(c*c+d*d-a*a-b*b)/2+(a*a*(b*b)-c*c*(d*d))/4:=by grind
 have ez:a*a*(b*b)-c*c*(d*d)=0:=by
  have:c*c*(d*d)=a*b*(a*b):=by rw [←hcd];grind
  grind
 rw [eAB,ez,←hQ];generalize (A-(1-a*a/2))*B=V1 at*;generalize (1-a*a/2)*(B-(1-b*b/2))=V2 at*;generalize (C-(1-c*c/2))*D=V3 at*;generalize (1-c*c/2)*(D-(1-d*d/2))=V4 at*;clear key hQ eAB ez hcd hA hB hC hD;constructor<;>grind
end
section
open SM TB TA
theorem brk2 {a b c d A B C D p1 p2 p3 p4:Rat} (hcd:c*d=a*b) (hd0:1/115≤d) (hd1:d≤1/114) (hc:-d-qL≤c∧c≤d+qL)
  (q1:0≤p1∧p1≤1/77000) (q2:0≤p2∧p2≤1/77000) (q3:0≤p3∧p3≤1/77000) (q4:0≤p4∧p4≤1/77000) (hA:A=a*(1-p1)) (hB:B=b*(1-p2)) (hC:C=c*(1-p3)) (hD:D=d*(1-p4)):
  -(d*(229/1000000000))≤A*B-C*D∧A*B-C*D≤d*(229/1000000000):=by
 have l:=xP;have e:A*B-C*D=c*d*((1-p1)*(1-p2)-(1-p3)*(1-p4)):=by
  rw [hA,hB,hC,hD];have:a*(1-p1)*(b*(1-p2))=a*b*((1-p1)*(1-p2)):=by grind
  rw [this,←hcd];grind
 have v:-(2/77000)≤(1-p1)*(1-p2)-(1-p3)*(1-p4)∧(1-p1)*(1-p2)-(1-p3)*(1-p4)≤2/77000:=by
  have m1:=aaQ q1.1 q2.1;have m2:=aaQ q3.1 q4.1;have m3:=aaQ q1.1 (show 0≤1-p2 by grind);have m4:=aaQ q3.1 (show 0≤1-p4 by grind);constructor<;>grind
 rw [e];generalize (1-p1)*(1-p2)-(1-p3)*(1-p4)=V at*;have w:=aB (a:=c) (b:=V) (A:=10/1139) (B:=2/77000) (by grind) (by grind) v.1 v.2;have e2:c*d*V=d*(c*V):=by grind
 rw [e2];generalize c*V=W at*;have n1:=aaQ (show 0≤d by grind) (show 0≤10/1139*(2/77000)-W by grind);have n2:=aaQ (show 0≤d by grind) (show 0≤10/1139*(2/77000)+W by grind);constructor<;>grind
theorem SD (x y t e:Rat):Cl (20000*u0) (gJ x (y+e) t) (gJ x y t*co e+(si x*co y-co x*si y*co t)*si e):=by
 have a:=wZ y e;have u:=aY;have bx:=cL x;have bt:=cL t;have q:=gF bx.1 bt.1;have v1:=aB (a:=si x) (b:=si (y+e)-(si y*co e+co y*si e)) (A:=2) (B:=1300*u0) bx.2.1 bx.2.2 a.2.1 a.2.2;have v2:=aB (a:=co x*co t) (b:=co (y+e)-(co y*co e-si y*si e)) (A:=4) (B:=1300*u0) q.1 q.2 a.1.1 a.1.2;have i:gJ x (y+e) t-(gJ x y t*co e+(si x*co y-co x*si y*co t)*si e)=si x*(si (y+e)-(si y*co e+co y*si e))+co x*co t*(co (y+e)-(co y*co e-si y*si e)):=by unfold gJ;grind
 unfold Cl;rw [i];generalize si x*(si (y+e)-(si y*co e+co y*si e))=V1 at*;generalize co x*co t*(co (y+e)-(co y*co e-si y*si e))=V2 at*;constructor<;>grind
theorem div_by {c T N:Rat} (hc:9999/10000≤c) (hN:0≤N) (h:-N≤c*T∧c*T≤N):-(N*(1001/1000))≤T∧T≤N*(1001/1000):=by
 constructor
 ·rcases (abX:-(N*(1001/1000))≤T∨T≤-(N*(1001/1000))) with k | k
  ·exact k
  ·have m:=aaQ (show 0≤c-9999/10000 by grind) (show 0≤-T by grind);grind
 ·rcases (abX:T≤N*(1001/1000)∨N*(1001/1000)≤T) with k | k
  ·exact k
  ·have m:=aaQ (show 0≤c-9999/10000 by grind) (show 0≤T by grind);grind
theorem cut_d {d Z n:Rat} (hd:1/115≤d) (h:-(d*n)≤d*Z∧d*Z≤d*n):-n≤Z∧Z≤n:=by
 constructor
 ·rcases (abX:-n≤Z∨Z≤-n) with q | q
  ·exact q
  ·have m:=aaQ (show 0≤d by grind) (show 0≤-n-Z by grind);have e:d*(-n-Z)=0:=by grind
   rcases anZ.1 e with k | k<;>grind
 ·rcases (abX:Z≤n∨n≤Z) with q | q
  ·exact q
  ·have m:=aaQ (show 0≤d by grind) (show 0≤Z-n by grind);have e:d*(Z-n)=0:=by grind
   rcases anZ.1 e with k | k<;>grind
theorem dec_sin {x t y w h0 z0 h1 z1 h z a:Rat} (S0:dE x y t h0 z0) (S1:dE x (y+60000) t h1 z1) (S:dE x (y+w) t h z) (w0:0≤w) (w1:w≤60000)
  (ha:-a≤si ((h0+h1)/2)∧si ((h0+h1)/2)≤a) (ha1:a≤101/100):-(tb*(1312/10*a+9/10))≤si h-si (h0+(h1-h0)*w/60000)∧si h-si (h0+(h1-h0)*w/60000)≤tb*(1312/10*a+9/10):=by
 have e:=gT;have l:=xP;have u:=aY;have ee:e0=1048576*u0:=rfl;have t0:=jY;have D:=QX S0 S1 (by grind);obtain ⟨F,hF⟩:∃F,F=gJ x (y+30000) t:=⟨_,rfl⟩;obtain ⟨G,hG⟩:∃G,G=si x*co (y+30000)-co x*si (y+30000)*co t:=⟨_,rfl⟩;have L0:=SD x (y+30000) t (-30000);have L1:=SD x (y+30000) t 30000;have L:=SD x (y+30000) t (w-30000);rw [show y+30000+-30000=y by grind,(gL (q:=30000) (by grind) (by grind)).1,(gL (q:=30000) (by grind) (by grind)).2] at L0;rw [show y+30000+30000=y+60000 by grind] at L1;rw [show y+30000+(w-30000)=y+w by grind] at L;rw [←hF,←hG] at L0 L1 L;have s0:=S0.2.2.2.2.1;have s1:=S1.2.2.2.2.1;have s:=S.2.2.2.2.1;obtain ⟨H,hH⟩:∃H,H=(h0+h1)/2:=⟨_,rfl⟩;obtain ⟨δ,hδ⟩:∃δ,δ=(h1-h0)/2:=⟨_,rfl⟩;obtain ⟨g,hg⟩:∃g,g=w-30000:=⟨_,rfl⟩;rw [←hH] at ha;rw [←hg] at L;have f1:=(wZ H δ).2;have f0:=(qH H δ).2;rw [show H+δ=h1 by rw [hH,hδ];grind] at f1;rw [show H-δ=h0 by rw [hH,hδ];grind] at f0;have f:=(wZ H (g*δ/30000)).2;rw [show H+g*δ/30000=h0+(h1-h0)*w/60000 by rw [hH,hδ,hg];grind] at f;have bδ:-30000-qL≤δ∧δ≤30000+qL:=by rw [hδ];constructor<;>grind
 have bg:-30000≤g∧g≤30000:=by rw [hg];constructor<;>grind
 have bγ:-30000-qL≤g*δ/30000∧g*δ/30000≤30000+qL:=by
  have:=aB (a:=g) (b:=δ) (A:=30000) (B:=30000+qL) bg.1 bg.2 (by grind) bδ.2;constructor<;>grind
 clear D S0 S1 S hF hG hH hδ hg;have hγ:tb*(g*δ/30000)*(tb*30000)=tb*δ*(tb*g):=by grind
 generalize g*δ/30000=γ at*;generalize h0+(h1-h0)*w/60000= ℓ at*;have cδ:=QG (q:=δ) (by grind) (by grind);have cg:=QG (q:=g) (by grind) (by grind);have cγ:=QG (q:=γ) (by grind) (by grind);have cd:=QG (q:=30000) (by grind) (by grind);obtain ⟨p1,p1a,p1b,sδ⟩:=CM (q:=δ) (by grind) (by grind);obtain ⟨p2,p2a,p2b,sg⟩:=CM (q:=g) (by grind) (by grind);obtain ⟨p3,p3a,p3b,sγ⟩:=CM (q:=γ) (by grind) (by grind);obtain ⟨p4,p4a,p4b,sd⟩:=CM (q:=30000) (by grind) (by grind);have tl:∀q:Rat,-30000-qL≤q→q≤30000+qL→-(tb*30000)-qL≤tb*q∧tb*q≤tb*30000+qL:=fun q g0 g1=>by
  have m1:=aaQ (show 0≤tb by grind) (show 0≤30000+qL-q by grind);have m2:=aaQ (show 0≤tb by grind) (show 0≤30000+qL+q by grind);have m3:=aaQ (show 0≤1-tb by grind) (show 0≤qL by grind);constructor<;>grind
 have tδ:=tl δ bδ.1 bδ.2;have tγ:=tl γ bγ.1 bγ.2;have tg:-(tb*30000)≤tb*g∧tb*g≤tb*30000:=by
  have m1:=aaQ (show 0≤tb by grind) (show 0≤30000-g by grind);have m2:=aaQ (show 0≤tb by grind) (show 0≤30000+g by grind);constructor<;>grind
 have d0:1/115≤tb*30000∧tb*30000≤1/114:=by constructor<;>grind
 have sm:∀X:Rat,-(tb*30000)-qL≤X→X≤tb*30000+qL→X*X/6≤1/77000:=fun X g0 g1=>by
  have:=aB (a:=X) (b:=X) (A:=10001/1140000) (B:=10001/1140000) (by grind) (by grind) (by grind) (by grind);grind
 have B1:=brk1 hγ d0.1 d0.2 tδ.1 tδ.2 tg.1 tg.2 tγ.1 tγ.2 cδ cg cγ cd;have B2:=brk2 hγ d0.1 d0.2 ⟨tγ.1,tγ.2⟩ ⟨p1a,by have:=sm _ tδ.1 tδ.2;grind⟩ ⟨p2a,by have:=sm _ (show -(tb*30000)-qL≤tb*g by grind) (show tb*g≤tb*30000+qL by grind);grind⟩ ⟨p3a,by have:=sm _ tγ.1 tγ.2;grind⟩ ⟨p4a,by have:=sm _ (show -(tb*30000)-qL≤tb*30000 by grind) (show tb*30000≤tb*30000+qL by grind);grind⟩ sδ sg sγ sd;have hs30:si 30000=tb*30000*(1-p4):=sd;have hp4:p4≤1/77000:=by have:=sm _ (show -(tb*30000)-qL≤tb*30000 by grind) (show tb*30000≤tb*30000+qL by grind);grind
 have hc30:9999/10000≤co 30000:=by
  have:=aB (a:=tb*30000) (b:=tb*30000) (A:=1/114) (B:=1/114) (by grind) d0.2 (by grind) d0.2;grind
 have hcg:-2≤co g∧co g≤2:=(cL g).1;have hsg:-2≤si g∧si g≤2:=(cL g).2;have oH:=lG H;have F1:Cl (qK/4) (F*co 30000) (si H*co δ):=by
  unfold Cl at*;clear B1 B2 sm tl tδ tγ tg cδ cg cγ cd hγ;constructor<;>grind
 have G1:Cl (qK/4) (G*si 30000) (co H*si δ):=by
  unfold Cl at*;clear B1 B2 sm tl tδ tγ tg cδ cg cγ cd hγ;constructor<;>grind
 have vF:=aB (a:=co g) (b:=F*co 30000-si H*co δ) (A:=2) (B:=qK/4) hcg.1 hcg.2 F1.1 F1.2;have vG:=aB (a:=si g) (b:=G*si 30000-co H*si δ) (A:=2) (B:=qK/4) hsg.1 hsg.2 G1.1 G1.2;have n1:=aB (a:=si H) (b:=co δ*co g-co γ*co 30000) (A:=a) (B:=tb*30000*(tb*30000)/2+1/100000000) ha.1 ha.2 B1.1 B1.2;have n2:=aB (a:=co H) (b:=si δ*si g-si γ*si 30000) (A:=101/100) (B:=tb*30000*(229/1000000000)) oH.1.1 oH.1.2 B2.1 B2.2;have e1:co 30000*(F*co g-si H*co γ)=co g*(F*co 30000-si H*co δ)+si H*(co δ*co g-co γ*co 30000):=by grind
 have e2:si 30000*(G*si g-co H*si γ)=si g*(G*si 30000-co H*si δ)+co H*(si δ*si g-si γ*si 30000):=by grind
 have a0:0≤a:=by grind
 have dd:tb*30000*(tb*30000)/2+1/100000000≤tb*(13095/100):=by
  have:=aaQ (show 0≤tb by grind) (show 0≤1/3437740-tb by grind);grind
 have m1:=aaQ a0 (show 0≤tb*(13095/100)-(tb*30000*(tb*30000)/2+1/100000000) by grind);have T1:=div_by (c:=co 30000) (T:=F*co g-si H*co γ) (N:=tb*(13095/100)*a+qK) hc30 (by have:=aaQ (show 0≤tb*(13095/100) by grind) a0;grind) (by
  rw [e1];generalize co g*(F*co 30000-si H*co δ)=V1 at*;generalize si H*(co δ*co g-co γ*co 30000)=V2 at*;clear B1 B2 sm tl tδ tγ tg cδ cg cγ cd hγ e1 e2 n2 vG L L0 L1 f f0 f1 s s0 s1;constructor<;>grind)
 have T2:=div_by (c:=1-p4) (T:=G*si g-co H*si γ) (N:=232/1000000000) (by grind) (by grind) (by
  have k:-(tb*30000*(2319/10000000000))≤tb*30000*((1-p4)*(G*si g-co H*si γ))∧tb*30000*((1-p4)*(G*si g-co H*si γ))≤tb*30000*(2319/10000000000):=by
   have e3:tb*30000*((1-p4)*(G*si g-co H*si γ))=si 30000*(G*si g-co H*si γ):=by rw [hs30];grind
   rw [e3,e2];generalize si g*(G*si 30000-co H*si δ)=V1 at*;generalize co H*(si δ*si g-si γ*si 30000)=V2 at*;clear B1 B2 sm tl tδ tγ tg cδ cg cγ cd hγ e1 e2 n1 vF L L0 L1 f f0 f1 s s0 s1 T1 m1 dd;constructor<;>grind
  have z:=cut_d d0.1 k;exact ⟨Rat.le_trans (by decide+kernel) z.1,Rat.le_trans z.2 (by decide+kernel)⟩)
 have ta0:=aaQ (show 0≤tb by grind) a0;clear B1 B2 sm tl tδ tγ tg cδ cg cγ cd hγ e1 e2 n1 n2 vF vG F1 G1 L0 L1 f0 f1 s0 s1 m1 dd;unfold Cl at*;have eT1:tb*(13095/100)*a=13095/100*(tb*a):=by grind
 have eT2:tb*(1312/10*a+9/10)=1312/10*(tb*a)+9/10*tb:=by grind
 rw [eT1] at T1;rw [eT2];generalize tb*a=A at*;have eS:si h-si ℓ=(si h-gJ x (y+w) t)+(gJ x (y+w) t-(F*co g+G*si g))+(F*co g-si H*co γ)+(G*si g-co H*si γ)-(si ℓ-(si H*co γ+co H*si γ)):=by grind
 rw [eS];generalize F*co g-si H*co γ=Z1 at*;generalize G*si g-co H*si γ=Z2 at*;generalize si h-gJ x (y+w) t=Z3 at*;generalize gJ x (y+w) t-(F*co g+G*si g)=Z4 at*;generalize si ℓ-(si H*co γ+co H*si γ)=Z5 at*;clear eS eT1 eT2 hc30 hcg hsg oH hs30 sd sδ sg sγ;constructor<;>grind
end
section
open SM TB TA
theorem co_mono {p q:Rat} (h0:-q≤p) (h1:p≤q) (h2:q≤5400000):co q≤co p+20*e0:=by
 have u:=aY;have ee:e0=1048576*u0:=rfl;have key:∀p:Rat,0≤p→p≤q→co q≤co p+20*e0:=fun p g0 g1=>by
  have g:=JE (p:=5400000-q) (q:=5400000-p) (by grind) (by grind) (by grind);have c1:=(yY p).1;have c2:=(yY q).1;have sq:=fC (5400000-p-(5400000-q));unfold Cl at c1 c2;generalize (5400000-p-(5400000-q))*(5400000-p-(5400000-q))=W at*;grind
 rcases (abX:0≤p∨p≤0) with k | k
 ·exact key p k h1
 ·have:=key (-p) (by grind) (by grind);rwa [(gL (q:=p) (by grind) (by grind)).2] at this
theorem si_mono {p q:Rat} (h0:-q≤p) (h1:p≤q) (h2:q≤5400000):-(si q+20*e0)≤si p∧si p≤si q+20*e0:=by
 have u:=aY;have ee:e0=1048576*u0:=rfl;have key:∀p:Rat,-q≤p→p≤q→si p≤si q+20*e0:=fun p g0 g1=>by
  have g:=JE (p:=p) (q:=q) (by grind) g1 h2;have sq:=fC (q-p);generalize (q-p)*(q-p)=W at*;grind
 have k:=key (-p) (by grind) (by grind);rw [(gL (q:=p) (by grind) (by grind)).1] at k;exact ⟨by grind,key p h0 h1⟩
theorem ang_of {h ℓ B C:Rat} (hd:-130000≤h- ℓ∧h- ℓ≤130000) (hB:0≤B) (hB1:B≤200) (hs:-(tb*B)≤si h-si ℓ∧si h-si ℓ≤tb*B) (hC:C≤co ((h+ ℓ)/2)) (hC0:1/21≤C) (hC1:C≤101/100):
  -(B+1/1000)≤(h- ℓ)*C∧(h- ℓ)*C≤B+1/1000:=by
 have e:=gT;have u:=aY;have ee:e0=1048576*u0:=rfl;have t0:=jY;have f:=(diff ((h+ ℓ)/2) ((h- ℓ)/2)).1;rw [show (h+ ℓ)/2+(h- ℓ)/2=h by grind,show (h+ ℓ)/2-(h- ℓ)/2= ℓ by grind] at f;obtain ⟨p,p0,p1,p2⟩:=CM (q:=(h- ℓ)/2) (by grind) (by grind);rw [p2] at f;have ed:h- ℓ=2*((h- ℓ)/2):=by grind
 rw [ed] at hd ⊢;generalize (h- ℓ)/2=d at*;generalize co ((h+ ℓ)/2)=X at*;generalize si h-si ℓ=S at*;have k:-(B+1/1000000)≤2*(X*(d*(1-p)))∧2*(X*(d*(1-p)))≤B+1/1000000:=by
  unfold Cl at f;have ef:2*(X*(tb*d*(1-p)))=tb*(2*(X*(d*(1-p)))):=by grind
  rw [ef] at f;generalize 2*(X*(d*(1-p)))=Y at*;constructor
  ·rcases (abX:-(B+1/1000000)≤Y∨Y≤-(B+1/1000000)) with q | q
   ·exact q
   ·have m:=aaQ (show 0≤tb-1/3437750 by grind) (show 0≤-(B+1/1000000)-Y by grind);have m2:=aaQ (show 0≤tb by grind) (show 0≤-(B+1/1000000)-Y by grind);clear m p2 hd p1;grind
  ·rcases (abX:Y≤B+1/1000000∨B+1/1000000≤Y) with q | q
   ·exact q
   ·have m2:=aaQ (show 0≤tb by grind) (show 0≤Y-(B+1/1000000) by grind);clear p2 hd p1;grind
 clear f hs p2;have tm:=pF (p:=d) (c:=65000) (d:=2/100) (by grind) (by grind) (by grind);have ts:=aB (a:=tb*d) (b:=tb*d) (A:=2/100) (B:=2/100) tm.1 tm.2 tm.1 tm.2;have hp:p≤1/10000:=by grind
 have coarse:-3000≤d∧d≤3000:=by
  generalize hy:d*(1-p)=y at*;have ky:-(21*201)≤2*y∧2*y≤21*201:=by
   constructor
   ·rcases (abX:-(21*201)≤2*y∨2*y≤-(21*201)) with q | q
    ·exact q
    ·have m:=aaQ (show 0≤X-1/21 by grind) (show 0≤-(2*y) by grind);grind
   ·rcases (abX:2*y≤21*201∨21*201≤2*y) with q | q
    ·exact q
    ·have m:=aaQ (show 0≤X-1/21 by grind) (show 0≤2*y by grind);grind
  constructor
  ·rcases (abX:-3000≤d∨d≤-3000) with q | q
   ·exact q
   ·have m:=aaQ (show 0≤1/10000-p by grind) (show 0≤-d by grind);grind
  ·rcases (abX:d≤3000∨3000≤d) with q | q
   ·exact q
   ·have m:=aaQ (show 0≤1/10000-p by grind) (show 0≤d by grind);grind
 have tm2:=pF (p:=d) (c:=3000) (d:=9/10000) coarse.1 coarse.2 (by grind);have ts2:=aB (a:=tb*d) (b:=tb*d) (A:=9/10000) (B:=9/10000) tm2.1 tm2.2 tm2.1 tm2.2;have hp2:p≤14/100000000:=by grind
 have dp:=aB (a:=d) (b:=p) (A:=3000) (B:=14/100000000) coarse.1 coarse.2 (by grind) hp2;have ey:d*(1-p)=d-d*p:=by grind
 rw [ey] at k;generalize d*p=W at*;clear ey p1 ts ts2 tm tm2;constructor
 ·rcases (abX:0≤d-W∨d-W≤0) with q | q
  ·have m:=aaQ (show 0≤C by grind) q;have m2:=aB (a:=C) (b:=W) (A:=101/100) (B:=3000*(14/100000000)) (by grind) hC1 dp.1 dp.2;grind
  ·have m:=aaQ (show 0≤X-C by grind) (show 0≤-(d-W) by grind);have m2:=aB (a:=C) (b:=W) (A:=101/100) (B:=3000*(14/100000000)) (by grind) hC1 dp.1 dp.2;grind
 ·rcases (abX:0≤d-W∨d-W≤0) with q | q
  ·have m:=aaQ (show 0≤X-C by grind) q;have m2:=aB (a:=C) (b:=W) (A:=101/100) (B:=3000*(14/100000000)) (by grind) hC1 dp.1 dp.2;grind
  ·have m:=aaQ (show 0≤C by grind) (show 0≤-(d-W) by grind);have m2:=aB (a:=C) (b:=W) (A:=101/100) (B:=3000*(14/100000000)) (by grind) hC1 dp.1 dp.2;grind
theorem dec_h {x t y w M h0 z0 h1 z1 h z:Rat} (S0:dE x y t h0 z0) (S1:dE x (y+60000) t h1 z1) (S:dE x (y+w) t h z) (w0:0≤w) (w1:w≤60000)
  (hM:-M≤h0∧h0≤M∧-M≤h1∧h1≤M) (hM1:M≤5040100):
  -(131*si (M+60000))≤(h-(h0+(h1-h0)*w/60000))*co (M+60000)∧(h-(h0+(h1-h0)*w/60000))*co (M+60000)≤131*si (M+60000):=by
 have e:=gT;have l:=xP;have u:=aY;have ee:e0=1048576*u0:=rfl;have t0:=jY;have ha1:si (M+30000)+20*e0≤101/100:=by
  have b:=(LO (M+30000)).2.2;generalize si (M+30000)=X at*;clear S0 S1 S hM;grind
 have D0:=QX S0 S (by grind);have D1:=QX S0 S1 (by grind);obtain ⟨ℓ,hℓ⟩:∃ℓ,ℓ=h0+(h1-h0)*w/60000:=⟨_,rfl⟩;have bl:-M≤ ℓ∧ ℓ≤M:=by
  have m1:=aaQ w0 (show 0≤M-h1 by grind);have m2:=aaQ (show 0≤60000-w by grind) (show 0≤M-h0 by grind);have m3:=aaQ w0 (show 0≤M+h1 by grind);have m4:=aaQ (show 0≤60000-w by grind) (show 0≤M+h0 by grind);rw [hℓ];constructor<;>grind
 have bd: ℓ-h0≤60001∧h0- ℓ≤60001:=by
  have:=aB (a:=h1-h0) (b:=w) (A:=60001) (B:=60000) (by grind) (by grind) (by grind) w1;rw [hℓ];constructor<;>grind
 have sH:=si_mono (p:=(h0+h1)/2) (q:=M+30000) (by grind) (by grind) (by grind);have oM:=lG (M+30000);have om:=lG (M+60000);have ds:=dec_sin (a:=si (M+30000)+20*e0) S0 S1 S w0 w1 sH ha1;rw [←hℓ] at ds ⊢;have hC:co (M+30000+qL)-20*e0≤co ((h+ ℓ)/2):=by
  have:=co_mono (p:=(h+ ℓ)/2) (q:=M+30000+qL) (by grind) (by grind) (by grind);grind
 have lC:=(lipA (p:=M+30000+qL) (q:=M+30000) (d:=qL) (by grind) (by grind) (by grind)).1;have cM:=uF (h:=M+30000) (by grind) (by grind);have s0:0≤si (M+30000):=gG (by grind) (by grind);have hCC:co (M+30000)-1/10000000≤co ((h+ ℓ)/2):=by
  unfold Cl at lC;generalize co (M+30000+qL)=W at*;grind
 clear lC hC;have an:=ang_of (h:=h) (ℓ:= ℓ) (B:=1312/10*(si (M+30000)+20*e0)+9/10) (C:=co (M+30000)-1/10000000) (by constructor<;>grind) (by grind) (by grind) ds hCC (by grind) (by grind);have sb:=(qH (M+60000) (M+30000)).2;rw [show M+60000-(M+30000)=30000 by grind] at sb;have s30:=(TR (q:=30000) (by grind) (by grind)).1;have t30:1/115≤tb*30000∧tb*30000≤1/114:=by constructor<;>grind
 have c30:tb*30000*(tb*30000)*(tb*30000)/6≤1/8000000:=by
  have:=aB (a:=tb*30000) (b:=tb*30000) (A:=1/114) (B:=1/114) (by grind) t30.2 (by grind) t30.2;have:=aB (a:=tb*30000*(tb*30000)) (b:=tb*30000) (A:=1/114*(1/114)) (B:=1/114) this.1 this.2 (by grind) t30.2;grind
 have hs30:8725/1000000≤si 30000:=by grind
 have cm0:=uF (h:=M+60000) (by grind) (by grind);have un:=nE (M+60000);have sm:=si_mono (p:=M+30000) (q:=M+60000) (by grind) (by grind) (by grind);clear ds hCC D0 D1 S0 S1 S hℓ s30 c30 t30 sH bl bd;generalize h- ℓ=Y at*;generalize co (M+30000)=C at*;generalize si (M+30000)=s at*;generalize co (M+60000)=c at*;generalize si (M+60000)=m at*;have sc:s*c≤6/10:=by
  have q1:=fC (s-c);have q2:=fC (m-s);have q3:=aaQ (show 0≤m+20*e0-s by grind) (show 0≤m+20*e0+s by grind);unfold Cl at un;have e1:(s-c)*(s-c)=s*s-2*(s*c)+c*c:=by grind
  have e2:(m+20*e0-s)*(m+20*e0+s)=m*m-s*s+40*(e0*(m+10*e0)):=by grind
  have q4:=aB (a:=e0) (b:=m+10*e0) (A:=e0) (B:=3) (by grind) (by grind) (by grind) (by grind);rw [e1] at q1;rw [e2] at q3;generalize e0*(m+10*e0)=W1 at*;generalize s*c=W2 at*;generalize s*s=W3 at*;generalize c*c=W4 at*;generalize m*m=W5 at*;grind
 have b1:1312/10*(s+20*e0)+9/10+1/1000≤1312/10*s+902/1000:=by grind
 have key:∀Z:Rat,Z*(C-1/10000000)≤1312/10*(s+20*e0)+9/10+1/1000→Z≤1000000→Z*c≤131*m:=fun Z hZ hZ1=>by
  have m1:=aaQ (show 0≤c by grind) (show 0≤1312/10*s+902/1000-Z*(C-1/10000000) by grind);unfold Cl at sb;rcases (abX:Z*c≤131*m∨131*m≤Z*c) with q | q
  ·exact q
  ·exfalso;have m2:=aaQ (show 0≤C by grind) (show 0≤Z*c-131*m by grind);have m3:=aB (a:=Z) (b:=c) (A:=1000000) (B:=101/100) (by
    rcases (abX:0≤Z∨Z≤0) with k | k
    ·grind
    ·have:=aaQ (show 0≤c by grind) (show 0≤-Z by grind);grind) hZ1 (by grind) (by grind)
   have e1:c*(1312/10*s+902/1000-Z*(C-1/10000000))=1312/10*(s*c)+902/1000*c-c*Z*C+Z*c/10000000:=by grind
   have e2:C*(Z*c-131*m)=c*Z*C-131*(m*C):=by grind
   rw [e1] at m1;rw [e2] at m2;rw [show c*s=s*c by grind] at sb;generalize c*Z*C=W1 at*;generalize Z*c=W2 at*;generalize s*c=W3 at*;generalize m*C=W4 at*;clear e1 e2 an un sm;grind
 have c1:=an.1;have c2:=an.2;have k1:=key Y (by grind) (by
  rcases (abX:Y≤1000000∨1000000≤Y) with q | q
  ·exact q
  ·have m:=aaQ (show 0≤C-1/10000000-1/21 by grind) (show 0≤Y by grind);clear key sb un sc;grind)
 have k2:=key (-Y) (by grind) (by
  rcases (abX:-Y≤1000000∨1000000≤-Y) with q | q
  ·exact q
  ·have m:=aaQ (show 0≤C-1/10000000-1/21 by grind) (show 0≤-Y by grind);clear key sb un sc;grind)
 exact ⟨by grind,k1⟩
end
section
open SM TB TA
theorem XA {q:Rat} (h:1/2^60≤co q):∃k:Int,-5400000≤q+21600000*(k:Rat)∧q+21600000*(k:Rat)≤5400000∧si (q+21600000*(k:Rat))=si q∧co (q+21600000*(k:Rat))=co q:=by
 have e:q+21600000*((-tm q:Int):Rat)=jB q:=by
  unfold jB;rw [afQ];grind
 have tq:=eQ q (-tm q);rw [e] at tq;have b:=qF q;refine ⟨-tm q,?_,?_,?_,?_⟩
 ·rw [e];rcases (abX:-5400000≤jB q∨jB q≤-5400000) with k | k
  ·exact k
  ·exfalso;have s:=gG (q:=-(jB q+5400000)) (by grind) (by grind);have n:=(gL (q:=jB q+5400000) (by grind) (by grind)).1;have c:=(yY (-jB q)).1;have c2:=(vK (jB q)).1;have u:=aY;rw [show 5400000- -jB q=jB q+5400000 by grind] at c;rw [←tq.1] at h;unfold Cl at c c2;grind
 ·rw [e];rcases (abX:jB q≤5400000∨5400000≤jB q) with k | k
  ·exact k
  ·exfalso;have s:=gG (q:=jB q-5400000) (by grind) (by grind);have n:=(gL (q:=jB q-5400000) (by grind) (by grind)).1;have c:=(yY (jB q)).1;have u:=aY;rw [show -(jB q-5400000)=5400000-jB q by grind] at n;rw [←tq.1] at h;unfold Cl at c;grind
 ·rw [e];exact tq.2
 ·rw [e];exact tq.1
theorem comb (x y t w:Rat):Cl qK (si 60000*gS x (y+w) t) (si (60000-w)*gS x y t+si w*gS x (y+60000) t)∧Cl qK (si 60000*iQ (y+w) t) (si (60000-w)*iQ y t+si w*iQ (y+60000) t):=by
 have e:=gT;have u:=aY;have ee:e0=1048576*u0:=rfl;have a:=wZ y w;have b:=wZ y 60000;have c:=(qH 60000 w).2;have bx:=cL x;have by':=cL y;have bt:=cL t;have bw:=cL w;have bD:=cL 60000;have C1:Cl (40000*u0) (si 60000*co (y+w)) (si (60000-w)*co y+si w*co (y+60000)):=by
  have v1:=aB (a:=si 60000) (b:=co (y+w)-(co y*co w-si y*si w)) (A:=2) (B:=1300*u0) bD.2.1 bD.2.2 a.1.1 a.1.2;have v2:=aB (a:=co y) (b:=si (60000-w)-(si 60000*co w-co 60000*si w)) (A:=2) (B:=8000*u0) by'.1.1 by'.1.2 c.1 c.2;have v3:=aB (a:=si w) (b:=co (y+60000)-(co y*co 60000-si y*si 60000)) (A:=2) (B:=1300*u0) bw.2.1 bw.2.2 b.1.1 b.1.2;have i:si 60000*co (y+w)-(si (60000-w)*co y+si w*co (y+60000))=si 60000*(co (y+w)-(co y*co w-si y*si w))-co y*(si (60000-w)-(si 60000*co w-co 60000*si w))-si w*(co (y+60000)-(co y*co 60000-si y*si 60000)):=by grind
  unfold Cl;rw [i];generalize si 60000*(co (y+w)-(co y*co w-si y*si w))=V1 at*;generalize co y*(si (60000-w)-(si 60000*co w-co 60000*si w))=V2 at*;generalize si w*(co (y+60000)-(co y*co 60000-si y*si 60000))=V3 at*;clear a b c i;constructor<;>grind
 have S1:Cl (40000*u0) (si 60000*si (y+w)) (si (60000-w)*si y+si w*si (y+60000)):=by
  have v1:=aB (a:=si 60000) (b:=si (y+w)-(si y*co w+co y*si w)) (A:=2) (B:=1300*u0) bD.2.1 bD.2.2 a.2.1 a.2.2;have v2:=aB (a:=si y) (b:=si (60000-w)-(si 60000*co w-co 60000*si w)) (A:=2) (B:=8000*u0) by'.2.1 by'.2.2 c.1 c.2;have v3:=aB (a:=si w) (b:=si (y+60000)-(si y*co 60000+co y*si 60000)) (A:=2) (B:=1300*u0) bw.2.1 bw.2.2 b.2.1 b.2.2;have i:si 60000*si (y+w)-(si (60000-w)*si y+si w*si (y+60000))=si 60000*(si (y+w)-(si y*co w+co y*si w))-si y*(si (60000-w)-(si 60000*co w-co 60000*si w))-si w*(si (y+60000)-(si y*co 60000+co y*si 60000)):=by grind
  unfold Cl;rw [i];generalize si 60000*(si (y+w)-(si y*co w+co y*si w))=V1 at*;generalize si y*(si (60000-w)-(si 60000*co w-co 60000*si w))=V2 at*;generalize si w*(si (y+60000)-(si y*co 60000+co y*si 60000))=V3 at*;clear a b c i;constructor<;>grind
 have q:=gF bt.1 bx.2;have n1:=aB (a:=co x) (b:=si 60000*si (y+w)-(si (60000-w)*si y+si w*si (y+60000))) (A:=2) (B:=40000*u0) bx.1.1 bx.1.2 S1.1 S1.2;have n2:=aB (a:=co t*si x) (b:=si 60000*co (y+w)-(si (60000-w)*co y+si w*co (y+60000))) (A:=4) (B:=40000*u0) q.1 q.2 C1.1 C1.2;have n3:=aB (a:=si t) (b:=si 60000*co (y+w)-(si (60000-w)*co y+si w*co (y+60000))) (A:=2) (B:=40000*u0) bt.2.1 bt.2.2 C1.1 C1.2;have iN:si 60000*gS x (y+w) t-(si (60000-w)*gS x y t+si w*gS x (y+60000) t)=co x*(si 60000*si (y+w)-(si (60000-w)*si y+si w*si (y+60000)))-co t*si x*(si 60000*co (y+w)-(si (60000-w)*co y+si w*co (y+60000))):=by unfold gS;grind
 have iE:si 60000*iQ (y+w) t-(si (60000-w)*iQ y t+si w*iQ (y+60000) t)=-(si t*(si 60000*co (y+w)-(si (60000-w)*co y+si w*co (y+60000)))):=by unfold iQ;grind
 unfold Cl;rw [iN,iE];clear iN iE C1 S1 a b c;generalize co x*(si 60000*si (y+w)-(si (60000-w)*si y+si w*si (y+60000)))=V1 at*;generalize co t*si x*(si 60000*co (y+w)-(si (60000-w)*co y+si w*co (y+60000)))=V2 at*;generalize si t*(si 60000*co (y+w)-(si (60000-w)*co y+si w*co (y+60000)))=V3 at*;refine ⟨⟨by grind,by grind⟩,by grind,by grind⟩
theorem PR {ρ z N E m:Rat} (hρ:-2≤ρ∧ρ≤2) (hn:Cl eT (ρ*co z) N) (he:Cl eT (ρ*si z) E):Cl (qK/16) (ρ*co (z-m)) (N*co m+E*si m)∧Cl (qK/16) (ρ*si (z-m)) (E*co m-N*si m):=by
 have e:=gT;have u:=aY;have ee:e0=1048576*u0:=rfl;have s:=qH z m;have bm:=cL m;have v1:=aB (a:=ρ) (b:=co (z-m)-(co z*co m+si z*si m)) (A:=2) (B:=8000*u0) hρ.1 hρ.2 s.1.1 s.1.2;have v2:=aB (a:=ρ) (b:=si (z-m)-(si z*co m-co z*si m)) (A:=2) (B:=8000*u0) hρ.1 hρ.2 s.2.1 s.2.2;have v3:=aB (a:=co m) (b:=ρ*co z-N) (A:=2) (B:=eT) bm.1.1 bm.1.2 hn.1 hn.2;have v4:=aB (a:=si m) (b:=ρ*si z-E) (A:=2) (B:=eT) bm.2.1 bm.2.2 he.1 he.2;have v5:=aB (a:=co m) (b:=ρ*si z-E) (A:=2) (B:=eT) bm.1.1 bm.1.2 he.1 he.2;have v6:=aB (a:=si m) (b:=ρ*co z-N) (A:=2) (B:=eT) bm.2.1 bm.2.2 hn.1 hn.2;have i1:ρ*co (z-m)-(N*co m+E*si m)=ρ*(co (z-m)-(co z*co m+si z*si m))+co m*(ρ*co z-N)+si m*(ρ*si z-E):=by grind
 have i2:ρ*si (z-m)-(E*co m-N*si m)=ρ*(si (z-m)-(si z*co m-co z*si m))+co m*(ρ*si z-E)-si m*(ρ*co z-N):=by grind
 unfold Cl;rw [i1,i2];clear i1 i2 hn he s;generalize ρ*(co (z-m)-(co z*co m+si z*si m))=V1 at*;generalize ρ*(si (z-m)-(si z*co m-co z*si m))=V2 at*;generalize co m*(ρ*co z-N)=V3 at*;generalize si m*(ρ*si z-E)=V4 at*;generalize co m*(ρ*si z-E)=V5 at*;generalize si m*(ρ*co z-N)=V6 at*;refine ⟨⟨by grind,by grind⟩,by grind,by grind⟩
theorem QH {x t y w h0 z0 h1 z1 h z:Rat} (S0:dE x y t h0 z0) (S1:dE x (y+60000) t h1 z1) (S:dE x (y+w) t h z) (m:Rat):
  Cl (8*qK) (si 60000*(co h*co (z-m))) (si (60000-w)*(co h0*co (z0-m))+si w*(co h1*co (z1-m)))∧Cl (8*qK) (si 60000*(co h*si (z-m))) (si (60000-w)*(co h0*si (z0-m))+si w*(co h1*si (z1-m))):=by
 have e:=gT;obtain ⟨cN,cE⟩:=comb x y t w;have b:=PR (m:=m) (cL h).1 S.2.2.2.2.2.1 S.2.2.2.2.2.2;have b0:=PR (m:=m) (cL h0).1 S0.2.2.2.2.2.1 S0.2.2.2.2.2.2;have b1:=PR (m:=m) (cL h1).1 S1.2.2.2.2.2.1 S1.2.2.2.2.2.2;have bm:=cL m;have bD:=(cL 60000).2;have b2:=(cL (60000-w)).2;have b3:=(cL w).2;generalize gS x (y+w) t=N at*;generalize iQ (y+w) t=E at*;generalize gS x y t=N0 at*;generalize iQ y t=E0 at*;generalize gS x (y+60000) t=N1 at*;generalize iQ (y+60000) t=E1 at*;clear S S0 S1;have key:∀{P P0 P1 V V0 V1:Rat},Cl (qK/16) P V→Cl (qK/16) P0 V0→Cl (qK/16) P1 V1→Cl (4*qK) (si 60000*V) (si (60000-w)*V0+si w*V1)→Cl (8*qK) (si 60000*P) (si (60000-w)*P0+si w*P1):=fun {P P0 P1 V V0 V1} p p0 p1 q=>by
  have v:=aB (a:=si 60000) (b:=P-V) (A:=2) (B:=qK/16) bD.1 bD.2 p.1 p.2;have v0:=aB (a:=si (60000-w)) (b:=P0-V0) (A:=2) (B:=qK/16) b2.1 b2.2 p0.1 p0.2;have v1:=aB (a:=si w) (b:=P1-V1) (A:=2) (B:=qK/16) b3.1 b3.2 p1.1 p1.2;have i:si 60000*P-(si (60000-w)*P0+si w*P1)=si 60000*(P-V)-si (60000-w)*(P0-V0)-si w*(P1-V1)+(si 60000*V-(si (60000-w)*V0+si w*V1)):=by grind
  unfold Cl at*;rw [i];generalize si 60000*(P-V)=A1 at*;generalize si (60000-w)*(P0-V0)=A2 at*;generalize si w*(P1-V1)=A3 at*;generalize si 60000*V-(si (60000-w)*V0+si w*V1)=A4 at*;constructor<;>grind
 have n1:=aB (a:=co m) (b:=si 60000*N-(si (60000-w)*N0+si w*N1)) (A:=2) (B:=qK) bm.1.1 bm.1.2 cN.1 cN.2;have n2:=aB (a:=si m) (b:=si 60000*E-(si (60000-w)*E0+si w*E1)) (A:=2) (B:=qK) bm.2.1 bm.2.2 cE.1 cE.2;have n3:=aB (a:=co m) (b:=si 60000*E-(si (60000-w)*E0+si w*E1)) (A:=2) (B:=qK) bm.1.1 bm.1.2 cE.1 cE.2;have n4:=aB (a:=si m) (b:=si 60000*N-(si (60000-w)*N0+si w*N1)) (A:=2) (B:=qK) bm.2.1 bm.2.2 cN.1 cN.2;refine ⟨key b.1 b0.1 b1.1 ?_,key b.2 b0.2 b1.2 ?_⟩
 ·have i:si 60000*(N*co m+E*si m)-(si (60000-w)*(N0*co m+E0*si m)+si w*(N1*co m+E1*si m))=co m*(si 60000*N-(si (60000-w)*N0+si w*N1))+si m*(si 60000*E-(si (60000-w)*E0+si w*E1)):=by grind
  unfold Cl;rw [i];generalize co m*(si 60000*N-(si (60000-w)*N0+si w*N1))=A1 at*;generalize si m*(si 60000*E-(si (60000-w)*E0+si w*E1))=A2 at*;constructor<;>grind
 ·have i:si 60000*(E*co m-N*si m)-(si (60000-w)*(E0*co m-N0*si m)+si w*(E1*co m-N1*si m))=co m*(si 60000*E-(si (60000-w)*E0+si w*E1))-si m*(si 60000*N-(si (60000-w)*N0+si w*N1)):=by grind
  unfold Cl;rw [i];generalize co m*(si 60000*E-(si (60000-w)*E0+si w*E1))=A1 at*;generalize si m*(si 60000*N-(si (60000-w)*N0+si w*N1))=A2 at*;constructor<;>grind
theorem si_nn {q:Rat} (h0:0≤q) (h1:q≤10800000):-qK≤si q:=by
 have e:=gT;have u:=aY;have ee:e0=1048576*u0:=rfl;rcases (abX:q≤5400000∨5400000≤q) with c | c
 ·have:=gG h0 c;grind
 ·have:=gG (q:=10800000-q) (by grind) (by grind);have r:=EB q;unfold Cl at r;grind
theorem KB:2^60*qK≤1/2^200:=by decide+kernel
theorem wW {q:Rat} (h0:-5400000≤q) (h:-(2^30*qK)≤si q):-(1/2^200)≤q:=by
 have e:=KB;have t:=jY;rcases (abX:0≤q∨q≤0) with k | k
 ·grind
 ·have s:=(iW (q:=-q) (by grind) (by grind)).1;rw [(gL (q:=q) (by grind) (by grind)).1] at s;have m:-q/3437750≤tb*-q:=by
   have:=aaQ (show 0≤tb-1/3437750 by grind) (show 0≤-q by grind);grind
  grind
theorem dec_z {x t y w h0 z0 h1 z1 h z m v:Rat} (S0:dE x y t h0 z0) (S1:dE x (y+60000) t h1 z1) (S:dE x (y+w) t h z) (w0:0≤w) (w1:w≤60000)
  (c0:1/20≤co h0) (c1:1/20≤co h1) (c:1/20≤co h) (v0:0≤v) (v1:v≤5399999+3/5) {k0 k1:Int}
  (a0:-v≤z0+21600000*(k0:Rat)-m∧z0+21600000*(k0:Rat)-m≤v) (a1:-v≤z1+21600000*(k1:Rat)-m∧z1+21600000*(k1:Rat)-m≤v):
  ∃k:Int,-(v+1/2^200)≤z+21600000*(k:Rat)-m∧z+21600000*(k:Rat)-m≤v+1/2^200:=by
 have e:=gT;have es:=KB;have u:=aY;have ee:e0=1048576*u0:=rfl;have t0:=jY;have bh:=(cL h).1;have bh0:=(cL h0).1;have bh1:=(cL h1).1;have s0:=gG (q:=60000-w) (by grind) (by grind);have s1:=gG (q:=w) (by grind) (by grind);have b0:=(cL (60000-w)).2.2;have b1:=(cL w).2.2;have sD:=iW (q:=60000) (by grind) (by grind);have tD:1/60≤tb*60000∧tb*60000≤1/50:=by constructor<;>grind
 have hs:1/300≤si (60000-w)∨1/300≤si w:=by
  rcases (abX:w≤30000∨30000≤w) with k | k
  ·have p:=(iW (q:=60000-w) (by grind) (by grind)).1;have m:=aaQ (show 0≤tb by grind) (show 0≤60000-w-30000 by grind);left;grind
  ·have p:=(iW (q:=w) (by grind) (by grind)).1;have m:=aaQ (show 0≤tb by grind) (show 0≤w-30000 by grind);right;grind
 have sh:∀(q:Rat) (k:Int) (n:Rat),co (q+21600000*(k:Rat)-n)=co (q-n)∧si (q+21600000*(k:Rat)-n)=si (q-n):=fun q k n=>by
  have:=eQ (q-n) k;rwa [show q-n+21600000*(k:Rat)=q+21600000*(k:Rat)-n by grind] at this
 have hco:1/2^60≤co (z-m):=by
  have C:=(QH S0 S1 S m).1;have g0:=IE (q:=z0+21600000*(k0:Rat)-m) (d:=5400000-v) (by grind) (by grind) (by grind) (by grind) (by grind);have g1:=IE (q:=z1+21600000*(k1:Rat)-m) (d:=5400000-v) (by grind) (by grind) (by grind) (by grind) (by grind);rw [(sh z0 k0 m).1] at g0;rw [(sh z1 k1 m).1] at g1;have hv:=aaQ (show 0≤tb-1/3437750 by grind) (show 0≤5400000-v by grind);have f0:1/2^25≤co (z0-m):=by grind
  have f1:1/2^25≤co (z1-m):=by grind
  have p0:=aaQ (show 0≤co h0-1/20 by grind) (show 0≤co (z0-m) by grind);have p1:=aaQ (show 0≤co h1-1/20 by grind) (show 0≤co (z1-m) by grind);have q0:1/2^30≤co h0*co (z0-m):=by grind
  have q1:1/2^30≤co h1*co (z1-m):=by grind
  clear g0 g1 hv f0 f1 p0 p1 S S0 S1 sh a0 a1;generalize co h0*co (z0-m)=P0 at*;generalize co h1*co (z1-m)=P1 at*;have r0:=aaQ s0 (show 0≤P0-1/2^30 by grind);have r1:=aaQ s1 (show 0≤P1-1/2^30 by grind);have lo:1/2^39≤si (60000-w)*P0+si w*P1:=by
   rcases hs with k | k<;>grind
  unfold Cl at C;have lo2:1/2^40≤si 60000*(co h*co (z-m)):=by grind
  clear C lo r0 r1;generalize co (z-m)=X at*;generalize si 60000=D at*;generalize co h=R at*;rcases (abX:1/2^60≤X∨X≤1/2^60) with k | k
  ·exact k
  ·exfalso;have hD:0≤D:=by grind
   have m1:=aaQ (aaQ hD (show 0≤R by grind)) (show 0≤1/2^60-X by grind);have m2:=aB (a:=D) (b:=R) (A:=1/50) (B:=2) (by grind) (by grind) (by grind) (by grind);have e1:D*R*(1/2^60-X)=D*R/2^60-D*(R*X):=by grind
   grind
 obtain ⟨k,l0,l1,ls,lc⟩:=XA hco;have el:z-m+21600000*(k:Rat)=z+21600000*(k:Rat)-m:=by grind
 rw [el] at l0 l1 ls;have two:∀X0 X1 X:Rat,-qK≤X0→-qK≤X1→Cl (8*qK) (si 60000*(co h*X)) (si (60000-w)*(co h0*X0)+si w*(co h1*X1))→-(2^30*qK)≤X:=fun X0 X1 X x0 x1 hX=>by
  have m0:=aaQ (show 0≤co h0 by grind) (show 0≤X0+qK by grind);have m1:=aaQ (show 0≤co h1 by grind) (show 0≤X1+qK by grind);have g0:=aaQ (show 0≤qK by grind) (show 0≤2-co h0 by grind);have g1:=aaQ (show 0≤qK by grind) (show 0≤2-co h1 by grind);have y0:-(2*qK)≤co h0*X0:=by grind
  have y1:-(2*qK)≤co h1*X1:=by grind
  generalize co h0*X0=Y0 at*;generalize co h1*X1=Y1 at*;have n0:=aaQ s0 (show 0≤Y0+2*qK by grind);have n1:=aaQ s1 (show 0≤Y1+2*qK by grind);have f0:=aaQ (show 0≤qK by grind) (show 0≤2-si (60000-w) by grind);have f1:=aaQ (show 0≤qK by grind) (show 0≤2-si w by grind);unfold Cl at hX;have lo:-(16*qK)≤si 60000*(co h*X):=by grind
  rcases (abX:-(2^30*qK)≤X∨X≤-(2^30*qK)) with q | q
  ·exact q
  ·exfalso;have p1:=aaQ (show 0≤si 60000-1/120 by grind) (show 0≤co h-1/20 by grind);have p2:1/2400≤si 60000*co h:=by grind
   have p3:=aaQ (show 0≤si 60000*co h-1/2400 by grind) (show 0≤-X by grind);have e1:si 60000*(co h*X)=si 60000*co h*X:=by grind
   rw [e1] at lo;generalize si 60000*co h=R at*;grind
 refine ⟨k,?_,?_⟩
 ·have L:=(QH S0 S1 S (m-v)).2;rw [←(sh z0 k0 (m-v)).2,←(sh z1 k1 (m-v)).2,←(sh z k (m-v)).2] at L;have n0:=si_nn (q:=z0+21600000*(k0:Rat)-(m-v)) (by grind) (by grind);have n1:=si_nn (q:=z1+21600000*(k1:Rat)-(m-v)) (by grind) (by grind);have:=wW (q:=z+21600000*(k:Rat)-(m-v)) (by grind) (two _ _ _ n0 n1 L);grind
 ·have L:=(QH S0 S1 S (m+v)).2;rw [←(sh z0 k0 (m+v)).2,←(sh z1 k1 (m+v)).2,←(sh z k (m+v)).2] at L;have n0:=si_nn (q:=v-(z0+21600000*(k0:Rat)-m)) (by grind) (by grind);have n1:=si_nn (q:=v-(z1+21600000*(k1:Rat)-m)) (by grind) (by grind);have f:∀q:Rat,-10800000<v-(q-m)→v-(q-m)<10800000→si (q-(m+v))=-si (v-(q-m)):=fun q g0 g1=>by
   have:=(gL (q:=v-(q-m)) g0 g1).1;rwa [show -(v-(q-m))=q-(m+v) by grind] at this
  rw [f _ (by grind) (by grind),f _ (by grind) (by grind),f _ (by grind) (by grind)] at L;have L':Cl (8*qK) (si 60000*(co h*si (v-(z+21600000*(k:Rat)-m)))) (si (60000-w)*(co h0*si (v-(z0+21600000*(k0:Rat)-m)))+si w*(co h1*si (v-(z1+21600000*(k1:Rat)-m)))):=by
   have:=L.neg;unfold Cl at this ⊢;constructor<;>grind
  have:=wW (q:=v-(z+21600000*(k:Rat)-m)) (by grind) (two _ _ _ n0 n1 L');grind
end
section
open SM TB TA
open Ev (lt bG)
theorem dnI_eq {a b:Int} (hb:0<b) (h1:-4611686018427387904≤a) (h2:a≤4611686018427387904):NG a b=a/b:=by
 have t:=GD a b 4611686018427387904 h1 h2;have s:=AW a b;unfold NG;rw [bR (x:=Int.tdiv a b) (by omega),bR (x:=Int.tdiv a b-1) (by omega),RD a b hb];by_cases c:a.tmod b<0
 ·rw [decide_eq_true c,if_pos (by omega)];rfl
 ·rw [decide_eq_false c,if_neg (by omega)];rfl
theorem upI_eq {a b:Int} (hb:0<b) (h1:-4611686018427387903≤a) (h2:a≤4611686018427387903):upI a b=-((-a)/b):=by
 unfold upI;rw [bR (x:=0-a) (by omega),dnI_eq hb (by omega) (by omega),show 0-a=-a by omega];have d:=ediv_bd (x:=-a) (d:=b) (m:=4611686018427387903) (by omega) (by omega) (by omega);rw [bR (x:=0- -a/b) (by omega)];omega
theorem fl_c {a b:Int} (hb:0<b):((a/b:Int):Rat)*(b:Rat)≤(a:Rat):=by
 have:=aV (Int.ediv_mul_le a (b:=b) (by omega));rwa [acX] at this
theorem ce_c {a b:Int} (hb:0<b):(a:Rat)≤((-((-a)/b):Int):Rat)*(b:Rat):=by
 have:=fl_c (a:=-a) hb;rw [afQ] at this ⊢;grind
theorem XF {p q P Q:Int} (h1:-P≤p) (h2:p≤P) (h3:-Q≤q) (h4:q≤Q):p*q≤P*Q∧-(P*Q)≤p*q:=by
 have a:=aeJ (show 0≤P-p by omega) (show 0≤Q+q by omega);have b:=aeJ (show 0≤P+p by omega) (show 0≤Q-q by omega);have c:=aeJ (show 0≤P-p by omega) (show 0≤Q-q by omega);have d:=aeJ (show 0≤P+p by omega) (show 0≤Q+q by omega);have e:(P-p)*(Q+q)+(P+p)*(Q-q)=2*(P*Q)-2*(p*q):=by grind
 have f:(P-p)*(Q-q)+(P+p)*(Q+q)=2*(P*Q)+2*(p*q):=by grind
 omega
def B9 (a:Int):Prop:=-1000000000≤a∧a≤1000000000
theorem kat_eq {a b c d u:Int} (ha:B9 a) (hb:B9 b) (hc:B9 c) (hd:B9 d) (u0:0≤u) (u1:u≤60000):
  LQ a b c d u=((a*(60000-u)+c*u)/60000,-((-(b*(60000-u)+d*u))/60000))∧-60000000000000≤a*(60000-u)+c*u∧a*(60000-u)+c*u≤60000000000000∧-60000000000000≤b*(60000-u)+d*u∧b*(60000-u)+d*u≤60000000000000:=by
 unfold B9 at*;have m:∀p q:Int,-1000000000≤p→p≤1000000000→0≤q→-(1000000000*q)≤p*q∧p*q≤1000000000*q:=fun p q h1 h2 h3=>by
  have a:=aeJ (show 0≤1000000000-p by omega) h3;have b:=aeJ (show 0≤1000000000+p by omega) h3;constructor<;>grind
 have m1:=m a (60000-u) ha.1 ha.2 (by omega);have m2:=m b (60000-u) hb.1 hb.2 (by omega);have m3:=m c u hc.1 hc.2 u0;have m4:=m d u hd.1 hd.2 u0;unfold LQ;rw [bR (x:=60000-u) (by omega)];generalize a*(60000-u)=A at*;generalize b*(60000-u)=B at*;generalize c*u=C at*;generalize d*u=D at*;rw [bR (x:=A) (by omega),bR (x:=B) (by omega),bR (x:=C) (by omega),bR (x:=D) (by omega),bR (x:=A+C) (by omega),bR (x:=B+D) (by omega)];rw [dnI_eq (by omega) (by omega) (by omega),upI_eq (by omega) (by omega) (by omega)];refine ⟨rfl,?_⟩;omega
theorem RV {a b c d u:Int} {e X Y:Rat} (ha:B9 a) (hb:B9 b) (hc:B9 c) (hd:B9 d) (u0:0≤u) (u1:u≤60000) (hX:Hs e a b X) (hY:Hs e c d Y):
  Hs e (LQ a b c d u).1 (LQ a b c d u).2 (X+(Y-X)*(u:Rat)/60000)∧-1000000001≤(LQ a b c d u).1∧(LQ a b c d u).2≤1000000001∧(LQ a b c d u).1≤1000000001∧-1000000001≤(LQ a b c d u).2:=by
 obtain ⟨k,b1,b2,b3,b4⟩:=kat_eq ha hb hc hd u0 u1;rw [k];dsimp only;have f:=fl_c (a:=a*(60000-u)+c*u) (b:=60000) (by omega);have g:=ce_c (a:=b*(60000-u)+d*u) (b:=60000) (by omega);have z:((60000:Int):Rat)=60000:=rfl;have q0:=aV u0;have q1:=aV u1;rw [show ((0:Int):Rat)=0 by rfl] at q0;rw [z] at f g q1;rw [acQ,acX,acX,abZ,z] at f g;refine ⟨?_,by omega,by omega,by omega,by omega⟩;unfold Hs at*;have m1:=aaQ (show 0≤X-(a:Rat)+e by grind) (show 0≤60000-(u:Rat) by grind);have m2:=aaQ (show 0≤Y-(c:Rat)+e by grind) q0;have m3:=aaQ (show 0≤(b:Rat)+e-X by grind) (show 0≤60000-(u:Rat) by grind);have m4:=aaQ (show 0≤(d:Rat)+e-Y by grind) q0;generalize (((a*(60000-u)+c*u)/60000:Int):Rat)=L at*;generalize ((-((-(b*(60000-u)+d*u))/60000):Int):Rat)=H at*;generalize (u:Rat)=U at*;generalize (a:Rat)=A at*;generalize (b:Rat)=B at*;generalize (c:Rat)=C at*;generalize (d:Rat)=D at*;clear k b1 b2 b3 b4 hX hY;constructor<;>grind
theorem mnx (a:Int):mn a a=a∧mx a a=a:=by
 unfold mn mx;constructor<;>split<;>rfl
theorem RX {a b c d u by':Int} {e f B X Y Z:Rat} (ha:B9 a) (hb:B9 b) (hc:B9 c) (hd:B9 d) (u0:0≤u) (u1:u≤60000) (hX:Hs e a b X) (hY:Hs e c d Y) (y0:0≤by') (y1:by'≤1099511627776)
  (hB:B≤(by':Rat)) (hZ:Cl (B+f) Z (X+(Y-X)*(u:Rat)/60000)):Hs (e+f) (EX a b c d u u by').1 (EX a b c d u u by').2 Z∧EX a b c d u u by'=((LQ a b c d u).1-by',(LQ a b c d u).2+by'):=by
 obtain ⟨k,b1,b2,b3,b4⟩:=RV ha hb hc hd u0 u1 hX hY;have ev:EX a b c d u u by'=((LQ a b c d u).1-by',(LQ a b c d u).2+by'):=by
  unfold EX;simp only [lt];rw [(mnx _).1,(mnx _).2,bR (x:=(LQ a b c d u).1-by') (by omega),bR (x:=(LQ a b c d u).2+by') (by omega)]
 refine ⟨?_,ev⟩;rw [ev];dsimp only;unfold Hs Cl at*;rw [abZ,acQ];generalize X+(Y-X)*(u:Rat)/60000=W at*;constructor<;>grind
theorem F11:F 1 1=2700000∧C 1 1=2700000:=by decide+kernel
theorem bear_wid {yl yh xl xh:Int} (hvy:aN yl yh=true) (hvx:aN xl xh=true) (wy:yh-yl≤30) (wx:xh-xl≤30) (big:100≤xl∨xh≤-100∨100≤yl∨yh≤-100):
  (aX yl yh xl xh).2.1-(aX yl yh xl xh).1≤5400000:=by
 have vx:=iP hvx;have vy:=iP hvy;have ho:dI yl yh xl xh=false:=by
  unfold dI;rw [decide_eq_false_iff_not];omega
 obtain ⟨j,y0,y1,x0,x1,hj,hr,hx0,hx01,hy01,b0,b1,b2⟩:∃(j:Nat) (y0 y1 x0 x1:Int),j≤3∧lT yl yh xl xh j=(y0,y1,x0,x1)∧100≤x0∧x0≤x1∧(y0≤y1∧y1-y0≤30)∧x1≤2147483648∧-2147483648≤y0∧y1≤2147483648:=by
  rcases big with h | h | h | h
  ·exact ⟨0,yl,yh,xl,xh,by omega,rfl,by omega,by omega,by omega,by omega,by omega,by omega⟩
  ·exact ⟨2,-yh,-yl,-xh,-xl,by omega,rfl,by omega,by omega,by omega,by omega,by omega,by omega⟩
  ·exact ⟨1,-xh,-xl,yl,yh,by omega,rfl,by omega,by omega,by omega,by omega,by omega,by omega⟩
  ·exact ⟨3,xl,xh,-yh,-yl,by omega,rfl,by omega,by omega,by omega,by omega,by omega,by omega⟩
 rw [nJ hvx hvy ho hj hr (by omega)];dsimp only;have one:=rO (y0:=y0) (y1:=y1) (x0:=x0) (x1:=x1) (by omega) hx01 hy01.1 b0 b1 b2;have f11:=F11;have lo:0≤AG y0 x0 x1∨(y0<0∧(-2700000≤AG y0 x0 x1∨y1<0)):=by
  by_cases h:0≤y0
  ·left;unfold AG;rw [if_pos h];unfold fl;rw [if_pos h];omega
  ·right;refine ⟨by omega,?_⟩;by_cases h1:y1<0
   ·exact .inr h1
   ·left;have m:=(rT (x:=1) (y:=-1) (u:=x0) (v:=y0) ⟨by omega,by omega,by omega,by omega⟩ ⟨by omega,by omega,by omega,by omega⟩ (by omega)).1;have e:fl 1 (-1)=-2700000:=by
     unfold fl;rw [if_neg (by omega)];have:(-(-1:Int)).toNat=1:=rfl;rw [this,show (1:Int).toNat=1 by rfl,f11.1];rfl
    unfold AG;rw [if_neg h];omega
 have hi:(0≤y1→y0<0→LP y1 x0 x1≤2700000)∧(y1<0→LP y1 x0 x1≤0):=by
  constructor
  ·intro h h0;have m:=(rT (x:=x0) (y:=y1) (u:=1) (v:=1) ⟨by omega,by omega,by omega,by omega⟩ ⟨by omega,by omega,by omega,by omega⟩ (by omega)).2;have e:ce 1 1=2700000:=by
    rw [NA,if_pos (by omega),show (1:Int).toNat=1 by rfl,f11.2];rfl
   unfold LP;rw [if_pos h];omega
  ·intro h;unfold LP;rw [if_neg (by omega),NA,if_neg (by omega)];have:=C_bd (-y1).toNat x1.toNat;omega
 omega
theorem wU {r s:Int×Int×Int} {w v:Int} (h:fJ r) (k:fJ s) (hw:r.2.1-r.1≤w) (hv:s.2.1-s.1≤v):(bF r.1 r.2.1 s.1 s.2.1).2.1-(bF r.1 r.2.1 s.1 s.2.1).1≤w+v+1:=by
 have m:=(aM h k).2.2.2;have ev:bF r.1 r.2.1 s.1 s.2.1=(pN r.1 r.2.1 s.1 s.2.1/1073741824,-(-pM r.1 r.2.1 s.1 s.2.1/1073741824),0):=by
  unfold bF at m ⊢;obtain ⟨hb,hf⟩:=FG m;rw [if_pos hb];exact (JA hf).2
 obtain ⟨h1,h2,h3,h4⟩:=h;obtain ⟨k1,k2,k3,k4⟩:=k;obtain ⟨x,y,hx,hy,e1⟩:=mulL_at r.1 r.2.1 s.1 s.2.1;obtain ⟨x',y',hx',hy',e2⟩:=mulH_at r.1 r.2.1 s.1 s.2.1;have a:=(XF (p:=x') (q:=y'-y) (P:=1073741824) (Q:=v) (by omega) (by omega) (by omega) (by omega)).1;have b:=(XF (p:=x'-x) (q:=y) (P:=w) (Q:=1073741824) (by omega) (by omega) (by omega) (by omega)).1;have d:pM r.1 r.2.1 s.1 s.2.1-pN r.1 r.2.1 s.1 s.2.1≤1073741824*v+w*1073741824:=by
  rw [e1,e2];have:x'*y'-x*y=x'*(y'-y)+(x'-x)*y:=by grind
  omega
 rw [ev];dsimp only;omega
theorem CN {x:Int} (h:aE x x=true):(aK x x).2.1-(aK x x).1≤1:=by
 have e:aK x x=(mK x x,mJ x x,0):=by simp [aK,h]
 rw [e];dsimp only;rw [(FK x).1,(FK x).2];have:=(oG x).1;omega
theorem qS {x:Int} (h:aE x x=true):(aI x x).2.1-(aI x x).1≤1:=by
 have e:aI x x=(mK (x+5400000) (x+5400000),mJ (x+5400000) (x+5400000),0):=by simp [aI,h]
 rw [e];dsimp only;rw [(FK (x+5400000)).1,(FK (x+5400000)).2];have:=(oG (x+5400000)).1;omega
theorem cvec_width {x y t:Int} (h:dV x x y y t t=true):(BO x x y y t t).2.1-(BO x x y y t t).1≤8∧(BM y y t t).2.1-(BM y y t t).1≤3:=by
 obtain ⟨h1,h2,h3⟩:=gA h;have l1:=(bW h1).1;have l2:=(bW h2).1;have s1:=aU l1;have c1:=aW l1;have s2:=aU l2;have c2:=aW l2;have s3:=aU h3;have c3:=aW h3;have wx:=wU c2 c3 (qS l2) (qS h3);have ww:=wU c2 s3 (qS l2) (CN h3);have m3:=wU s2 c1 (CN l2) (qS l1);have m4:=wU (aM c2 c3) s1 wx (CN l1);refine ⟨?_,?_⟩
 ·unfold BO;dsimp only;rw [(wG (aM s2 c1) (aM (aM c2 c3) s1)).1];dsimp only;omega
 ·unfold BM;dsimp only;rw [(wV (aM c2 s3)).1];dsimp only;omega
theorem qT {x y t:Int} (hv:dV x x y y t t=true):∃H1 H2 Z1 Z2:Int,gQ x x y y t t=(H1,H2,Z1,Z2,0)∧qO (H1,H2,0)∧oB (Z1,Z2,0)∧
  ((Z1=0∧Z2=21600000)∨Z2<Z1+21600000)∧∀h z:Rat,dE x y t h z→Hs dS H1 H2 h∧Dr dS Z1 Z2 z∧(1/20≤co h→Z2-Z1≤5400000):=by
 obtain ⟨h1,h2,h3⟩:=gA hv;have l1:=bW h1;have l2:=bW h2;have l3:=cG h3;obtain ⟨k1,k2⟩:=ND hv;have v0:=cup_v hv (Hs.at (abJ x) (by omega)) (Hs.at (abJ y) (by omega)) (Hs.at (abJ t) (by omega));obtain ⟨h',z',s'⟩:=vW x y t;have L:=(up_v v0.1 s').1;have D:=(az_v v0.2.2 v0.2.1 s').1;have a1:xK x x y y t t=zL x x y y t t:=by
  unfold xK BJ;rw [hv];rfl
 have a2:DH x x y y t t=DI x x y y t t:=by
  unfold DH GX;rw [hv];rfl
 have wd:=cvec_width hv;have fo:=wL v0.2.2.2.1 v0.2.1.2.1;obtain ⟨⟨H1,H2,H3⟩,eH⟩:∃H,H=bE (WC x x y y t t).1 (WC x x y y t t).2.1:=⟨_,rfl⟩;obtain ⟨⟨Z1,Z2,Z3⟩,eZ⟩:∃Z,Z=aX (BM y y t t).1 (BM y y t t).2.1 (BO x x y y t t).1 (BO x x y y t t).2.1:=⟨_,rfl⟩;rw [←eH] at L k1;rw [←eZ] at D k2 fo;obtain ⟨q1,q2,q3,q4⟩:=L;obtain ⟨r1,r2,r3,r4,r5⟩:=D;dsimp only at q1 q2 q3 q4 r1 r2 r3 r4 r5 fo;subst q4;subst r5;refine ⟨H1,H2,Z1,Z2,?_,⟨q1,q2,q3,rfl⟩,⟨r1,r2,r3,r4,rfl⟩,fo,?_⟩
 ·unfold gQ BP;rw [a1,a2,k1,k2];have z:((0:Int) != 0)=false:=rfl;simp only [lt,z];rfl
 ·intro h z s;have U:=(up_v v0.1 s).2;have A:=(az_v v0.2.2 v0.2.1 s).2;rw [←eH] at U;rw [←eZ] at A;refine ⟨U,A,fun hc=>?_⟩;have w:=bear_wid v0.2.2.2.1 v0.2.1.2.1 (by omega) (by omega) ?_
  ·rw [←eZ] at w;exact w
  obtain ⟨_,_,_,_,_,cN,cE⟩:=s;have vN:=v0.2.1.2.2;have vE:=v0.2.2.2.2;have e:=gT;obtain ⟨w1,w2,w3,w4,w5,w6,w7,w8,w9,w10,w11⟩:=lv;have un:=nE z;have uu:=aY;have e1s:1000*e1≤1:=by grind
  have eTs:eT≤1/2^60:=by grind
  have big:1/60≤co h*co z∨co h*co z≤-(1/60)∨1/60≤co h*si z∨co h*si z≤-(1/60):=by
   rcases (abX:1/60≤co h*co z∨co h*co z≤1/60) with p1 | p1
   ·exact .inl p1
   rcases (abX:co h*co z≤-(1/60)∨-(1/60)≤co h*co z) with p2 | p2
   ·exact .inr (.inl p2)
   rcases (abX:1/60≤co h*si z∨co h*si z≤1/60) with p3 | p3
   ·exact .inr (.inr (.inl p3))
   rcases (abX:co h*si z≤-(1/60)∨-(1/60)≤co h*si z) with p4 | p4
   ·exact .inr (.inr (.inr p4))
   exfalso;have m1:=aB (a:=co h*co z) (b:=co h*co z) (A:=1/60) (B:=1/60) p2 p1 p2 p1;have m2:=aB (a:=co h*si z) (b:=co h*si z) (A:=1/60) (B:=1/60) p4 p3 p4 p3;have i1:co h*co z*(co h*co z)+co h*si z*(co h*si z)=co h*co h*(co z*co z+si z*si z):=by grind
   have b:=lG h;have g1:=aaQ (show 0≤co h-1/20 by grind) (show 0≤co h+1/20 by grind);unfold Cl at un;have V0:1/400≤co h*co h:=by grind
   have g2:=aaQ (fC (co h)) (show 0≤co z*co z+si z*si z-9/10 by grind);have m3:co h*co z*(co h*co z)+co h*si z*(co h*si z)≤1/60*(1/60)+1/60*(1/60):=by
    clear i1 g1 un p1 p2 p3 p4 b cN cE vN vE V0 g2;generalize co h*co z*(co h*co z)=Q1 at*;generalize co h*si z*(co h*si z)=Q2 at*;grind
   rw [i1] at m3;generalize co z*co z+si z*si z=W at*;generalize co h*co h=V at*;clear m1 m2 i1 g1 un p1 p2 p3 p4 b cN cE vN vE;grind
  unfold Cl at cN cE;unfold Hs at vN vE;have c4:∀{a b:Int},(a:Rat)+1≤(b:Rat)→a<b:=fun {a b} h=>by
   rcases aiJ a b with q | q
   ·exact q
   ·have:=aV q;grind
  rcases big with p | p | p | p
  ·left;have:120<(BO x x y y t t).2.1:=c4 (by rw [show ((120:Int):Rat)=120 by rfl];grind);omega
  ·right;left;have:(BO x x y y t t).1< -120:=c4 (by rw [show ((-120:Int):Rat)=-120 by rfl];grind);omega
  ·right;right;left;have:105<(BM y y t t).2.1:=c4 (by rw [show ((105:Int):Rat)=105 by rfl];grind);omega
  ·right;right;right;have:(BM y y t t).1< -105:=c4 (by rw [show ((-105:Int):Rat)=-105 by rfl];grind);omega
end
section
open SM TB TA
open Ev (lt bG)
theorem OE (a b:Int):mn a b≤a∧mn a b≤b:=by
 unfold mn;split<;>omega
theorem OG (a b:Int):a≤mx a b∧b≤mx a b:=by
 unfold mx;split<;>omega
theorem quo_ok {a b c d n:Int} (h:(nB a b c d n).2.2=0):fS a b c d=true∧pI c d=false∧nB a b c d n=(KH a b c d n,CI a b c d n,0)∧SW (KH a b c d n)=true∧SW (CI a b c d n)=true:=by
 unfold nB at h ⊢;by_cases h1:fS a b c d=true
 ·rw [if_pos h1] at h ⊢;cases h2:pI c d with
  | true=>rw [h2,if_pos rfl] at h;cases h
  | false=>
   rw [h2,if_neg (by simp)] at h;rw [if_neg (by simp)];by_cases h3:SW (KH a b c d n)=true∧SW (CI a b c d n)=true
   ·rw [if_pos h3];exact ⟨h1,rfl,rfl,h3.1,h3.2⟩
   ·rw [if_neg h3] at h;cases h
 ·rw [if_neg h1] at h;cases h
theorem quo_hs {a b c d n:Int} {A C e:Rat} (n0:0≤n) (n1:n≤60000) (h:(nB a b c d n).2.2=0) (hA:Hs e a b A) (hC:Hs e c d C) (hC0:50000000≤C) (he:0≤e) (he1:e≤1/2^100):
  (((nB a b c d n).1:Rat)-2^20*e)*C≤(n:Rat)*A∧(n:Rat)*A≤(((nB a b c d n).2.1:Rat)+2^20*e)*C:=by
 obtain ⟨h1,h2,h3,h4,h5⟩:=quo_ok h;rw [h3];dsimp only;have f4:=of_decide_eq_true h4;have f5:=of_decide_eq_true h5;have z:=of_decide_eq_false h2;unfold Hs at hA hC;have d0:0<d:=by
  rcases aiJ 0 d with q | q
  ·exact q
  ·have:=aV q;rw [show ((0:Int):Rat)=0 by rfl] at this;grind
 have c0:0<c:=by omega
 have fq:∀P d:Int,0<d→WO P d=P/d:=fun P d h=>by unfold WO;rw [if_neg (by omega)]
 have L1:KH a b c d n≤(a*n)/c∧KH a b c d n≤(a*n)/d:=by
  unfold KH;rw [fq _ c c0,fq _ d d0,fq _ c c0,fq _ d d0];have m1:=OE (mn (mn (mn (a*n/c) (a*n/c)) (a*n/d)) (b*n/c)) (b*n/d);have m2:=OE (mn (mn (a*n/c) (a*n/c)) (a*n/d)) (b*n/c);have m3:=OE (mn (a*n/c) (a*n/c)) (a*n/d);have m4:=OE (a*n/c) (a*n/c);omega
 have H1:-((-(b*n))/c)≤CI a b c d n∧-((-(b*n))/d)≤CI a b c d n:=by
  unfold CI ceQ;rw [fq _ c c0,fq _ d d0,fq _ c c0,fq _ d d0];have m1:=OG (mx (mx (mx (-(-(a*n)/c)) (-(-(a*n)/c))) (-(-(a*n)/d))) (-(-(b*n)/c))) (-(-(b*n)/d));have m2:=OG (mx (mx (-(-(a*n)/c)) (-(-(a*n)/c))) (-(-(a*n)/d))) (-(-(b*n)/c));omega
 have key:∀(L a d:Int),0<d→L≤(a*n)/d→(L:Rat)*(d:Rat)≤(n:Rat)*(a:Rat):=fun L a d hd hL=>by
  have p:=fl_c (a:=a*n) hd;have q:=aV hL;have r:=aV (show 0≤d by omega);rw [show ((0:Int):Rat)=0 by rfl] at r;rw [acX] at p;have m:=aaQ (show 0≤((a*n/d:Int):Rat)-(L:Rat) by grind) r;grind
 have keyH:∀(H b d:Int),0<d→-((-(b*n))/d)≤H→(n:Rat)*(b:Rat)≤(H:Rat)*(d:Rat):=fun H b d hd hH=>by
  have p:=ce_c (a:=b*n) hd;have q:=aV hH;have r:=aV (show 0≤d by omega);rw [show ((0:Int):Rat)=0 by rfl] at r;rw [acX] at p;have m:=aaQ (show 0≤(H:Rat)-((-((-(b*n))/d):Int):Rat) by grind) r;grind
 have l1:=key _ _ _ c0 L1.1;have l2:=key _ _ _ d0 L1.2;have g1:=keyH _ _ _ c0 H1.1;have g2:=keyH _ _ _ d0 H1.2;have i1:=aV f4.1;have i2:=aV f4.2;have i3:=aV f5.1;have i4:=aV f5.2;rw [show ((-1099511627776:Int):Rat)=-1099511627776 by rfl] at i1 i3;rw [show ((1099511627776:Int):Rat)=1099511627776 by rfl] at i2 i4;have w0:=aV n0;have w1:=aV n1;rw [show ((0:Int):Rat)=0 by rfl] at w0;rw [show ((60000:Int):Rat)=60000 by rfl] at w1;clear key keyH fq L1 H1 h3 h4 h5 f4 f5;generalize (KH a b c d n:Rat)=L at*;generalize (CI a b c d n:Rat)=H at*;generalize (n:Rat)=N at*;generalize (a:Rat)=a' at*;generalize (b:Rat)=b' at*;generalize (c:Rat)=c' at*;generalize (d:Rat)=d' at*;have o1:=aaQ w0 (show 0≤A+e-a' by grind);have o2:=aaQ w0 (show 0≤b'+e-A by grind);have o3:=aaQ he (show 0≤60000-N by grind);have n1:=aaQ he (show 0≤1099511627776-L by grind);have n2:=aaQ he (show 0≤1099511627776+L by grind);have n3:=aaQ he (show 0≤1099511627776-H by grind);have n4:=aaQ he (show 0≤1099511627776+H by grind);have n5:=aaQ he (show 0≤C-50000000 by grind);constructor
 ·rcases (abX:0≤L∨L≤0) with k | k
  ·have m:=aaQ k (show 0≤d'+e-C by grind);grind
  ·have m:=aaQ (show 0≤-L by grind) (show 0≤C-(c'-e) by grind);grind
 ·rcases (abX:0≤H∨H≤0) with k | k
  ·have m:=aaQ k (show 0≤C-(c'-e) by grind);grind
  ·have m:=aaQ (show 0≤-H by grind) (show 0≤d'+e-C by grind);grind
def wR (x Z1 Z2:Int):Int×Int×Int:=bF (aI x x).1 (aI x x).2.1 (aK Z1 Z2).1 (aK Z1 Z2).2.1
def wA (x H1 H2 Z1 Z2:Int):Int×Int×Int:=
 lJ (bF (aK x x).1 (aK x x).2.1 (aI H1 H2).1 (aI H1 H2).2.1).1 (bF (aK x x).1 (aK x x).2.1 (aI H1 H2).1 (aI H1 H2).2.1).2.1
  (bF (bF (aI x x).1 (aI x x).2.1 (aK H1 H2).1 (aK H1 H2).2.1).1 (bF (aI x x).1 (aI x x).2.1 (aK H1 H2).1 (aK H1 H2).2.1).2.1 (aI Z1 Z2).1 (aI Z1 Z2).2.1).1
  (bF (bF (aI x x).1 (aI x x).2.1 (aK H1 H2).1 (aK H1 H2).2.1).1 (bF (aI x x).1 (aI x x).2.1 (aK H1 H2).1 (aK H1 H2).2.1).2.1 (aI Z1 Z2).1 (aI Z1 Z2).2.1).2.1
def wQ (x H1 H2 Z1 Z2:Int):Int×Int×Int:=nB (wA x H1 H2 Z1 Z2).1 (wA x H1 H2 Z1 Z2).2.1 (aI H1 H2).1 (aI H1 H2).2.1 60000
def qW:Rat:=2000*dS+5*e1
theorem qW_bd:0≤qW∧2^60*qW≤1/2^100∧dS≤1∧0≤dS∧5*e1≤qW:=by decide+kernel
theorem JF {x y lo:Int} (hx:gK x x=true) (hy:gK y y=true) (h0:0≤lo) (h1:lo≤10800000):
  ∃H1 H2 Z1 Z2:Int,gQ x x y y lo (lo+30000)=(H1,H2,Z1,Z2,0)∧fJ (wR x Z1 Z2)∧((wQ x H1 H2 Z1 Z2).2.2=0→-1099511627776≤(wQ x H1 H2 Z1 Z2).1∧(wQ x H1 H2 Z1 Z2).1≤1099511627776∧-1099511627776≤(wQ x H1 H2 Z1 Z2).2.1∧(wQ x H1 H2 Z1 Z2).2.1≤1099511627776)∧
   ∀m hm zm:Rat,(lo:Rat)≤m→m≤(lo:Rat)+30000→dE x y m hm zm→
    (((wR x Z1 Z2).1:Rat)-2^10*qW≤1073741824*(co x*si zm)∧1073741824*(co x*si zm)≤((wR x Z1 Z2).2.1:Rat)+2^10*qW)∧
    ((wQ x H1 H2 Z1 Z2).2.2=0→1/20≤co hm→∃r:Rat,r*co hm=si x*co hm-co x*si hm*co zm∧((wQ x H1 H2 Z1 Z2).1:Rat)-2^30*qW≤60000*r∧60000*r≤((wQ x H1 H2 Z1 Z2).2.1:Rat)+2^30*qW):=by
 have ew:=qW_bd;have lx:=bW hx;have hv:aE lo (lo+30000)=true:=aR (by omega) (by omega) (by omega);obtain ⟨H,Z,e,_,hold⟩:=uG (wH hx hy hv);have sx:=aU lx.1;have cx:=aW lx.1;have sZ:=aU hold.dir.val;have cZ:=aW hold.dir.val;have sH:=aU hold.lat.val;have cH:=aW hold.lat.val;refine ⟨H.1,H.2.1,Z.1,Z.2.1,e,aM cx sZ,fun hq=>?_,?_⟩
 ·obtain ⟨_,_,q3,q4,q5⟩:=quo_ok hq;have f4:=of_decide_eq_true q4;have f5:=of_decide_eq_true q5;unfold wQ;rw [q3];exact ⟨f4.1,f4.2,f5.1,f5.2⟩
 ·intro m hm zm m0 m1 s;have hxs:Hs 0 x x (x:Rat):=Hs.at (abJ x) (abJ x);have hys:Hs 0 y y (y:Rat):=Hs.at (abJ y) (abJ y);have hts:Hs 0 lo (lo+30000) m:=by
   unfold Hs;rw [acQ,show ((30000:Int):Rat)=30000 by rfl];constructor<;>grind
  have U:=hold.up _ _ _ hxs hys hts hm zm s;obtain ⟨k,A⟩:=hold.az _ _ _ hxs hys hts hm zm s;have t:=eQ zm k;have SZ:=OO hold.dir.val ew.2.2.2.1 ew.2.2.1 A;have CZ:=DM hold.dir.val ew.2.2.2.1 ew.2.2.1 A;have SH:=OO hold.lat.val ew.2.2.2.1 ew.2.2.1 U;have CH:=DM hold.lat.val ew.2.2.2.1 ew.2.2.1 U;rw [t.2] at SZ;rw [t.1] at CZ;have SX:Vl (aK x x) qW (si x):=(kG lx.1 hxs).wide ew.2.2.2.2;have CX:Vl (aI x x) qW (co x):=(jI lx.1 hxs).wide ew.2.2.2.2;have e4:9*qW≤1/4:=by grind
  have R:=fX cx sZ ew.1 (by grind) CX SZ;have P1:=fX sx cH ew.1 (by grind) SX CH;have P2:=fX cx sH ew.1 (by grind) CX SH;have P3:=fX (aM cx sH) cZ (e:=3*qW) (by grind) (by grind) P2 (Vl.wide CZ (show 2000*dS+5*e1≤3*qW by show qW≤3*qW;grind));have A1:=ZW (aM sx cH) (aM (aM cx sH) cZ) P1 P3;refine ⟨?_,fun hq hc=>?_⟩
  ·have:=R.2.2;unfold Hs at this;unfold wR;constructor<;>grind
  ·have A2:Hs (2^10*qW) (wA x H.1 H.2.1 Z.1 Z.2.1).1 (wA x H.1 H.2.1 Z.1 Z.2.1).2.1 (1073741824*(si x*co hm-co x*si hm*co zm)):=A1.2.2.wide (by grind) (abJ _) (abJ _);have C2:Hs (2^10*qW) (aI H.1 H.2.1).1 (aI H.1 H.2.1).2.1 (1073741824*co hm):=CH.2.2.wide (show 2000*dS+5*e1≤2^10*qW by show qW≤2^10*qW;grind) (abJ _) (abJ _);have q:=quo_hs (n:=60000) (by omega) (by omega) hq A2 C2 (by grind) (by grind) (by grind);have hne:co hm≠0:=by grind
   refine ⟨(si x*co hm-co x*si hm*co zm)/co hm,Rat.div_mul_cancel hne,?_⟩;have er:(si x*co hm-co x*si hm*co zm)/co hm*co hm=si x*co hm-co x*si hm*co zm:=Rat.div_mul_cancel hne;rw [show ((60000:Int):Rat)=60000 by rfl] at q;change (((wQ x H.1 H.2.1 Z.1 Z.2.1).1:Rat)-2^20*(2^10*qW))*(1073741824*co hm)≤60000*(1073741824*(si x*co hm-co x*si hm*co zm))∧60000*(1073741824*(si x*co hm-co x*si hm*co zm))≤(((wQ x H.1 H.2.1 Z.1 Z.2.1).2.1:Rat)+2^20*(2^10*qW))*(1073741824*co hm) at q;rw [←er] at q;clear er A1 A2 C2 P1 P2 P3 R SX CX SH CH SZ CZ;generalize (si x*co hm-co x*si hm*co zm)/co hm=r at*;generalize ((wQ x H.1 H.2.1 Z.1 Z.2.1).1:Rat)=L at*;generalize ((wQ x H.1 H.2.1 Z.1 Z.2.1).2.1:Rat)=G at*;have e30:(2:Rat)^20*(2^10*qW)=2^30*qW:=by grind
   rw [e30] at q;generalize (2:Rat)^30*qW=w at*;generalize co hm=c at*;constructor
   ·rcases (abX:L-w≤60000*r∨60000*r≤L-w) with g | g
    ·exact g
    ·have m2:=aaQ (show 0≤c-1/20 by grind) (show 0≤L-w-60000*r by grind);grind
   ·rcases (abX:60000*r≤G+w∨G+w≤60000*r) with g | g
    ·exact g
    ·have m2:=aaQ (show 0≤c-1/20 by grind) (show 0≤60000*r-(G+w) by grind);grind
theorem BQ {x y k:Int} (hx:gK x x=true) (hy:gK y y=true) (k0:0≤k) (k1:k≤179):∃eh ez:Int,kwr x x y y k=(eh,ez,0)∧0≤eh∧eh≤1000000∧ez≤10800000∧
  ((∀m hm zm:Rat,(k:Rat)*60000≤m→m≤(k:Rat)*60000+60000→dE x y m hm zm→1/20≤co hm)→
   (∃lo hi:Rat,lo≤hi∧iJ (SP x y) (·.1) 0 lo hi ((k:Rat)*60000) ((k:Rat)*60000+60000) 0 (1/2^60)∧(hi-lo)*15000≤(eh:Rat)+1/2^60)∧
   (ez=10800000∨∃lo hi:Rat,-42≤lo∧lo≤hi∧hi≤42∧iJ (SP x y) (·.2) 21600000 lo hi ((k:Rat)*60000) ((k:Rat)*60000+60000) 0 (1/2^60)∧(hi-lo)*15000≤(ez:Rat)+1/2^60)):=by
 have ew:=qW_bd;obtain ⟨H1,H2,Z1,Z2,e1,o1,q1,P1⟩:=JF (lo:=k*60000) hx hy (by omega) (by omega);obtain ⟨G1,G2,Y1,Y2,e2,o2,q2,P2⟩:=JF (lo:=k*60000+30000) hx hy (by omega) (by omega);have z6:((60000:Int):Rat)=60000:=rfl;have z3:((30000:Int):Rat)=30000:=rfl;rw [acX,z6] at P1;rw [acQ,acX,z6,z3] at P2;obtain ⟨r1,r2,r3,r4⟩:=o1;obtain ⟨s1,s2,s3,s4⟩:=o2;obtain ⟨D,hD⟩:∃D,D=mx (mx (wR x Z1 Z2).2.1 (wR x Z1 Z2).2.1) (wR x Y1 Y2).2.1-mn (mn (wR x Z1 Z2).1 (wR x Z1 Z2).1) (wR x Y1 Y2).1:=⟨_,rfl⟩;have gD:0≤D∧D≤2147483648∧(wR x Z1 Z2).2.1-(wR x Z1 Z2).1≤D:=by
  rw [hD,(mnx _).1,(mnx _).2];unfold mn mx;split<;>split<;>omega
 have hE:=ce_c (a:=D*60000) (b:=4294967296) (by omega);obtain ⟨E,eE⟩:∃E,E=-((-(D*60000))/4294967296):=⟨_,rfl⟩;rw [←eE] at hE;have uE:upI (i64.wrap (i64.wrap D*60000)) 4294967296=E:=by
  rw [bR (x:=D) (by omega),bR (x:=D*60000) (by omega),upI_eq (by omega) (by omega) (by omega),eE]
 obtain ⟨D2,hD2⟩:∃D2,D2=mx (mx (wQ x H1 H2 Z1 Z2).2.1 (wQ x H1 H2 Z1 Z2).2.1) (wQ x G1 G2 Y1 Y2).2.1-mn (mn (wQ x H1 H2 Z1 Z2).1 (wQ x H1 H2 Z1 Z2).1) (wQ x G1 G2 Y1 Y2).1:=⟨_,rfl⟩;have ev:kwr x x y y k=cond ((wQ x H1 H2 Z1 Z2).2.2 != 0) (cond ((wQ x G1 G2 Y1 Y2).2.2 != 0) (E,10800000,0) (E,10800000,0))
   (cond ((wQ x G1 G2 Y1 Y2).2.2 != 0) (E,10800000,0) (cond (decide (upI (i64.wrap D2) 4>10800000)) (E,10800000,0) (E,upI (i64.wrap D2) 4,0))):=by
  have w1:i64.wrap (i64.wrap (k*60000)+0)=k*60000:=by
   rw [bR (x:=k*60000) (by omega),bR (x:=k*60000+0) (by omega)];omega
  have w2:i64.wrap (k*60000+30000)=k*60000+30000:=bR (by omega);have w3:i64.wrap (i64.wrap (k*60000)+30000)=k*60000+30000:=by
   rw [bR (x:=k*60000) (by omega),bR (x:=k*60000+30000) (by omega)]
  have w4:i64.wrap (k*60000+30000+30000)=k*60000+30000+30000:=bR (by omega);have z0:((0:Int) != 0)=false:=rfl;unfold kwr kwrK;simp only [lt];rw [w1,w2,w3,w4,e1,e2];dsimp only;rw [z0,cond_false,cond_false];rw [←uE,hD,hD2];rfl
 have hr:(((wR x Z1 Z2).1:Int):Rat)-2^10*qW≤((wR x Z1 Z2).2.1:Rat)+2^10*qW:=by
  have:=aV r2;grind
 have z30:((4294967296:Int):Rat)=4294967296:=rfl;rw [acX,z6,z30] at hE;have gE:0≤E∧E≤1000000:=by rw [eE];omega
 have cD:=aV gD.1;rw [show ((0:Int):Rat)=0 by rfl] at cD;have hH:(∀m hm zm:Rat,(k:Rat)*60000≤m→m≤(k:Rat)*60000+60000→dE x y m hm zm→1/20≤co hm)→∃lo hi:Rat,lo≤hi∧iJ (SP x y) (·.1) 0 lo hi ((k:Rat)*60000) ((k:Rat)*60000+60000) 0 (1/2^60)∧(hi-lo)*15000≤(E:Rat)+1/2^60:=fun hc=>by
  have dl:mn (mn (wR x Z1 Z2).1 (wR x Z1 Z2).1) (wR x Y1 Y2).1≤(wR x Z1 Z2).1∧mn (mn (wR x Z1 Z2).1 (wR x Z1 Z2).1) (wR x Y1 Y2).1≤(wR x Y1 Y2).1:=by
   rw [(mnx _).1];exact OE _ _
  have dh:(wR x Z1 Z2).2.1≤mx (mx (wR x Z1 Z2).2.1 (wR x Z1 Z2).2.1) (wR x Y1 Y2).2.1∧(wR x Y1 Y2).2.1≤mx (mx (wR x Z1 Z2).2.1 (wR x Z1 Z2).2.1) (wR x Y1 Y2).2.1:=by
   rw [(mnx _).2];exact OG _ _
  generalize mn (mn (wR x Z1 Z2).1 (wR x Z1 Z2).1) (wR x Y1 Y2).1=lo at*;generalize mx (mx (wR x Z1 Z2).2.1 (wR x Z1 Z2).2.1) (wR x Y1 Y2).2.1=hi at*;have l1:=aV dl.1;have l2:=aV dl.2;have l3:=aV dh.1;have l4:=aV dh.2;have l5:=aV r2;have p1:=h_piece (x:=x) (y:=y) (a:=(k:Rat)*60000) (b:=(k:Rat)*60000+30000) (lo:=((lo:Rat)-2^10*qW)/1073741824) (hi:=((hi:Rat)+2^10*qW)/1073741824) (by grind) (fun m hm zm a1 a2 s=>by
   have:=(P1 m hm zm a1 a2 s).1;exact ⟨hc m hm zm a1 (by grind) s,by grind,by grind⟩)
  have p2:=h_piece (x:=x) (y:=y) (a:=(k:Rat)*60000+30000) (b:=(k:Rat)*60000+60000) (lo:=((lo:Rat)-2^10*qW)/1073741824) (hi:=((hi:Rat)+2^10*qW)/1073741824) (by grind) (fun m hm zm a1 a2 s=>by
   have:=(P2 m hm zm a1 (by grind) s).1;exact ⟨hc m hm zm (by grind) a2 s,by grind,by grind⟩)
  have j:=iJ.join (sp_ex x y) (by grind) p1 p2;rw [show 2*((1:Rat)/2^61)=1/2^60 by grind] at j;refine ⟨_,_,?_,j,?_⟩
  ·grind
  ·have cd:(D:Rat)=(hi:Rat)-(lo:Rat):=by rw [hD,abZ]
   rw [cd] at hE;grind
 by_cases hq1:(wQ x H1 H2 Z1 Z2).2.2=0
 case neg=>
  refine ⟨E,10800000,?_,gE.1,gE.2,by omega,fun hc=>⟨hH hc,.inl rfl⟩⟩;rw [ev,bne_iff_ne.2 hq1];cases ((wQ x G1 G2 Y1 Y2).2.2 != 0)<;>rfl
 by_cases hq2:(wQ x G1 G2 Y1 Y2).2.2=0
 case neg=>
  refine ⟨E,10800000,?_,gE.1,gE.2,by omega,fun hc=>⟨hH hc,.inl rfl⟩⟩;rw [ev,bne_iff_ne.2 hq2,hq1];rfl
 have b1:=q1 hq1;have b2:=q2 hq2;have dl:mn (mn (wQ x H1 H2 Z1 Z2).1 (wQ x H1 H2 Z1 Z2).1) (wQ x G1 G2 Y1 Y2).1≤(wQ x H1 H2 Z1 Z2).1∧mn (mn (wQ x H1 H2 Z1 Z2).1 (wQ x H1 H2 Z1 Z2).1) (wQ x G1 G2 Y1 Y2).1≤(wQ x G1 G2 Y1 Y2).1:=by
  rw [(mnx _).1];exact OE _ _
 have dh:(wQ x H1 H2 Z1 Z2).2.1≤mx (mx (wQ x H1 H2 Z1 Z2).2.1 (wQ x H1 H2 Z1 Z2).2.1) (wQ x G1 G2 Y1 Y2).2.1∧(wQ x G1 G2 Y1 Y2).2.1≤mx (mx (wQ x H1 H2 Z1 Z2).2.1 (wQ x H1 H2 Z1 Z2).2.1) (wQ x G1 G2 Y1 Y2).2.1:=by
  rw [(mnx _).2];exact OG _ _
 have db:-1099511627776≤mn (mn (wQ x H1 H2 Z1 Z2).1 (wQ x H1 H2 Z1 Z2).1) (wQ x G1 G2 Y1 Y2).1∧mx (mx (wQ x H1 H2 Z1 Z2).2.1 (wQ x H1 H2 Z1 Z2).2.1) (wQ x G1 G2 Y1 Y2).2.1≤1099511627776:=by
  rw [(mnx _).1,(mnx _).2];unfold mn mx;constructor<;>split<;>omega
 generalize mn (mn (wQ x H1 H2 Z1 Z2).1 (wQ x H1 H2 Z1 Z2).1) (wQ x G1 G2 Y1 Y2).1=lo at*;generalize mx (mx (wQ x H1 H2 Z1 Z2).2.1 (wQ x H1 H2 Z1 Z2).2.1) (wQ x G1 G2 Y1 Y2).2.1=hi at*;have uZ:upI (i64.wrap D2) 4=-((-D2)/4):=by
  rw [bR (x:=D2) (by omega),upI_eq (by omega) (by omega) (by omega)]
 have cZ:=ce_c (a:=D2) (b:=4) (by omega);rw [show ((4:Int):Rat)=4 by rfl] at cZ;rw [uZ] at ev;rw [hq1,hq2] at ev;by_cases hbig:-((-D2)/4)>10800000
 ·refine ⟨E,10800000,?_,gE.1,gE.2,by omega,fun hc=>⟨hH hc,.inl rfl⟩⟩;rw [ev,decide_eq_true hbig];rfl
 have some_r:(∀m hm zm:Rat,(k:Rat)*60000≤m→m≤(k:Rat)*60000+60000→dE x y m hm zm→1/20≤co hm)→∃lo' hi':Rat,-42≤lo'∧lo'≤hi'∧hi'≤42∧iJ (SP x y) (·.2) 21600000 lo' hi' ((k:Rat)*60000) ((k:Rat)*60000+60000) 0 (1/2^60)∧(hi'-lo')*15000≤((-((-D2)/4):Int):Rat)+1/2^60:=fun hc=>by
  have l1:=aV dl.1;have l2:=aV dl.2;have l3:=aV dh.1;have l4:=aV dh.2;obtain ⟨A,hA⟩:∃A:Rat,A=((lo:Rat)-2^30*qW)/60000:=⟨_,rfl⟩;obtain ⟨B,hB⟩:∃B:Rat,B=((hi:Rat)+2^30*qW)/60000:=⟨_,rfl⟩;obtain ⟨A',a1,a2,a3⟩:∃A':Rat,-42≤A'∧A≤A'∧∀r,-42≤r→A≤r→A'≤r:=by
   rcases (abX:-42≤A∨A≤-42) with q | q
   ·exact ⟨A,q,by grind,fun r _ h=>h⟩
   ·exact ⟨-42,by grind,q,fun r h _=>h⟩
  obtain ⟨B',c1,c2,c3⟩:∃B':Rat,B'≤42∧B'≤B∧∀r,r≤42→r≤B→r≤B':=by
   rcases (abX:B≤42∨42≤B) with q | q
   ·exact ⟨B,q,by grind,fun r _ h=>h⟩
   ·exact ⟨42,by grind,q,fun r h _=>h⟩
  have z1:=z_piece (x:=x) (y:=y) (a:=(k:Rat)*60000) (b:=(k:Rat)*60000+30000) (lo:=A') (hi:=B') (by grind) (fun m hm zm g1 g2 s=>by
   have hcm:=hc m hm zm g1 (by grind) s;obtain ⟨r,f1,f2,f3⟩:=(P1 m hm zm g1 g2 s).2 hq1 hcm;have rb:=AM hcm f1;exact ⟨hcm,r,f1,a3 r rb.1 (by grind),c3 r rb.2 (by grind)⟩)
  have z2:=z_piece (x:=x) (y:=y) (a:=(k:Rat)*60000+30000) (b:=(k:Rat)*60000+60000) (lo:=A') (hi:=B') (by grind) (fun m hm zm g1 g2 s=>by
   have hcm:=hc m hm zm (by grind) g2 s;obtain ⟨r,f1,f2,f3⟩:=(P2 m hm zm g1 (by grind) s).2 hq2 hcm;have rb:=AM hcm f1;exact ⟨hcm,r,f1,a3 r rb.1 (by grind),c3 r rb.2 (by grind)⟩)
  have j:=iJ.join (sp_ex x y) (by grind) z1 z2;rw [show 2*((1:Rat)/2^61)=1/2^60 by grind] at j;refine ⟨A',B',a1,?_,c1,j,?_⟩
  ·obtain ⟨hm,zm,s⟩:=vW x y ((k:Rat)*60000);have hcm:=hc _ hm zm (by grind) (by grind) s;obtain ⟨r,f1,f2,f3⟩:=(P1 _ hm zm (by grind) (by grind) s).2 hq1 hcm;have rb:=AM hcm f1;have:=a3 r rb.1 (by grind);have:=c3 r rb.2 (by grind);grind
  ·have cd:(D2:Rat)=(hi:Rat)-(lo:Rat):=by rw [hD2,abZ]
   rw [cd] at cZ;clear z1 z2 j P1 P2 hc hH a3 c3;grind
 refine ⟨E,-((-D2)/4),?_,gE.1,gE.2,by omega,fun hc=>⟨hH hc,.inr (some_r hc)⟩⟩
 ·rw [ev,decide_eq_false hbig];rfl
end
section
open SM TB TA
open Ev (lt bG)
def Fm4 (a b:Int):Prop:=(a=0∧b=21600000)∨(0≤a∧a<21600000∧a≤b∧b-a<21600000)
theorem kal_eq {a b:Int} (h1:-4000000000000≤a) (h2:a≤4000000000000) (h3:-4000000000000≤b) (h4:b≤4000000000000):XZ a b=decide (b-a≥21600000):=by
 unfold XZ;rw [bR (x:=b-a) (by omega)]
theorem RY {a b:Int} (h1:-4000000000000≤a) (h2:a≤4000000000000) (h3:-4000000000000≤b) (h4:b≤4000000000000):
  (21600000≤b-a∧BA a b=(0,21600000))∨(b-a<21600000∧BA a b=(a%21600000,a%21600000+(b-a))):=by
 have m0:=aiQ a (show (21600000:Int)≠0 by omega);have m1:=agQ a (show (0:Int)<21600000 by omega);unfold BA ktuK;rw [kal_eq h1 h2 h3 h4];by_cases h:21600000≤b-a
 ·left;rw [decide_eq_true h];exact ⟨h,rfl⟩
 ·right;rw [decide_eq_false h];refine ⟨by omega,?_⟩;simp only [cond_false];unfold jZ;rw [bR (x:=a%21600000+b) (by omega),bR (x:=a%21600000+b-a) (by omega)];congr 1;omega
theorem AE {a b:Int} (h1:-4000000000000≤a) (h2:a≤b) (h4:b≤4000000000000):Fm4 (BA a b).1 (BA a b).2:=by
 have m0:=aiQ a (show (21600000:Int)≠0 by omega);have m1:=agQ a (show (0:Int)<21600000 by omega);rcases RY h1 (b:=b) (by omega) (by omega) h4 with ⟨_,e⟩ | ⟨h,e⟩
 ·rw [e];exact .inl ⟨rfl,rfl⟩
 ·rw [e];exact .inr ⟨m0,m1,by dsimp only;omega,by dsimp only;omega⟩
theorem GG {d:Rat} {a b:Int} {z:Rat} (q:Int) (h:Hs d a b z):Hs d (a+21600000*q) (b+21600000*q) (z+21600000*(q:Rat)):=by
 unfold Hs at*;rw [acQ,acQ,acX,show ((21600000:Int):Rat)=21600000 by rfl];constructor<;>grind
theorem ktu_dr {a b:Int} {d z:Rat} (h1:-4000000000000≤a) (h2:a≤b) (h4:b≤4000000000000) (hd:0≤d) (h:Dr d a b z):Dr d (BA a b).1 (BA a b).2 z:=by
 rcases RY h1 (b:=b) (by omega) (by omega) h4 with ⟨_,e⟩ | ⟨_,e⟩
 ·rw [e];exact Dr.all hd z
 ·rw [e];obtain ⟨m,h⟩:=h;have s:=GG (-(a/21600000)) h;refine ⟨m+-(a/21600000),?_⟩;have e1:a+21600000*-(a/21600000)=a%21600000:=by omega
  have e2:b+21600000*-(a/21600000)=a%21600000+(b-a):=by omega
  rw [e1,e2] at s;rw [acQ];rwa [show z+21600000*((m:Rat)+((-(a/21600000):Int):Rat))=z+21600000*(m:Rat)+21600000*((-(a/21600000):Int):Rat) by grind]
theorem sign_ok (a:Int):-10800000≤rE a∧rE a<10800000∧∃q:Int,rE a=a+21600000*q:=by
 have m0:=aiQ a (show (21600000:Int)≠0 by omega);have m1:=agQ a (show (0:Int)<21600000 by omega);unfold rE jZ;by_cases h:a%21600000≥10800000
 ·rw [decide_eq_true h,cond_true,bR (x:=a%21600000-21600000) (by omega)];exact ⟨by omega,by omega,-(a/21600000)-1,by omega⟩
 ·rw [decide_eq_false h,cond_false];exact ⟨by omega,by omega,-(a/21600000),by omega⟩
theorem deg_co {x y a u h0 z0 h1 z1:Rat} (S0:dE x y a h0 z0) (S1:dE x y (a+60000) h1 z1) (u0:0≤u) (u1:u≤60000) (b0:-5040100≤h0+(h1-h0)*u/60000) (b1:h0+(h1-h0)*u/60000≤5040100):
  ∀m hm zm:Rat,a≤m→m≤a+60000→dE x y m hm zm→1/20≤co hm:=fun m hm zm m0 m1 s=>by
 have l:=xP;have d0:=yF S0 s m0;have d1:=yF s S1 m1;have p0:=aaQ (show 0≤60000-u by grind) (show 0≤h0+(m-a)+qL-hm by grind);have p1:=aaQ u0 (show 0≤h1+(a+60000-m)+qL-hm by grind);have p2:=aaQ (show 0≤60000-u by grind) (show 0≤hm-(h0-(m-a)-qL) by grind);have p3:=aaQ u0 (show 0≤hm-(h1-(a+60000-m)-qL) by grind);have q0:=aaQ (show 0≤60000-u by grind) (show 0≤a+60000-m by grind);have q1:=aaQ u0 (show 0≤m-a by grind);clear d0 d1 s S0 S1;refine uF ?_ ?_<;>grind
theorem NU {x y k u A1 A2 P1 P2 B1 B2 R1 R2 eh ez:Int} (hx:gK x x=true) (hy:gK y y=true) (k0:0≤k) (k1:k≤179) (u0:0≤u) (u1:u≤60000)
  (eA:gQ x x y y (k*60000) (k*60000)=(A1,A2,P1,P2,0)) (eB:gQ x x y y (k*60000+60000) (k*60000+60000)=(B1,B2,R1,R2,0)) (qK:kwr x x y y k=(eh,ez,0))
  {F1 F2 F3 F4:Int} (eF:khr A1 A2 P1 P2 B1 B2 R1 R2 eh ez u u=(F1,F2,F3,F4)):
  (-2000000000≤F1∧F1≤2000000000∧-2000000000≤F2∧F2≤2000000000)∧(-5040000≤F1→F2≤5040000→F1≤F2+1∧Fm4 F3 F4∧
  ∀h z:Rat,dE x y ((k:Rat)*60000+(u:Rat)) h z→Hs (1/2^50) F1 F2 h∧Dr (1/2^50) F3 F4 z):=by
 have ew:=qW_bd;have ds:dS≤1/2^60:=by decide+kernel
 have z6:((60000:Int):Rat)=60000:=rfl;have zh:((10800000:Int):Rat)=10800000:=rfl;have z50:((5040000:Int):Rat)=5040000:=rfl;have z51:((-5040000:Int):Rat)=-5040000:=rfl;have q0:=aV u0;have q1:=aV u1;rw [show ((0:Int):Rat)=0 by rfl] at q0;rw [z6] at q1;obtain ⟨a1,a2,p1,p2,eA',lA,dA,fA,tA⟩:=qT (t:=k*60000) (wH hx hy (aR (by omega) (by omega) (by omega)));rw [eA] at eA';simp only [Prod.mk.injEq,and_true] at eA';obtain ⟨rfl,rfl,rfl,rfl⟩:=eA';obtain ⟨b1,b2,r1,r2,eB',lB,dB,fB,tB⟩:=qT (t:=k*60000+60000) (wH hx hy (aR (by omega) (by omega) (by omega)));rw [eB] at eB';simp only [Prod.mk.injEq,and_true] at eB';obtain ⟨rfl,rfl,rfl,rfl⟩:=eB';obtain ⟨eh',ez',qK',g1,g2,g3,hr⟩:=BQ hx hy k0 k1;rw [qK] at qK';simp only [Prod.mk.injEq,and_true] at qK';obtain ⟨rfl,rfl⟩:=qK';obtain ⟨lA1,lA2,lA3,_⟩:=lA;obtain ⟨lB1,lB2,lB3,_⟩:=lB;obtain ⟨dA1,dA2,dA3,dA4,_⟩:=dA;obtain ⟨dB1,dB2,dB3,dB4,_⟩:=dB;dsimp only at lA1 lA2 lA3 lB1 lB2 lB3 dA1 dA2 dA3 dA4 dB1 dB2 dB3 dB4;rw [acX,z6] at tA;rw [acQ,acX,z6] at tB;obtain ⟨h0,z0,S0⟩:=vW x y ((k:Rat)*60000);obtain ⟨h1,z1,S1⟩:=vW x y ((k:Rat)*60000+60000);obtain ⟨UA,DA,WA⟩:=tA h0 z0 S0;obtain ⟨UB,DB,WB⟩:=tB h1 z1 S1;have vH:=RX (u:=u) (by':=eh) (e:=dS) (f:=0) (B:=0) (Z:=h0+(h1-h0)*(u:Rat)/60000) (show B9 A1 by unfold B9;omega) (show B9 A2 by unfold B9;omega) (show B9 B1 by unfold B9;omega) (show B9 B2 by unfold B9;omega) u0 u1 UA UB g1 (by omega) (by have:=aV g1;rwa [show ((0:Int):Rat)=0 by rfl] at this) (by unfold Cl;grind);have eH:F1=(EX A1 A2 B1 B2 u u eh).1∧F2=(EX A1 A2 B1 B2 u u eh).2:=by
  have:=eF;unfold khr khrK at this;simp only [lt] at this;revert this
  cases !(XZ P1 P2)<;>cases !(XZ R1 R2)<;>simp only [cond_true,cond_false,Prod.mk.injEq]<;>intro this<;>exact ⟨this.1.symm,this.2.1.symm⟩
 have kb0:=(RV (u:=u) (show B9 A1 by unfold B9;omega) (show B9 A2 by unfold B9;omega) (show B9 B1 by unfold B9;omega) (show B9 B2 by unfold B9;omega) u0 u1 UA UB).2;refine ⟨?_,fun c0 c1=>?_⟩
 ·rw [eH.1,eH.2,vH.2];dsimp only;omega
 have vI:=vH.1;rw [←eH.1,←eH.2] at vI;have bI:-5040100≤h0+(h1-h0)*(u:Rat)/60000∧h0+(h1-h0)*(u:Rat)/60000≤5040100:=by
  have a:=aV c0;have b:=aV c1;rw [z51] at a;rw [z50] at b;unfold Hs at vI;constructor<;>grind
 have hco:=deg_co S0 S1 q0 q1 bI.1 bI.2;obtain ⟨⟨lo,hi,lh,RH,EH⟩,RZ⟩:=hr hco;have wA:=WA (hco _ h0 z0 (by grind) (by grind) S0);have wB:=WB (hco _ h1 z1 (by grind) (by grind) S1);have formA:¬(21600000≤P2-P1):=by omega
 have formB:¬(21600000≤R2-R1):=by omega
 obtain ⟨s0,s1,q,hq⟩:=sign_ok (R1-P1);have lo':i64.wrap (P1+rE (i64.wrap (R1-P1)))=R1+21600000*q:=by
  rw [bR (x:=R1-P1) (by omega),bR (x:=P1+rE (R1-P1)) (by omega)];omega
 have hi':i64.wrap (i64.wrap (R1+21600000*q+R2)-R1)=R2+21600000*q:=by
  rw [bR (x:=R1+21600000*q+R2) (by omega),bR (x:=R1+21600000*q+R2-R1) (by omega)];omega
 have eZ:F3=(BA (EX P1 P2 (R1+21600000*q) (R2+21600000*q) u u ez).1 (EX P1 P2 (R1+21600000*q) (R2+21600000*q) u u ez).2).1∧F4=(BA (EX P1 P2 (R1+21600000*q) (R2+21600000*q) u u ez).1 (EX P1 P2 (R1+21600000*q) (R2+21600000*q) u u ez).2).2:=by
  have:=eF;unfold khr khrK at this;rw [kal_eq (by omega) (by omega) (by omega) (by omega),kal_eq (by omega) (by omega) (by omega) (by omega),decide_eq_false formA,decide_eq_false formB,lo',hi'] at this;simp only [lt,Bool.not_false,cond_true,Prod.mk.injEq] at this;exact ⟨this.2.2.1.symm,this.2.2.2.symm⟩
 obtain ⟨m0,hm0⟩:=DA;obtain ⟨m1,hm1⟩:=DB;have hm1':=GG q hm1;have ez0:0≤ez:=by
  rcases RZ with e | ⟨l,g,l1,l2,l3,l4,l5⟩
  ·omega
  ·rcases aiJ ez 0 with n | n
   ·have:=aV (show ez≤-1 by omega);rw [show ((-1:Int):Rat)=-1 by rfl] at this;grind
   ·exact n
 have kb:=RV (u:=u) (show B9 P1 by unfold B9;omega) (show B9 P2 by unfold B9;omega) (show B9 (R1+21600000*q) by unfold B9;omega) (show B9 (R2+21600000*q) by unfold B9;omega) u0 u1 hm0 hm1';have vZ:=fun (f B Z:Rat) (hB:B≤(ez:Rat)) (hZ:Cl (B+f) Z _)=>RX (u:=u) (by':=ez) (f:=f) (B:=B) (Z:=Z) (show B9 P1 by unfold B9;omega) (show B9 P2 by unfold B9;omega) (show B9 (R1+21600000*q) by unfold B9;omega) (show B9 (R2+21600000*q) by unfold B9;omega) u0 u1 hm0 hm1' ez0 (by omega) hB hZ;have eV:=(vZ 0 0 _ (by have:=aV ez0;rwa [show ((0:Int):Rat)=0 by rfl] at this) (Cl.refl _ (by grind))).2;have ord:(LQ P1 P2 (R1+21600000*q) (R2+21600000*q) u).1≤(LQ P1 P2 (R1+21600000*q) (R2+21600000*q) u).2:=by
  rw [(kat_eq (show B9 P1 by unfold B9;omega) (show B9 P2 by unfold B9;omega) (show B9 (R1+21600000*q) by unfold B9;omega) (show B9 (R2+21600000*q) by unfold B9;omega) u0 u1).1];dsimp only;have n1:=aeJ (show 0≤P2-P1 by omega) (show 0≤60000-u by omega);have n2:=aeJ (show 0≤R2-R1 by omega) u0;have e:P2*(60000-u)+(R2+21600000*q)*u=P1*(60000-u)+(R1+21600000*q)*u+((P2-P1)*(60000-u)+(R2-R1)*u):=by grind
  rw [e];generalize P1*(60000-u)+(R1+21600000*q)*u=W at*;generalize (P2-P1)*(60000-u)=V1 at*;generalize (R2-R1)*u=V2 at*;omega
 refine ⟨?_,?_,?_⟩
 ·have:(F1:Rat)≤(F2:Rat)+1:=by unfold Hs at vI;grind
  rcases aiJ (F2+1) F1 with n | n
  ·have:=xD n;rw [acQ,show ((1:Int):Rat)=1 by rfl] at this;grind
  ·exact n
 ·rw [eZ.1,eZ.2];refine AE ?_ ?_ ?_<;>rw [eV]<;>dsimp only<;>omega
 intro h z S;constructor
 ·have li:=h_lin RH q0 q1 lh S0 S S1;have v:=RX (u:=u) (by':=eh) (e:=dS) (f:=1/2^55) (B:=(hi-lo)*15000-1/2^60) (Z:=h) (show B9 A1 by unfold B9;omega) (show B9 A2 by unfold B9;omega) (show B9 B1 by unfold B9;omega) (show B9 B2 by unfold B9;omega) u0 u1 UA UB g1 (by omega) (by grind) (li.wide (by grind));rw [eH.1,eH.2];exact v.1.wide (by grind) (abJ _) (abJ _)
 ·rw [eZ.1,eZ.2];rcases RZ with e | ⟨l,g,l1,l2,l3,l4,l5⟩
  ·have:BA (EX P1 P2 (R1+21600000*q) (R2+21600000*q) u u ez).1 (EX P1 P2 (R1+21600000*q) (R2+21600000*q) u u ez).2=(0,21600000):=by
    rcases RY (a:=(EX P1 P2 (R1+21600000*q) (R2+21600000*q) u u ez).1) (b:=(EX P1 P2 (R1+21600000*q) (R2+21600000*q) u u ez).2) (by rw [eV];dsimp only;omega) (by rw [eV];dsimp only;omega) (by rw [eV];dsimp only;omega) (by rw [eV];dsimp only;omega) with ⟨_,e⟩ | ⟨n,_⟩
    ·exact e
    ·rw [eV] at n;dsimp only at n;omega
   rw [this];exact Dr.all (by grind) z
  ·obtain ⟨k',j,li,j0,j1⟩:=z_lin l4 q0 q1 l2 S0 S S1;refine ktu_dr (by rw [eV];dsimp only;omega) (by rw [eV];dsimp only;omega) (by rw [eV];dsimp only;omega) (by grind) ?_;have same:j+m0=m1+q:=by
    unfold Hs at hm0 hm1;have cA:=aV wA;have cB:=aV wB;have cs0:=aV s0;have cs1:=aV (show rE (R1-P1)≤10800000 by omega);have cq:(rE (R1-P1):Rat)=(R1:Rat)-(P1:Rat)+21600000*(q:Rat):=by
     rw [hq,acQ,abZ,acX];rfl
    rw [cq] at cs0 cs1;rw [abZ] at cA cB;rw [show ((5400000:Int):Rat)=5400000 by rfl] at cA cB;rw [show ((-10800000:Int):Rat)=-10800000 by rfl] at cs0;rw [zh] at cs1;have lt1:((j+m0-m1-q:Int):Rat)<1:=by
     rw [abZ,abZ,acQ];grind
    have lt2:(-1:Rat)<((j+m0-m1-q:Int):Rat):=by
     rw [abZ,abZ,acQ];grind
    have i1:j+m0-m1-q<1:=by
     rcases aiJ (j+m0-m1-q) 1 with n | n
     ·exact n
     ·have:=aV n;rw [show ((1:Int):Rat)=1 by rfl] at this;grind
    have i2:-1<j+m0-m1-q:=by
     rcases aiJ (-1) (j+m0-m1-q) with n | n
     ·exact n
     ·have:=aV n;rw [show ((-1:Int):Rat)=-1 by rfl] at this;grind
    omega
   have same':(j:Rat)+(m0:Rat)=(m1:Rat)+(q:Rat):=by
    have:=congrArg (fun n:Int=>(n:Rat)) same;rwa [acQ,acQ] at this
   have v:=(vZ (1/2^55) ((g-l)*15000-1/2^60) (z+21600000*((k'+m0:Int):Rat)) (by grind) (by
    rw [acQ];have e1:z1+21600000*(m1:Rat)+21600000*(q:Rat)-(z0+21600000*(m0:Rat))=z1+21600000*(j:Rat)-z0:=by grind
    rw [e1];unfold Cl at li ⊢;generalize (z1+21600000*(j:Rat)-z0)*(u:Rat)/60000=W at*;constructor<;>grind)).1
   exact ⟨k'+m0,v.wide (by grind) (abJ _) (abJ _)⟩
end
end Go.Proofs.YtajpgkpdhcbngaaGreatDoor
