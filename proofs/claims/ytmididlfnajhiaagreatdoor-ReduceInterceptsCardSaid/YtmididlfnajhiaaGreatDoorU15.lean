/-
  Haversines: no error comes but that of the pole; the arcs hold the true zenith distance and azimuth. No program here. Chapter 30: what Meet, All, and Best give; the examples. What solutions have in.
-/
import Derived.Test.YtmididlfnajhiaaGreatDoorU12
import Derived.Test.YtmididlfnajhiaaGreatDoorU13
import Derived.Test.YtmididlfnajhiaaGreatDoorW30
import Derived.Test.YtmididlfnajhiaaGreatDoorU2
import Derived.Test.YtmididlfnajhiaaGreatDoorU7
set_option maxRecDepth 100000
set_option maxHeartbeats 4000000
open _root_.Int renaming ediv_mul_le→aqQ,ediv_nonneg→asQ,emod_lt_of_pos→ahJ,emod_nonneg→ajQ,le_refl→aeX,le_total→atQ,mul_le_mul→aiX,mul_le_mul_of_nonneg_left→afX,mul_le_mul_of_nonneg_right→adZ,mul_nonneg→aeZ,neg_tmod→azZ,tdiv_eq_ediv_of_nonneg→aiZ,tmod→avZ,tmod_lt_of_pos→arX
open Go.Lib renaming hid→aaQ
open _root_.Option renaming some→afJ
open _root_.Rat renaming intCast_add→adQ,intCast_mul→abJ,intCast_neg→afZ,intCast_sub→acZ,le_total→adJ,mul_comm→aoZ,mul_nonneg→aaZ
open Go.IntKind (i64 u64)
namespace Go.Proofs.YtmididlfnajhiaaGreatDoor
section
open SM TB TA
open Ev (lt bJ)
theorem vI {a b c d:Int} (h1:-100000000≤a) (h2:a≤b) (h3:b≤100000000) (h4:-100000000≤c) (h5:c≤d) (h6:d≤100000000):
  lT a b c d=((eJ (a-d) (b-c)).1,(eJ (a-d) (b-c)).2.1)∧(∀k,betC k a b c d=k)∧0≤(lT a b c d).1∧(lT a b c d).1≤(lT a b c d).2∧(lT a b c d).2≤1073741824:=by
 have hv:aF (a-d) (b-c)=true:=bE (by omega) (by omega) (by omega);have h:=(kD hv).2.2;unfold lT betC;rw [sD h1 h2 h3 h4 h5 h6];refine ⟨rfl,fun k=>?_,h.1,h.2.1,h.2.2.1⟩;dsimp only;rw [h.2.2.2];unfold bJ;split<;>simp_all
theorem sL {a b c d:Int} (h1:aF a b=true) (h2:aF c d=true):
  kM a b c d=((bT (aN a b).1 (aN a b).2.1 (aN c d).1 (aN c d).2.1).1,(bT (aN a b).1 (aN a b).2.1 (aN c d).1 (aN c d).2.1).2.1)∧(∀k,cosC k a b c d=k)∧
   -1073741824≤(kM a b c d).1∧(kM a b c d).1≤(kM a b c d).2∧(kM a b c d).2≤1073741824:=by
 have p:=(kD h1).2.1;have q:=(kD h2).2.1;have m:=mul_one p.1 p.2.1 p.2.2.1 q.1 q.2.1 q.2.2.1;refine ⟨rfl,fun k=>?_,m.2.1,m.2.2.1,m.2.2.2⟩;unfold cosC;dsimp only;rw [p.2.2.2,q.2.2.2,m.1];unfold bJ;repeat' split
 all_goals simp_all
def BG (r:Int×Int×Int):Int×Int×Int:=(r.1,r.2.1,if r.2.2=2 then 23 else r.2.2)
noncomputable def topS (n1 n2 d1 d2:Int):Int×Int×Int:=
 if d1≤0∧0≤d2 then (0,0,21) else
  if (iB n1 n2 d1 d2).2.2=5 then BG (dN 0 1073741824) else if (iB n1 n2 d1 d2).2.2≠0 then (0,0,(iB n1 n2 d1 d2).2.2) else BG (dN (iB n1 n2 d1 d2).1 (iB n1 n2 d1 d2).2.1)
def yD (a b c d u v:Int):Int×Int×Int:=mQ (eJ (5400000-d) (5400000-c)).1 (eJ (5400000-d) (5400000-c)).2.1 (lT a b (5400000-v) (5400000-u)).1 (lT a b (5400000-v) (5400000-u)).2
theorem fin_cond (r:Int×Int×Int):cond (r.2.2==2) (r.1,r.2.1,(23:Int)) (r.1,r.2.1,r.2.2)=BG r:=by
 unfold BG;by_cases h:r.2.2=2
 ·have:(r.2.2==2)=true:=beq_iff_eq.2 h;rw [this,if_pos h];rfl
 ·have:(r.2.2==2)=false:=beq_eq_false_iff_ne.2 h;rw [this,if_neg h];rfl
theorem num_ok {a b c d u v:Int} (h1:mD a b=true) (h2:mD c d=true) (hu:0≤u) (huv:u≤v) (hv:v≤10800000):
  (yD a b c d u v).2.2=0∧aG (yD a b c d u v).1 (yD a b c d u v).2.1=true:=by
 have l1:=bV h1;have l2:=bV h2;have hh:aF (5400000-d) (5400000-c)=true:=bE (by omega) (by omega) (by omega);have h:=(kD hh).2.2;have k:=vI (a:=a) (b:=b) (c:=5400000-v) (d:=5400000-u) (by omega) (by omega) (by omega) (by omega) (by omega) (by omega);unfold yD mQ;rw [if_pos (iC (dH (by omega) h.2.1 (by omega)) (dH (by omega) k.2.2.2.1 (by omega)))];have hv:aG ((eJ (5400000-d) (5400000-c)).1-(lT a b (5400000-v) (5400000-u)).2) ((eJ (5400000-d) (5400000-c)).2.1-(lT a b (5400000-v) (5400000-u)).1)=true:=dH (by omega) (by omega) (by omega);rw [KH hv];exact ⟨rfl,hv⟩
theorem SN {a b:Int} (h1:-100000000≤a∧a≤100000000) (h2:-100000000≤b∧b≤100000000):wF a b=(5400000-b,5400000-a):=by
 unfold wF;rw [aX (by omega),aX (by omega)]
theorem top_eq {a b c d e f u v:Int} (h1:mD a b=true) (h2:mD c d=true) (hu:0≤u) (huv:u≤v) (hv:v≤10800000):
  fB a b c d e f u v=topS (yD a b c d u v).1 (yD a b c d u v).2.1 (kM a b (5400000-v) (5400000-u)).1 (kM a b (5400000-v) (5400000-u)).2:=by
 have l1:=bV h1;have l2:=bV h2;have hh:aF (5400000-d) (5400000-c)=true:=bE (by omega) (by omega) (by omega);have hz:aF (5400000-v) (5400000-u)=true:=bE (by omega) (by omega) (by omega);have h:=(kD hh).2.2;have k:=vI (a:=a) (b:=b) (c:=5400000-v) (d:=5400000-u) (by omega) (by omega) (by omega) (by omega) (by omega) (by omega);have q:=sL l1.1 hz;have n0:=(num_ok h1 h2 hu huv hv).1;unfold fB topMK;simp only [lt,oG,pF];rw [SN (a:=c) (b:=d) (by omega) (by omega),SN (a:=u) (b:=v) (by omega) (by omega)];simp only [];have e1:bJ 0 (eJ (5400000-d) (5400000-c)).2.2=0:=by rw [h.2.2.2];rfl
 rw [e1,k.2.1];have e2:mQ (eJ (5400000-d) (5400000-c)).1 (eJ (5400000-d) (5400000-c)).2.1 (lT a b (5400000-v) (5400000-u)).1 (lT a b (5400000-v) (5400000-u)).2=yD a b c d u v:=rfl;rw [e2,n0,q.2.1];simp only [fin_cond,bJ,if_true];generalize yD a b c d u v=N;generalize (kM a b (5400000-v) (5400000-u))=D;unfold topS;generalize iB N.1 N.2.1 D.1 D.2=r;have e3:((0:Int) != 0)=false:=rfl;rw [e3];simp only [cond_false];by_cases c1:D.1≤0
 ·have:decide (D.1≤0)=true:=decide_eq_true c1;rw [this];by_cases c2:D.2≥0
  ·have:decide (D.2≥0)=true:=decide_eq_true c2;rw [this,if_pos ⟨c1,c2⟩];rfl
  ·have:decide (D.2≥0)=false:=decide_eq_false c2;rw [this,if_neg (by omega)];simp only [cond_true,cond_false];by_cases c3:r.2.2=5
   ·rw [if_pos c3];simp [c3]
   ·rw [if_neg c3];by_cases c4:r.2.2=0
    ·simp [c4]
    ·rw [beq_eq_false_iff_ne.2 c3,bne_iff_ne.2 c4];simp [c4]
 ·have:decide (D.1≤0)=false:=decide_eq_false c1;rw [this,if_neg (by omega)];simp only [cond_false];by_cases c3:r.2.2=5
  ·rw [if_pos c3];simp [c3]
  ·rw [if_neg c3];by_cases c4:r.2.2=0
   ·simp [c4]
   ·rw [beq_eq_false_iff_ne.2 c3,bne_iff_ne.2 c4];simp [c4]
theorem div_err {a b c d:Int} (h1:aG a b=true) (h2:aG c d=true) (hz:¬(c≤0∧0≤d)):(iB a b c d).2.2=0∨(iB a b c d).2.2=5:=by
 unfold iB;rw [if_pos (iC h1 h2),if_neg (by simp [wZ];omega)];unfold kN;split<;>simp
theorem div_val {a b c d:Int} (h:(iB a b c d).2.2=0):aG (iB a b c d).1 (iB a b c d).2.1=true:=by
 unfold iB at h ⊢;obtain ⟨hb,hf⟩:=RM h;rw [if_pos hb];split at hf
 ·cases hf
 ·rename_i hz;rw [if_neg hz];obtain ⟨hv,e⟩:=fit_ok hf;rw [e];exact hv
theorem asn_low:mF (-1073741824)=-5400000:=yX (by omega) ⟨by omega,by omega,by decide+kernel,.inr (by decide+kernel)⟩
theorem UZ:dN 0 1073741824=(0,10800000,0):=by
 unfold dN mR aV;simp [aG,asn_low]
def nV (a b c d e f:Int):Int×Int×Int:=bT (kM a b c d).1 (kM a b c d).2 (eJ e f).1 (eJ e f).2.1
def uT (a b c d e f:Int):Int×Int×Int:=fS (lT a b c d).1 (lT a b c d).2 (nV a b c d e f).1 (nV a b c d e f).2.1
theorem zsum_ok {a b c d e f:Int} (h:cS a b c d e f=true):(nV a b c d e f).2.2=0∧uT a b c d e f=((lT a b c d).1+(nV a b c d e f).1,(lT a b c d).2+(nV a b c d e f).2.1,0)∧
  aG (uT a b c d e f).1 (uT a b c d e f).2.1=true:=by
 obtain ⟨h1,h2,h3⟩:=eB h;have l1:=bV h1;have l2:=bV h2;have k:=vI (a:=a) (b:=b) (c:=c) (d:=d) (by omega) (by omega) (by omega) (by omega) (by omega) (by omega);have q:=sL l1.1 l2.1;have o:=(kD h3).2.2;have m:=mul_one q.2.2.1 q.2.2.2.1 q.2.2.2.2 (by omega) o.2.1 o.2.2.1;have em:(bT (kM a b c d).1 (kM a b c d).2 (eJ e f).1 (eJ e f).2.1)=nV a b c d e f:=rfl;rw [em] at m;have ev:uT a b c d e f=((lT a b c d).1+(nV a b c d e f).1,(lT a b c d).2+(nV a b c d e f).2.1,0):=by
  unfold uT fS;rw [if_pos (iC (dH (by omega) k.2.2.2.1 (by omega)) (dH (by omega) m.2.2.1 (by omega)))];exact KH (dH (by omega) (by omega) (by omega))
 refine ⟨m.1,ev,?_⟩;rw [ev];exact dH (by dsimp only;omega) (by dsimp only;omega) (by dsimp only;omega)
def CM (p q e f:Int):Int×Int×Int:=
 if dE e f≥10800000∧cJ e f≤21600000 then (p,q,0) else if cJ e f≤10800000 then cD (21600000-q) (21600000-p) else if p+q>10800000 then (p,21600000-p,0) else cD (-q) q
theorem RK {a b c d e f u v:Int} (ht:cS a b c d e f=true) (hu:0≤u) (huv:u≤v) (hv:v≤10800000):
  CW a b c d e f u v=if (fB a b c d e f u v).2.2≠0 then (0,0,(fB a b c d e f u v).2.2) else
   (if dE e f≥10800000∧cJ e f≤21600000 then ((fB a b c d e f u v).1,(fB a b c d e f u v).2.1,0) else if cJ e f≤10800000 then cD (i64.wrap (21600000-(fB a b c d e f u v).2.1)) (i64.wrap (21600000-(fB a b c d e f u v).1)) else if i64.wrap ((fB a b c d e f u v).1+(fB a b c d e f u v).2.1)>10800000 then ((fB a b c d e f u v).1,i64.wrap (21600000-(fB a b c d e f u v).1),0) else cD (i64.wrap (0-(fB a b c d e f u v).2.1)) (fB a b c d e f u v).2.1):=by
 obtain ⟨_,_,he⟩:=eB ht;unfold CW aziMK;simp only [lt];have et:cD e f=(dE e f,cJ e f,0):=by unfold cD;rw [if_pos he]
 rw [ht,et];generalize fB a b c d e f u v=r;have d1:decide (u<0)=false:=decide_eq_false (by omega);have d2:decide (u>v)=false:=decide_eq_false (by omega);have d3:decide (v>10800000)=false:=decide_eq_false (by omega);rw [d1,d2,d3];simp only [Bool.not_true,cond_false];by_cases c0:r.2.2=0
 ·have:(r.2.2 != 0)=false:=bne_eq_false_iff_eq.2 c0;rw [this,if_neg (by simpa using c0)];have z:((0:Int) != 0)=false:=rfl;simp only [cond_false,z];by_cases c1:dE e f≥10800000
  ·have:decide (dE e f≥10800000)=true:=decide_eq_true c1;rw [this];by_cases c2:cJ e f≤21600000
   ·have:decide (cJ e f≤21600000)=true:=decide_eq_true c2;rw [this,if_pos ⟨c1,c2⟩];rfl
   ·have:decide (cJ e f≤21600000)=false:=decide_eq_false c2;rw [this,if_neg (by omega)];simp only [cond_true,cond_false];by_cases c3:cJ e f≤10800000
    ·rw [decide_eq_true c3,if_pos c3];rfl
    ·rw [decide_eq_false c3,if_neg c3];simp only [cond_false];by_cases c4:i64.wrap (r.1+r.2.1)>10800000
     ·rw [decide_eq_true c4,if_pos c4];rfl
     ·rw [decide_eq_false c4,if_neg c4];rfl
  ·have:decide (dE e f≥10800000)=false:=decide_eq_false c1;rw [this,if_neg (by omega)];simp only [cond_false];by_cases c3:cJ e f≤10800000
   ·rw [decide_eq_true c3,if_pos c3];rfl
   ·rw [decide_eq_false c3,if_neg c3];simp only [cond_false];by_cases c4:i64.wrap (r.1+r.2.1)>10800000
    ·rw [decide_eq_true c4,if_pos c4];rfl
    ·rw [decide_eq_false c4,if_neg c4];rfl
 ·have:(r.2.2 != 0)=true:=bne_iff_ne.2 c0;rw [this,if_pos c0];rfl
theorem hav_v {a b:Int} {d q:Rat} (hv:aF a b=true) (hd:0≤d) (hd1:d≤1) (h:Hs d a b q):Vl (eJ a b) (1000*d+3*e1) ((1-co q)/2):=by
 have c:=cos_B hv hd hd1 h;have e1':(aN a b).1=mX (a+5400000) (b+5400000):=by simp [aN,hv]
 have e2':(aN a b).2.1=mW (a+5400000) (b+5400000):=by simp [aN,hv]
 have e3:(eJ a b).1=(1073741824-mW (a+5400000) (b+5400000))/2:=by simp [eJ,hv]
 have e4:(eJ a b).2.1=(1073741824-mX (a+5400000) (b+5400000)+1)/2:=by simp [eJ,hv]
 refine ⟨(sR hv).2.2.2,(sR hv).val,?_⟩;rw [e1',e2'] at c;rw [e3,e4];have e1b:=iR;have half:∀x:Int,((x/2:Int):Rat)≤(x:Rat)/2∧(x:Rat)/2-1/2≤((x/2:Int):Rat):=fun x=>by
  have h1:=cQ (show 2*(x/2)≤x by omega);have h2:=cQ (show x≤2*(x/2)+1 by omega);rw [abJ] at h1;rw [adQ,abJ] at h2;rw [show ((2:Int):Rat)=2 by rfl] at h1 h2;rw [show ((1:Int):Rat)=1 by rfl] at h2;constructor<;>grind
 have p:=half (1073741824-mW (a+5400000) (b+5400000));have r:=half (1073741824-mX (a+5400000) (b+5400000)+1);rw [acZ] at p;rw [adQ,acZ] at r;rw [show ((1073741824:Int):Rat)=1073741824 by rfl] at p r;rw [show ((1:Int):Rat)=1 by rfl] at r;unfold Cq at c;unfold Hs at*;generalize (mW (a+5400000) (b+5400000):Rat)=u at*;generalize (mX (a+5400000) (b+5400000):Rat)=v at*;generalize co q=w at*;constructor<;>grind
theorem ahav_v {r:Int×Int×Int} {e t d q X:Rat} (h:Vl r e X) (hq:Cl t (si q) (1-2*X)) (q0:-5400000≤q) (q1:q≤5400000) (he:0≤e) (ht:0≤t) (hd0:0≤d) (hs:2*e+2*e1+2147483648*t≤1/4) (hd:100000*(2*e+2*e1+2147483648*t+4*e1)≤d*d):
  (dN r.1 r.2.1).2.2=0∧0≤(dN r.1 r.2.1).1∧(dN r.1 r.2.1).1≤(dN r.1 r.2.1).2.1∧(dN r.1 r.2.1).2.1≤10800000∧Hs d (dN r.1 r.2.1).1 (dN r.1 r.2.1).2.1 (5400000-q):=by
 have b:=(bdq q).2;have u:=cT;have e1b:=iR;have ub:1073741824*(8192*u0)≤e1:=by decide+kernel
 have v:=fR h.2.1;have hv:=h.2.1;have hh:=h.2.2;unfold Hs at hh;unfold Cl at hq;have c1:r.1≤1073741824:=LO (e:=1/2) (by rw [show ((1073741824:Int):Rat)=1073741824 by rfl];grind) (by grind);have c2:0≤r.2.1:=LO (e:=1/2) (by rw [show ((0:Int):Rat)=0 by rfl];grind) (by grind);have lo:((max r.1 0:Int):Rat)≤1073741824*X+e+e1+1073741824*t:=by
  rcases atQ r.1 0 with c | c
  ·rw [Int.max_eq_right c,show ((0:Int):Rat)=0 by rfl];grind
  ·rw [Int.max_eq_left c];grind
 have hi:1073741824*X-e-e1-1073741824*t≤((min r.2.1 1073741824:Int):Rat):=by
  rcases atQ r.2.1 1073741824 with c | c
  ·rw [Int.min_eq_left c];grind
  ·rw [Int.min_eq_right c,show ((1073741824:Int):Rat)=1073741824 by rfl];grind
 have sv:Vl (1073741824-2*min r.2.1 1073741824,1073741824-2*max r.1 0,(0:Int)) (2*e+2*e1+2147483648*t) (1-2*X):=by
  refine ⟨rfl,dH (by dsimp only;omega) (by dsimp only;omega) (by dsimp only;omega),?_⟩;unfold Hs;dsimp only;rw [acZ,acZ,abJ,abJ,show ((1073741824:Int):Rat)=1073741824 by rfl,show ((2:Int):Rat)=2 by rfl];constructor<;>grind
 have sn':Vl (1073741824-2*min r.2.1 1073741824,1073741824-2*max r.1 0,(0:Int)) (2*e+2*e1+2147483648*t) (si q):=by
  refine ⟨rfl,sv.2.1,?_⟩;have k:=sv.2.2;unfold Hs;dsimp only;rw [acZ,acZ,abJ,abJ,show ((1073741824:Int):Rat)=1073741824 by rfl,show ((2:Int):Rat)=2 by rfl];have lo':((max r.1 0:Int):Rat)≤1073741824*X+e∨((max r.1 0:Int):Rat)=0:=by
   rcases atQ r.1 0 with c | c
   ·right;rw [Int.max_eq_right c];rfl
   ·left;rw [Int.max_eq_left c];grind
  have hi':1073741824*X-e≤((min r.2.1 1073741824:Int):Rat)∨((min r.2.1 1073741824:Int):Rat)=1073741824:=by
   rcases atQ r.2.1 1073741824 with c | c
   ·left;rw [Int.min_eq_left c];grind
   ·right;rw [Int.min_eq_right c];rfl
  generalize ((max r.1 0:Int):Rat)=L at*;generalize ((min r.2.1 1073741824:Int):Rat)=M at*;constructor
  ·rcases hi' with c | c<;>grind
  ·rcases lo' with c | c<;>grind
 have k:=RH sn' (Cl.refl (si q) (e:=0) (by grind)) q0 q1 (by grind) (by grind) hd0 (by grind) (by rw [show 1073741824*(0:Rat)=0 by grind];grind);obtain ⟨k1,k2⟩:=k;dsimp only at k1 k2;have a1:=k1.1;have a2:=k1.2.1;have a3:=k1.2.2.1;have a4:=k1.2.2.2;have ev:dN r.1 r.2.1=(5400000-(aV (1073741824-2*min r.2.1 1073741824) (1073741824-2*max r.1 0)).2.1,5400000-(aV (1073741824-2*min r.2.1 1073741824) (1073741824-2*max r.1 0)).1,0):=by
  unfold dN mR;rw [hv];simp only [Bool.true_eq_false,if_false];rw [if_pos (by omega),if_pos a4]
 rw [ev];refine ⟨rfl,by dsimp only;omega,by dsimp only;omega,by dsimp only;omega,?_⟩;unfold Hs at k2 ⊢;dsimp only;rw [acZ,acZ,show ((5400000:Int):Rat)=5400000 by rfl];constructor<;>grind
theorem div_v {n d:Int×Int×Int} {e δ X:Rat} (hn:Vl n e (δ*X)) (hd:Vl d e δ) (d0:1≤d.1) (hX0:-1≤X) (hX:X≤2) (he:0≤e) (ok:(iB n.1 n.2.1 d.1 d.2.1).2.2=0):Vl (iB n.1 n.2.1 d.1 d.2.1) (8589934592*e) X:=by
 have vd:=div_val ok;refine ⟨ok,vd,?_⟩;have nb:=fR hn.2.1;have db:=fR hd.2.1;have ev:iB n.1 n.2.1 d.1 d.2.1=(zN n.1 n.2.1 d.1 d.2.1,zM n.1 n.2.1 d.1 d.2.1,0):=by
  have q:=ok;unfold iB at q ⊢;obtain ⟨hb,hf⟩:=RM q;rw [if_pos hb];split at hf
  ·cases hf
  ·rename_i hz;rw [if_neg hz];exact (fit_ok hf).2
 rw [ev];obtain ⟨n',n1,n2,n3,n4⟩:=hn.2.2.clamp he nb.2.1;obtain ⟨t',t1,t2,t3,t4⟩:=hd.2.2.clamp he db.2.1;have D0:=cQ d0;rw [show ((1:Int):Rat)=1 by rfl] at D0;have l1:=(BE (a:=n.1) (b:=n.2.1) (c:=d.1) (d:=d.2.1) (x:=n.1) (y:=d.1) (.inl (by omega)) (aeX _) nb.2.1 (aeX _) db.2.1).1;have l2:=(BE (a:=n.1) (b:=n.2.1) (c:=d.1) (d:=d.2.1) (x:=n.1) (y:=d.2.1) (.inl (by omega)) (aeX _) nb.2.1 db.2.1 (aeX _)).1;have u1:=(BE (a:=n.1) (b:=n.2.1) (c:=d.1) (d:=d.2.1) (x:=n.2.1) (y:=d.1) (.inl (by omega)) nb.2.1 (aeX _) (aeX _) db.2.1).2;have u2:=(BE (a:=n.1) (b:=n.2.1) (c:=d.1) (d:=d.2.1) (x:=n.2.1) (y:=d.2.1) (.inl (by omega)) nb.2.1 (aeX _) db.2.1 (aeX _)).2;have fl:∀x y:Int,1≤y→iZ x y*y≤x:=fun x y hy=>by
  unfold iZ;rw [if_pos (by omega)];have:=aqQ x (show y≠0 by omega);exact this
 have ce':∀x y:Int,1≤y→x≤oE x y*y:=fun x y hy=>by
  have:=fl (-x) y hy;unfold oE;have e:-iZ (-x) y*y=-(iZ (-x) y*y):=Int.neg_mul _ _;omega
 have L1:zN n.1 n.2.1 d.1 d.2.1*d.1≤n.1*1073741824:=Int.le_trans (adZ l1 (by omega)) (fl _ _ d0);have L2:zN n.1 n.2.1 d.1 d.2.1*d.2.1≤n.1*1073741824:=Int.le_trans (adZ l2 (by omega)) (fl _ _ (by omega));have U1:n.2.1*1073741824≤zM n.1 n.2.1 d.1 d.2.1*d.1:=Int.le_trans (ce' _ _ d0) (adZ u1 (by omega));have U2:n.2.1*1073741824≤zM n.1 n.2.1 d.1 d.2.1*d.2.1:=Int.le_trans (ce' _ _ (by omega)) (adZ u2 (by omega));have L1:=cQ L1;have L2:=cQ L2;have U1:=cQ U1;have U2:=cQ U2;rw [abJ,abJ,show ((1073741824:Int):Rat)=1073741824 by rfl] at L1 L2 U1 U2;clear l1 l2 u1 u2 fl ce' ev vd ok;unfold Hs;dsimp only;generalize (zN n.1 n.2.1 d.1 d.2.1:Rat)=L at*;generalize (zM n.1 n.2.1 d.1 d.2.1:Rat)=U at*;generalize (n.1:Rat)=a at*;generalize (n.2.1:Rat)=b at*;generalize (d.1:Rat)=c at*;generalize (d.2.1:Rat)=f at*;have lL:=YW L t1 t2;have lU:=YW U t1 t2;rw [aoZ c,aoZ t',aoZ f] at lL lU;have A:L*t'≤1073741824*n':=by rcases lL with k | k<;>grind
 have B:1073741824*n'≤U*t':=by rcases lU with k | k<;>grind
 have q1:=aM (a:=1073741824*δ-t') (b:=1073741824*X) (A:=e) (B:=2147483648) t3 t4 (by grind) (by grind);have ex:1073741824*(1073741824*(δ*X))=(1073741824*δ-t')*(1073741824*X)+t'*(1073741824*X):=by grind
 have t0:1≤t':=by grind
 generalize (1073741824*δ-t')*(1073741824*X)=w at*;generalize 1073741824*(δ*X)=z at*;generalize 1073741824*X=P at*;constructor
 ·rcases (adJ:L-8589934592*e≤P∨P≤L-8589934592*e) with k | k
  ·exact k
  ·have m:=aaZ (show 0≤t'-1 by grind) (show 0≤L-P by grind);grind
 ·rcases (adJ:P≤U+8589934592*e∨U+8589934592*e≤P) with k | k
  ·exact k
  ·have m:=aaZ (show 0≤t'-1 by grind) (show 0≤P-U by grind);grind
def dZ:Rat:=pw 590
def eN:Rat:=pw 560
def dA:Rat:=pw 250
theorem lvH:0≤dZ∧dZ≤1∧100000*(2*(1000*e1)+2*e1+2147483648*(5*e0)+4*e1)≤dZ*dZ∧2*(1000*e1)+2*e1+2147483648*(5*e0)≤1/4∧dZ≤dS∧1073741824*(8000*u0)≤e1∧
  3*(2000*dZ+5*e1)≤eN/2∧1000*dZ+3*e1+(3*e1)+1073741824*(30*eT)≤eN/2∧0<eN∧100000*(2*(8589934592*eN)+2*e1+2147483648*(100000*u0)+4*e1)≤dA*dA∧2*(8589934592*eN)+2*e1+2147483648*(100000*u0)≤1/4∧0≤dA∧4*dA≤dS∧eN≤1/4∧1000*e0≤eT∧8000000*(4294967296*(10*eT)+e0)≤dA∧0<eT:=by decide+kernel
theorem zsum_v {a b c d e f:Int} {x y t:Rat} (h:cS a b c d e f=true) (hx:Hs 0 a b x) (hy:Hs 0 c d y) (ht:Hs 0 e f t):Vl (uT a b c d e f) (1000*e1) ((1-yE x y t)/2):=by
 obtain ⟨h1,h2,h3⟩:=eB h;have l1:=bV h1;have l2:=bV h2;have e1b:=iR;have w11:=lv.2.2.2.2.2.2.2.2.2.2;have k:=vI (a:=a) (b:=b) (c:=c) (d:=d) (by omega) (by omega) (by omega) (by omega) (by omega) (by omega);have hv:aF (a-d) (b-c)=true:=bE (by omega) (by omega) (by omega);have hq:Hs 0 (a-d) (b-c) (x-y):=by
  have:=hx.sub hy;exact this.wide (by grind) (aeX _) (aeX _)
 have v1:=hav_v hv (by grind) (by grind) hq;have v2:=jK (aU l1.1) (aU l2.1) (by grind) (by grind) (mG l1.1 hx) (mG l2.1 hy);have v3:=hav_v h3 (by grind) (by grind) ht;have o2:=aR (aU l1.1) (aU l2.1);have v4:=jK o2 (sR h3) (e:=3*(5*e1)) (by grind) (by grind) v2 (v3.wide (by grind));have q:=sL l1.1 l2.1;have o4:=aR o2 (sR h3);have v5:=add_v (sR hv) o4 v1 v4;have ez:uT a b c d e f=fS (eJ (a-d) (b-c)).1 (eJ (a-d) (b-c)).2.1 (bT (bT (aN a b).1 (aN a b).2.1 (aN c d).1 (aN c d).2.1).1 (bT (aN a b).1 (aN a b).2.1 (aN c d).1 (aN c d).2.1).2.1 (eJ e f).1 (eJ e f).2.1).1 (bT (bT (aN a b).1 (aN a b).2.1 (aN c d).1 (aN c d).2.1).1 (bT (aN a b).1 (aN a b).2.1 (aN c d).1 (aN c d).2.1).2.1 (eJ e f).1 (eJ e f).2.1).2.1:=by
  unfold uT nV;rw [k.1,q.1]
 rw [←ez] at v5;have s:=(UI x y).1;have cl:Cl (8000*u0) ((1-yE x y t)/2) ((1-co (x-y))/2+co x*co y*((1-co t)/2)):=by
  unfold yE;have u:=cT.1;unfold Cl at*;rw [show co x*co y*((1-co t)/2)=co x*co y/2-co x*co y*co t/2 by grind];generalize co x*co y*co t=p1 at*;generalize co x*co y=p2 at*;generalize si x*si y=p3 at*;generalize co (x-y)=p4 at*;constructor<;>grind
 have w6:=lvH.2.2.2.2.2.1;exact (v5.near cl).wide (by grind)
theorem zen_ok {a b c d e f:Int} (h:cS a b c d e f=true) (ok:(dN (uT a b c d e f).1 (uT a b c d e f).2.1).2.2=0):dB a b c d e f=dN (uT a b c d e f).1 (uT a b c d e f).2.1:=by
 have z:=zsum_ok h;obtain ⟨h1,h2,h3⟩:=eB h;have l1:=bV h1;have l2:=bV h2;have k:=vI (a:=a) (b:=b) (c:=c) (d:=d) (by omega) (by omega) (by omega) (by omega) (by omega) (by omega);have q:=sL l1.1 l2.1;have hh:=(kD h3).2.2;unfold dB QW;rw [h];simp only [lt,oG,pF,FF,KM,Bool.not_true,cond_false];rw [q.2.1,hh.2.2.2,LC];have e1:(bT (kM a b c d).1 (kM a b c d).2 (eJ e f).1 (eJ e f).2.1)=nV a b c d e f:=rfl;rw [e1,z.1,LC,k.2.1];have e2:(fS (lT a b c d).1 (lT a b c d).2 (nV a b c d e f).1 (nV a b c d e f).2.1)=uT a b c d e f:=rfl;have e3:(uT a b c d e f).2.2=0:=by rw [z.2.1]
 rw [e2,e3,LC,ok];obtain ⟨p,r,s,hx⟩:∃p r s,dN (uT a b c d e f).1 (uT a b c d e f).2.1=(p,r,s):=⟨_,_,_,rfl⟩;rw [hx] at ok ⊢;dsimp only at ok;rw [ok];rfl
theorem zen_v {a b c d e f:Int} {x y t h' z':Rat} (h:cS a b c d e f=true) (hx:Hs 0 a b x) (hy:Hs 0 c d y) (ht:Hs 0 e f t) (s:sA x y t h' z'):
  (dB a b c d e f).2.2=0∧0≤(dB a b c d e f).1∧(dB a b c d e f).1≤(dB a b c d e f).2.1∧(dB a b c d e f).2.1≤10800000∧Hs dZ (dB a b c d e f).1 (dB a b c d e f).2.1 (5400000-h'):=by
 obtain ⟨w1,w2,w3,w4,w5,w6,w7,w8,w9,w10,w11,w12,w13,w14,w15,w16,w17⟩:=lvH;have e1b:=iR;have eb:=eR;have v:=zsum_v h hx hy ht;obtain ⟨h0,h1,z0,z1,k1,k2,k3⟩:=s;have k:=ahav_v v (t:=5*e0) (by rw [show 1-2*((1-yE x y t)/2)=yE x y t by grind];exact k1) h0 h1 (by grind) (by grind) w1 w4 w3;rw [zen_ok h k.1];exact k
theorem SU {p r X e:Rat} (hc:Cl e p r) (hX:-2≤X∧X≤2):Cl (2*e) (p*X) (r*X):=by
 have m:=aM (a:=p-r) (b:=X) (A:=e) (B:=2) hc.1 hc.2 hX.1 hX.2;unfold Cl;rw [show p*X-r*X=(p-r)*X by grind];generalize (p-r)*X=v at*;constructor<;>grind
theorem back_c {x y t h z:Rat} (s:sA x y t h z):Cl (50*eT) (si y) (si h*si x+co h*co z*co x):=by
 obtain ⟨h0,h1,z0,z1,k1,k2,k3⟩:=s;have eb:=eR;have w10:=lv.2.2.2.2.2.2.2.2.2.1;have t0:=lv.2.1;have ub:=cT.1;have ee:e0=1048576*u0:=rfl;have un:=EM x;have bx:=iN x;have bys:=iN y;have a1:=SU k1 bx.2;have a2:=SU k2 bx.1;have a5:=SU un bys.2;have e:yE x y t*si x+yC x y t*co x=(co x*co x+si x*si x)*si y:=by unfold yE yC;grind
 unfold Cl at*;generalize yE x y t*si x=v1 at*;generalize yC x y t*co x=v2 at*;generalize (co x*co x+si x*si x)*si y=v3 at*;generalize si h*si x=v4 at*;generalize co h*co z*co x=v5 at*;constructor<;>grind
theorem top_v {a b c d e f:Int} {x y t h' z' A:Rat} (h:cS a b c d e f=true) (hx:Hs 0 a b x) (hy:Hs 0 c d y) (s:sA x y t h' z') (A0:0≤A) (A1:A≤10800000) (hA:Cl (3000*u0) (co A) (co z')) {u v:Int} (u0':0≤u) (uv:u≤v) (v1:v≤10800000) (hz:Hs dZ u v (5400000-h')):
  (fB a b c d e f u v).2.2=21∨((fB a b c d e f u v).2.2=0∧0≤(fB a b c d e f u v).1∧(fB a b c d e f u v).1≤(fB a b c d e f u v).2.1∧(fB a b c d e f u v).2.1≤10800000∧Hs dA (fB a b c d e f u v).1 (fB a b c d e f u v).2.1 A∧1/2147483648≤co h'):=by
 obtain ⟨w1,w2,w3,w4,w5,w6,w7,w8,w9,w10,w11,w12,w13,w14,w15,w16,w17⟩:=lvH;have e1b:=iR;have eb:=eR;have ub:=cT;obtain ⟨h1,h2,h3⟩:=eB h;have l1:=bV h1;have l2:=bV h2;have hzl:mD (5400000-v) (5400000-u)=true:=lat_mk (by omega) (by omega) (by omega);have hva:=(bV hzl).1;have hd:aF (5400000-d) (5400000-c)=true:=bE (by omega) (by omega) (by omega);have hw:aF (a-(5400000-u)) (b-(5400000-v))=true:=bE (by omega) (by omega) (by omega);have hh:Hs dZ (5400000-v) (5400000-u) h':=by
  unfold Hs at hz ⊢;rw [acZ,acZ,show ((5400000:Int):Rat)=5400000 by rfl];constructor<;>grind
 have k:=vI (a:=a) (b:=b) (c:=5400000-v) (d:=5400000-u) (by omega) (by omega) (by omega) (by omega) (by omega) (by omega);have q:=sL l1.1 hva;have bt:=back_c s;have cx:=(mG l1.1 hx).wide (f:=2000*dZ+5*e1) (by grind);have ch:=cos_v hva w1 w2 hh;have vD:=(jK (aU l1.1) (aU hva) (by grind) (by grind) cx ch).wide (f:=eN) (by grind);have oD:=aR (aU l1.1) (aU hva);have p1:=hav_v hd (d:=0) (q:=5400000-y) (by grind) (by grind) (by
  unfold Hs at hy ⊢;rw [acZ,acZ,show ((5400000:Int):Rat)=5400000 by rfl];constructor<;>grind)
 have p2:=hav_v hw w1 w2 (q:=x-h') (by
  have:=hx.sub hh;exact this.wide (by grind) (aeX _) (aeX _))
 have vN:=sub_v (sR hd) (sR hw) p1 p2;have sq:=(UI x h').1;have cq:=(WJ y).2;have clN:Cl (28*eT) (co x*co h'*((1-co A)/2)) ((1-co (5400000-y))/2-(1-co (x-h'))/2):=by
  have ee:e0=1048576*u0:=rfl;have bx:=iN x;have bh:=iN h';have bb:=aM bx.1.1 bx.1.2 bh.1.1 bh.1.2;have m:=aM (a:=co x*co h') (b:=co A-co z') (A:=4) (B:=3000*u0) (by grind) (by grind) hA.1 hA.2;rw [show co x*co h'*(co A-co z')=co x*co h'*co A-co h'*co z'*co x by grind] at m;rw [aoZ (si x) (si h')] at sq;clear hA vN vD cx ch p1 p2 q k oD hz hh hx hy;unfold Cl at*;rw [show co x*co h'*((1-co A)/2)=co x*co h'/2-co x*co h'*co A/2 by grind];generalize co x*co h'*co A=g1 at*;generalize co h'*co z'*co x=g2 at*;generalize co x*co h'=g3 at*;generalize si h'*si x=g4 at*;generalize co (5400000-y)=g5 at*;generalize co (x-h')=g6 at*;generalize si y=g7 at*;constructor<;>grind
 have vN':=(vN.near clN).wide (f:=eN) (by grind);have eN':mQ (eJ (5400000-d) (5400000-c)).1 (eJ (5400000-d) (5400000-c)).2.1 (eJ (a-(5400000-u)) (b-(5400000-v))).1 (eJ (a-(5400000-u)) (b-(5400000-v))).2.1=yD a b c d u v:=by
  unfold yD;rw [k.1]
 have eD':bT (aN a b).1 (aN a b).2.1 (aN (5400000-v) (5400000-u)).1 (aN (5400000-v) (5400000-u)).2.1=((kM a b (5400000-v) (5400000-u)).1,(kM a b (5400000-v) (5400000-u)).2,0):=by
  rw [q.1];have:=oD.2.2.2;generalize bT (aN a b).1 (aN a b).2.1 (aN (5400000-v) (5400000-u)).1 (aN (5400000-v) (5400000-u)).2.1=r at*;obtain ⟨r1,r2,r3⟩:=r;dsimp only at this ⊢;rw [this]
 rw [eN'] at vN';rw [eD'] at vD oD;rw [top_eq h1 h2 u0' uv v1];clear eN' eD' vN p1 p2 clN sq cq k q;generalize yD a b c d u v=N at*;generalize kM a b (5400000-v) (5400000-u)=D at*;unfold topS;by_cases c1:D.1≤0∧0≤D.2
 ·left;rw [if_pos c1]
 ·right;rw [if_neg c1];have cx0:=sJ (h:=x) (by have:=cQ l1.2.1;unfold Hs at hx;rw [show ((-5400000:Int):Rat)=-5400000 by rfl] at this;grind) (by have:=cQ l1.2.2.2;unfold Hs at hx;rw [show ((5400000:Int):Rat)=5400000 by rfl] at this;grind);have ch0:=sJ s.1 s.2.1;have vD2:=vD.2.2;unfold Hs at vD2;dsimp only at vD2;have pos:-(5*e0)≤co x*co h':=by
   have:=aaZ (show 0≤co x+e0 by grind) (show 0≤co h'+e0 by grind);have m1:=aaZ (show 0≤e0 by grind) (show 0≤2-co x by grind);have m2:=aaZ (show 0≤e0 by grind) (show 0≤2-co h' by grind);have m3:e0*e0≤e0/4:=by
    have:=aaZ (show 0≤e0 by grind) (show 0≤1/4-e0 by grind);grind
   grind
  have hi:0≤D.2:=LO (e:=1/2) (by rw [show ((0:Int):Rat)=0 by rfl];grind) (by grind);have d1:1≤D.1:=by omega
  have D1:=cQ d1;rw [show ((1:Int):Rat)=1 by rfl] at D1;have chp:1/2147483648≤co h':=by
   rcases (adJ:1/2147483648≤co h'∨co h'≤1/2147483648) with g | g
   ·exact g
   ·have bx:=(bdq x).1;have:=aaZ (show 0≤1/2147483648-co h' by grind) (show 0≤co x+e0 by grind);have m1:=aaZ (show 0≤e0 by grind) (show 0≤1+co h' by grind);have e0s:e0=1048576*u0:=rfl;have bx2:=bx.2;have vl:=vD2.1;clear hA bt vN' vD oD cx ch hz hh hx hy;generalize co x=X at*;generalize co h'=H at*;grind
  have ca:=(WJ A);have hq:Cl (100000*u0) (si (5400000-A)) (1-2*((1-co A)/2)):=by
   rw [show 1-2*((1-co A)/2)=co A by grind];exact ca.1.wide (by grind)
  have bA:=(bdq A).1;by_cases c5:(iB N.1 N.2.1 D.1 D.2).2.2=5
  ·rw [if_pos c5,UZ];refine ⟨rfl,by decide,by decide,by decide,?_,chp⟩;unfold Hs BG;dsimp only;rw [show ((0:Int):Rat)=0 by rfl,show ((10800000:Int):Rat)=10800000 by rfl];constructor<;>grind
  ·have c0:(iB N.1 N.2.1 D.1 D.2).2.2=0:=by
    rcases div_err vN'.2.1 vD.2.1 (fun g=>c1 g) with g | g
    ·exact g
    ·exact absurd g c5
   have vQ:=div_v (n:=N) (d:=(D.1,D.2,(0:Int))) (e:=eN) (δ:=co x*co h') (X:=(1-co A)/2) vN' vD d1 (by grind) (by grind) (by grind) c0;dsimp only at vQ;have r:=ahav_v vQ hq (by grind) (by grind) (by grind) (by grind) w12 w11 w10;rw [show 5400000-(5400000-A)=A by grind] at r;rw [if_neg c5,if_neg (by omega)];have f23:BG (dN (iB N.1 N.2.1 D.1 D.2).1 (iB N.1 N.2.1 D.1 D.2).2.1)=dN (iB N.1 N.2.1 D.1 D.2).1 (iB N.1 N.2.1 D.1 D.2).2.1:=by
    unfold BG;rw [if_neg (by rw [r.1];decide)]
   rw [f23];exact ⟨r.1,r.2.1,r.2.2.1,r.2.2.2.1,r.2.2.2.2,chp⟩
theorem fold {z:Rat} (z0:-10800000≤z) (z1:z≤16200000):∃A:Rat,0≤A∧A≤10800000∧Cl (3000*u0) (co A) (co z)∧((∃m:Int,A=z+21600000*(m:Rat))∨(∃m:Int,-A=z+21600000*(m:Rat)∧Cl (3000*u0) (si A) (-si z))):=by
 have u:=cT.1;rcases (adJ:0≤z∨z≤0) with c | c
 ·rcases (adJ:z≤10800000∨10800000≤z) with c2 | c2
  ·exact ⟨z,c,c2,Cl.refl _ (by grind),.inl ⟨0,by rw [show ((0:Int):Rat)=0 by rfl];grind⟩⟩
  ·have n:=BU z;have t:=iF (-z) 1;rw [show ((1:Int):Rat)=1 by rfl,show -z+21600000*1=21600000-z by grind] at t;rw [←t.1,←t.2] at n;exact ⟨21600000-z,by grind,by grind,n.1.wide (by grind),.inr ⟨-1,by rw [show ((-1:Int):Rat)=-1 by rfl];grind,n.2.wide (by grind)⟩⟩
 ·have n:=BU z;exact ⟨-z,by grind,by grind,n.1.wide (by grind),.inr ⟨0,by rw [show ((0:Int):Rat)=0 by rfl];grind,n.2.wide (by grind)⟩⟩
theorem si_up {q:Rat} (h0:0≤q) (h1:q≤10800000):-(22000*u0)≤si q:=by
 have u:=cT.1;rcases (adJ:q≤5400000∨5400000≤q) with c | c
 ·have:=tP h0 c;grind
 ·have s:=tP (q:=10800000-q) (by grind) (by grind);have r:=LY q;unfold Cl at r;generalize si (10800000-q)=a at*;generalize si q=b at*;grind
theorem si_dn {q:Rat} (h0:10800000≤q) (h1:q≤21600000):si q≤42000*u0:=by
 have u:=cT.1;have s:=si_up (q:=q-10800000) (by grind) (by grind);have o:=(oppq (q-10800000)).2;rw [show q-10800000+10800000=q by grind] at o;unfold Cl at o;generalize si (q-10800000)=a at*;generalize si q=b at*;grind
theorem si_near {A τ:Rat} (h0:0≤A) (h1:A≤10800000) (hτ:si A≤τ) (h2:0≤τ):A≤8000000*(τ+e0)∨10800000-A≤8000000*(τ+e0):=by
 have b:=uH;have u:=cT;have ee:e0=1048576*u0:=rfl;have eb:=eR;rcases (adJ:A≤5400000∨5400000≤A) with c | c
 ·left;have p:=(tQ h0 c).1;have m:A/3437750≤tb*A:=by
   have:=aaZ (show 0≤tb-1/3437750 by grind) h0;grind
  generalize si A=s at*;generalize tb*A=w at*;grind
 ·right;have p:=(tQ (q:=10800000-A) (by grind) (by grind)).1;have r:=LY A;have m:(10800000-A)/3437750≤tb*(10800000-A):=by
   have:=aaZ (show 0≤tb-1/3437750 by grind) (show 0≤10800000-A by grind);grind
  unfold Cl at r;generalize si (10800000-A)=s' at*;generalize si A=s at*;generalize tb*(10800000-A)=w at*;grind
theorem side_v {x y t h' z' A:Rat} {p q:Int} (s:sA x y t h' z') (y0:-5400000≤y) (y1:y≤5400000) (ch:1/2147483648≤co h') (A0:0≤A) (A1:A≤10800000)
  (hf:(∃m:Int,A=z'+21600000*(m:Rat))∨(∃m:Int,-A=z'+21600000*(m:Rat)∧Cl (3000*u0) (si A) (-si z'))) (hA:Hs dA p q A):
  (si t≤42000*u0→Dr dS p q z')∧(-(42000*u0)≤si t→∃m:Int,Hs dS (-q) (-p) (z'+21600000*(m:Rat)))∧(Dr dS p q z'∨∃m:Int,Hs dS (-q) (-p) (z'+21600000*(m:Rat))):=by
 obtain ⟨w1,w2,w3,w4,w5,w6,w7,w8,w9,w10,w11,w12,w13,w14,w15,w16,w17⟩:=lvH;obtain ⟨h0,h1,z0,z1,k1,k2,k3⟩:=s;have eb:=eR;have ub:=cT;have ee:e0=1048576*u0:=rfl;have cy:=sJ y0 y1;have bt:=iN t;have hn:=hA.neg;have small:∀w:Rat,co h'*w≤5*eT→w≤4294967296*(8*eT):=fun w hw=>by
  rcases (adJ:w≤4294967296*(8*eT)∨4294967296*(8*eT)≤w) with c | c
  ·exact c
  ·have:=aaZ (show 0≤co h'-1/2147483648 by grind) (show 0≤w by grind);grind
 have nearA:si A≤4294967296*(10*eT)→A≤dA∨10800000-A≤dA:=fun hs=>by
  rcases si_near A0 A1 hs (by grind) with g | g
  ·left;grind
  ·right;grind
 have ey:IA y t=-(co y*si t):=rfl;refine ⟨fun ht=>?_,fun ht=>?_,?_⟩
 ·rcases hf with ⟨m,hm⟩ | ⟨m,hm,hs⟩
  ·exact ⟨m,by rw [←hm];exact hA.wide (by grind) (aeX _) (aeX _)⟩
  ·
   have a1:-(4*eT)≤co h'*si z':=by
    unfold Cl at k3;have m1:=aaZ (show 0≤co y+e0 by grind) (show 0≤42000*u0-si t by grind);have m2:=aaZ (show 0≤u0 by grind) (show 0≤2-co y by grind);have m3:=aM (a:=e0) (b:=si t) (A:=e0) (B:=2) (by grind) (by grind) bt.2.1 bt.2.2;have m4:e0*u0≤u0:=by
     have:=aaZ (show 0≤u0 by grind) (show 0≤1-e0 by grind);grind
    rw [ey] at k3;have m1':0≤co y*(42000*u0)-co y*si t+e0*(42000*u0)-e0*si t:=by grind
    generalize co y*si t=v1 at*;generalize e0*si t=v2 at*;generalize co h'*si z'=v3 at*;grind
   have a2:co h'*si A≤5*eT:=by
    have m1:=aM (a:=co h') (b:=si A- -si z') (A:=2) (B:=3000*u0) (by grind) (iN h').1.2 hs.1 hs.2;rw [show co h'*(si A- -si z')=co h'*si A+co h'*si z' by grind] at m1;grind
   have a3:=small _ a2;rcases nearA (by grind) with g | g
   ·refine ⟨m,?_⟩;rw [←hm];unfold Hs at hA ⊢;constructor<;>grind
   ·refine ⟨m+1,?_⟩;rw [adQ,show ((1:Int):Rat)=1 by rfl];unfold Hs at hA ⊢;constructor<;>grind
 ·rcases hf with ⟨m,hm⟩ | ⟨m,hm,hs⟩
  ·have a1:co h'*si z'≤4*eT:=by
    unfold Cl at k3;have m1:=aaZ (show 0≤co y+e0 by grind) (show 0≤42000*u0+si t by grind);have m2:=aaZ (show 0≤u0 by grind) (show 0≤2-co y by grind);have m3:=aM (a:=e0) (b:=si t) (A:=e0) (B:=2) (by grind) (by grind) bt.2.1 bt.2.2;have m4:e0*u0≤u0:=by
     have:=aaZ (show 0≤u0 by grind) (show 0≤1-e0 by grind);grind
    rw [ey] at k3;have m1':0≤co y*(42000*u0)+co y*si t+e0*(42000*u0)+e0*si t:=by grind
    generalize co y*si t=v1 at*;generalize e0*si t=v2 at*;generalize co h'*si z'=v3 at*;grind
   have es:si A=si z':=by rw [hm];exact (iF z' m).2
   have a3:=small (si A) (by rw [es];grind);rcases nearA (by grind) with g | g
   ·refine ⟨m,?_⟩;rw [←hm];unfold Hs at hA ⊢;rw [afZ,afZ];constructor<;>grind
   ·refine ⟨m-1,?_⟩;rw [acZ,show ((1:Int):Rat)=1 by rfl];unfold Hs at hA ⊢;rw [afZ,afZ];constructor<;>grind
  ·exact ⟨m,by rw [←hm];exact hn.wide (by grind) (aeX _) (aeX _)⟩
 ·rcases hf with ⟨m,hm⟩ | ⟨m,hm,hs⟩
  ·left;exact ⟨m,by rw [←hm];exact hA.wide (by grind) (aeX _) (aeX _)⟩
  ·right;exact ⟨m,by rw [←hm];exact hn.wide (by grind) (aeX _) (aeX _)⟩
theorem EL {p q:Int} {d z:Rat} (_hpq:p≤q) (h:∃m:Int,Hs d p q (z+21600000*(m:Rat))) (hd:0≤d):Dr d (dE p q) (cJ p q) z:=by
 obtain ⟨m,h⟩:=h;unfold dE cJ;by_cases c:21600000≤q-p
 ·rw [if_pos c,if_pos c];exact Dr.all hd z
 ·rw [if_neg c,if_neg c];obtain ⟨k,hk⟩:∃k:Int,p%21600000=p+21600000*k:=⟨-(p/21600000),by omega⟩;refine ⟨m+k,?_⟩;rw [hk];unfold Hs at h ⊢;rw [adQ,adQ,adQ,acZ,abJ,show ((21600000:Int):Rat)=21600000 by rfl];constructor<;>grind
theorem MZ {p q:Int} (h:p≤q):qT (dE p q,cJ p q,0)∧((dE p q=0∧cJ p q=21600000)∨cJ p q<dE p q+21600000):=by
 unfold qT dE cJ;by_cases c:21600000≤q-p
 ·rw [if_pos c,if_pos c];exact ⟨⟨by decide,by decide,by decide,by decide,rfl⟩,.inl ⟨rfl,rfl⟩⟩
 ·rw [if_neg c,if_neg c];dsimp only;exact ⟨⟨by omega,by omega,by omega,by omega,rfl⟩,.inr (by omega)⟩
noncomputable def hZ (a b c d e f:Int):Int×Int×Int:=if (fB a b c d e f (dB a b c d e f).1 (dB a b c d e f).2.1).2.2=0 then CM (fB a b c d e f (dB a b c d e f).1 (dB a b c d e f).2.1).1 (fB a b c d e f (dB a b c d e f).1 (dB a b c d e f).2.1).2.1 e f else (0,21600000,0)
noncomputable def hH (a b c d e f:Int):Int×Int×Int:=(5400000-(dB a b c d e f).2.1,5400000-(dB a b c d e f).1,0)
theorem MY {p q:Int} (h1:-100000000≤p) (h2:p≤q) (h3:q≤100000000):cD p q=(dE p q,cJ p q,0):=by
 unfold cD;rw [bE (by omega) h2 (by omega)];rfl
theorem pS {p q:Int} (e f:Int) (p0:0≤p) (pq:p≤q) (q1:q≤10800000):CM p q e f=if dE e f≥10800000∧cJ e f≤21600000 then (p,q,0) else if cJ e f≤10800000 then (dE (21600000-q) (21600000-p),cJ (21600000-q) (21600000-p),0) else if p+q>10800000 then (p,21600000-p,0) else (dE (-q) q,cJ (-q) q,0):=by
 unfold CM;rw [MY (by omega) (by omega) (by omega),MY (by omega) (by omega) (by omega)]
theorem oM {a b c d e f:Int} (h:cS a b c d e f=true):mI a b c d e f=((hH a b c d e f).1,(hH a b c d e f).2.1,(hZ a b c d e f).1,(hZ a b c d e f).2.1,0)∧Hold a b c d e f (hH a b c d e f) (hZ a b c d e f)∧(dB a b c d e f).2.2=0∧0≤(dB a b c d e f).1∧(dB a b c d e f).1≤(dB a b c d e f).2.1∧(dB a b c d e f).2.1≤10800000:=by
 obtain ⟨w1,w2,w3,w4,w5,w6,w7,w8,w9,w10,w11,w12,w13,w14,w15,w16,w17⟩:=lvH;obtain ⟨h1,h2,h3⟩:=eB h;have l1:=bV h1;have l2:=bV h2;have l3:=dG h3;obtain ⟨x0,y0,t0⟩:=xY h;have ds:=lv.2.2.1;obtain ⟨h',z',s'⟩:=sees (a:Rat) (c:Rat) (e:Rat);obtain ⟨g1,g2,g3,g4,_⟩:=zen_v h x0 y0 t0 s';have LH:xZ (hH a b c d e f):=by
  unfold xZ hH;dsimp only;exact ⟨by omega,by omega,by omega,rfl⟩
 have top:∀x y t:Rat,Hs 0 a b x→Hs 0 c d y→Hs 0 e f t→∀h z:Rat,sA x y t h z→∃A:Rat,0≤A∧A≤10800000∧((∃m:Int,A=z+21600000*(m:Rat))∨(∃m:Int,-A=z+21600000*(m:Rat)∧Cl (3000*u0) (si A) (-si z)))∧
   ((fB a b c d e f (dB a b c d e f).1 (dB a b c d e f).2.1).2.2=21∨((fB a b c d e f (dB a b c d e f).1 (dB a b c d e f).2.1).2.2=0∧0≤(fB a b c d e f (dB a b c d e f).1 (dB a b c d e f).2.1).1∧(fB a b c d e f (dB a b c d e f).1 (dB a b c d e f).2.1).1≤(fB a b c d e f (dB a b c d e f).1 (dB a b c d e f).2.1).2.1∧(fB a b c d e f (dB a b c d e f).1 (dB a b c d e f).2.1).2.1≤10800000∧Hs dA (fB a b c d e f (dB a b c d e f).1 (dB a b c d e f).2.1).1 (fB a b c d e f (dB a b c d e f).1 (dB a b c d e f).2.1).2.1 A∧1/2147483648≤co h)):=by
  intro x y t hx hy ht h'' z'' s'';have zv:=zen_v h hx hy ht s'';obtain ⟨A,A0,A1,cA,hf⟩:=fold s''.2.2.1 s''.2.2.2.1;exact ⟨A,A0,A1,hf,top_v h hx hy s'' A0 A1 cA g2 g3 g4 zv.2.2.2.2⟩
 obtain ⟨A,A0,A1,hf,tp⟩:=top a c e x0 y0 t0 h' z' s';have az:=RK (u:=(dB a b c d e f).1) (v:=(dB a b c d e f).2.1) h g2 g3 g4;have az':CW a b c d e f (dB a b c d e f).1 (dB a b c d e f).2.1=if (fB a b c d e f (dB a b c d e f).1 (dB a b c d e f).2.1).2.2=0 then hZ a b c d e f else (0,0,21):=by
  rw [az];unfold hZ;rcases tp with tp | ⟨q1,q2,q3,q4,q5,q6⟩
  ·rw [tp];rfl
  ·rw [q1];simp only [ne_eq,not_true_eq_false,if_false,if_true];unfold CM;generalize fB a b c d e f (dB a b c d e f).1 (dB a b c d e f).2.1=r at*;rw [aX (by omega),aX (by omega),aX (by omega),aX (by omega),Int.zero_sub]
 have val:mI a b c d e f=((hH a b c d e f).1,(hH a b c d e f).2.1,(hZ a b c d e f).1,(hZ a b c d e f).2.1,0):=by
  have z:((0:Int) != 0)=false:=rfl;unfold mI DO;simp only [lt];rw [g1,z,cond_false,az',SN (by omega) (by omega)];rcases tp with tp | ⟨q1,q2,q3,q4,q5,q6⟩
  ·have hz:hZ a b c d e f=(0,21600000,0):=by unfold hZ;rw [tp];rfl
   rw [tp,hz];rfl
  ·rw [if_pos q1];have e0':(hZ a b c d e f).2.2=0:=by
    unfold hZ;rw [if_pos q1,pS e f q2 q3 q4];repeat' split
    all_goals rfl
   rw [e0'];rfl
 have D:qT (hZ a b c d e f)∧(((hZ a b c d e f).1=0∧(hZ a b c d e f).2.1=21600000)∨(hZ a b c d e f).2.1<(hZ a b c d e f).1+21600000):=by
  unfold hZ;rcases tp with tp | ⟨q1,q2,q3,q4,q5,q6⟩
  ·rw [tp,if_neg (by decide)];exact ⟨⟨by decide,by decide,by decide,by decide,rfl⟩,.inl ⟨rfl,rfl⟩⟩
  ·rw [if_pos q1,pS e f q2 q3 q4];generalize fB a b c d e f (dB a b c d e f).1 (dB a b c d e f).2.1=r at*;split
   ·exact ⟨⟨q2,q3,by dsimp only;omega,by dsimp only;omega,rfl⟩,.inr (by dsimp only;omega)⟩
   ·split
    ·exact MZ (by omega)
    ·split
     ·refine ⟨⟨q2,by dsimp only;omega,by dsimp only;omega,by dsimp only;omega,rfl⟩,?_⟩;dsimp only;omega
     ·exact MZ (by omega)
 refine ⟨val,⟨LH,D.1,D.2,?_,?_⟩,g1,g2,g3,g4⟩
 ·intro x y t hx hy ht h'' z'' s'';have zv:=(zen_v h hx hy ht s'').2.2.2.2;unfold Hs at zv ⊢;unfold hH;dsimp only;rw [acZ,acZ,show ((5400000:Int):Rat)=5400000 by rfl];constructor<;>grind
 ·intro x y t hx hy ht h'' z'' s'';obtain ⟨A,A0,A1,hf,tp⟩:=top x y t hx hy ht h'' z'' s'';unfold hZ;rcases tp with tp | ⟨q1,q2,q3,q4,q5,q6⟩
  ·rw [tp,if_neg (by decide)];exact Dr.all (by grind) z''
  ·rw [if_pos q1,pS e f q2 q3 q4];have yl:=cQ l2.2.1;have yr:=cQ l2.2.2.2;rw [show ((-5400000:Int):Rat)=-5400000 by rfl] at yl;rw [show ((5400000:Int):Rat)=5400000 by rfl] at yr;obtain ⟨s1,s2,s3⟩:=side_v s'' (by unfold Hs at hy;grind) (by unfold Hs at hy;grind) q6 A0 A1 hf q5;generalize fB a b c d e f (dB a b c d e f).1 (dB a b c d e f).2.1=r at*;have qd:(dE e f≥10800000∧cJ e f≤21600000→si t≤42000*u0)∧(cJ e f≤10800000→-(42000*u0)≤si t):=by
    have ub:=cT.1;unfold dE cJ;by_cases c5:21600000≤f-e
    ·rw [if_pos c5,if_pos c5];exact ⟨fun g=>by omega,fun g=>by omega⟩
    ·rw [if_neg c5,if_neg c5];obtain ⟨k,hk⟩:∃k:Int,e%21600000=e+21600000*k:=⟨-(e/21600000),by omega⟩;have tt:=(iF t k).2;unfold Hs at ht;rw [←tt];have k0:0≤e%21600000:=ajQ e (by omega);constructor
     ·intro g;have a1:=cQ (show 10800000≤e+21600000*k by omega);have a2:=cQ (show f+21600000*k≤21600000 by omega);rw [adQ,abJ,show ((21600000:Int):Rat)=21600000 by rfl] at a1 a2;rw [show ((10800000:Int):Rat)=10800000 by rfl] at a1;exact si_dn (by grind) (by grind)
     ·intro g;have a1:=cQ (show 0≤e+21600000*k by omega);have a2:=cQ (show f+21600000*k≤10800000 by omega);rw [adQ,abJ,show ((21600000:Int):Rat)=21600000 by rfl] at a1 a2;rw [show ((0:Int):Rat)=0 by rfl] at a1;rw [show ((10800000:Int):Rat)=10800000 by rfl] at a2;have:=si_up (q:=t+21600000*(k:Rat)) (by grind) (by grind);grind
   split
   ·rename_i g;exact s1 (qd.1 g)
   ·split
    ·rename_i g;obtain ⟨m,hm⟩:=s2 (qd.2 g);refine EL (by omega) ⟨m+1,?_⟩ (by grind);unfold Hs at hm ⊢;rw [afZ,afZ] at hm;rw [acZ,acZ,adQ,show ((21600000:Int):Rat)=21600000 by rfl,show ((1:Int):Rat)=1 by rfl];constructor<;>grind
    ·have rl:=cQ q4;have r0:=cQ q2;have rr:=cQ q3;rw [show ((10800000:Int):Rat)=10800000 by rfl] at rl;rw [show ((0:Int):Rat)=0 by rfl] at r0;split
     ·rcases s3 with ⟨m,hm⟩ | ⟨m,hm⟩
      ·refine ⟨m,hm.wide (Rat.le_refl) (aeX _) (by dsimp only;omega)⟩
      ·refine ⟨m+1,?_⟩;unfold Hs at hm ⊢;dsimp only;rw [afZ,afZ] at hm;rw [acZ,adQ,show ((21600000:Int):Rat)=21600000 by rfl,show ((1:Int):Rat)=1 by rfl];constructor<;>grind
     ·refine EL (by omega) ?_ (by grind);rcases s3 with ⟨m,hm⟩ | ⟨m,hm⟩
      ·exact ⟨m,hm.wide (Rat.le_refl) (by omega) (aeX _)⟩
      ·exact ⟨m,hm.wide (Rat.le_refl) (aeX _) (by omega)⟩
end
section
open Ev
open Ev (lt gF aH nZ jB)
open Go.RowKit
theorem avm {a b:Int} (h1:-1099511627776≤a) (h2:a≤b) (h3:b≤1099511627776):aF a b=true:=by
 unfold aF;simp;omega
theorem svalM_eq (a b c d:Int):QK a b c d=gB (a,b,c,d):=by
 unfold QK gB KG lt;dsimp only;cases h1:aF a b with
 | false=>rfl
 | true=>
  cases h2:aF c d with
  | false=>rfl
  | true=>
   have bd:=dG h2;by_cases h3:c=0∧d=21600000
   ·obtain ⟨rfl,rfl⟩:=h3;rfl
   ·have e:((c==0)&&(d==21600000))=false:=by
     rw [Bool.and_eq_false_iff,beq_eq_false_iff_ne,beq_eq_false_iff_ne];omega
    rw [Bool.and_true,e];rw [aX (x:=d-c) (by omega)];by_cases h4:c≥0
    ·rw [decide_eq_true h4];by_cases h5:c<21600000
     ·rw [decide_eq_true h5];simp
     ·rw [decide_eq_false h5];simp
    ·rw [decide_eq_false h4];simp
theorem nval_gives (a b c d:Int):aH Tryz.prog 50 [.agg ⟨[.int .i64 a,.int .i64 b,.int .i64 c,.int .i64 d]⟩] (.bool (!gB (a,b,c,d))):=by
 have:=rnvM_gives a b c d;unfold rnvM at this;rwa [svalM_eq] at this
theorem turn_ok' (a b:Int) (h:aF a b=true) (_h0:(cD a b).2.2=0):aF (cD a b).1 (cD a b).2.1=true:=by
 have m0:=ajQ a (show (21600000:Int)≠0 by omega);have m1:=ahJ a (show (0:Int)<21600000 by omega);have v:=dG h;unfold cD;rw [if_pos h];dsimp only;unfold dE cJ;by_cases hw:21600000≤b-a
 ·rw [if_pos hw,if_pos hw];rfl
 ·rw [if_neg hw,if_neg hw];exact avm (by omega) (by omega) (by omega)
theorem dirs_gives (a b c d:Int) (h:aF a b=true) (h':aF c d=true) (hb:-500000000000≤c∧d≤500000000000):aH Tryz.prog 52 [aD a b,aD c d] (aL (dD a b c d)):=
 fun w hg=>JW sC wW FC (fun a b c d w=>IC 9998 a b c d w) a b c d h h' hb w hg
theorem LK (A:Option Addr) (n c:Nat) (l:List gR) (w:World) (hg:gF w) (h:Sols w A n l) (hc:n≤c) (hc':c≤9223372036854775807):Calls Tryz.prog 19 #[.slice A n c] w (GP (dV (iL l)) w):=
 meet_any sC nval_gives dirs_gives turn_ok' A n c l w hg h hc hc'
noncomputable def byM (m a b c d e f:Int):Int×Int×Int×Int×Int:=if m=1 then by1 a b c d e f else if m=2 then by2 a b c d e f else if m=3 then by3 a b c d e f else if m=4 then by4 a b c d e f else by5 a b c d e f
theorem OO (m a b c d e f:Int) (h1:1≤m) (h5:m≤5):aH Tryz.prog 11 [.int .i64 m,kW a b c d e f] (dV (byM m a b c d e f)):=by
 have:m=1∨m=2∨m=3∨m=4∨m=5:=by omega
 rcases this with rfl | rfl | rfl | rfl | rfl
 ·exact by1_gives a b c d e f
 ·exact by2_gives a b c d e f
 ·exact by3_gives a b c d e f
 ·exact by4_gives a b c d e f
 ·exact by5_gives a b c d e f
noncomputable def uZ (a b c d e f:Int):List gR:=nY (fun m=>byM m a b c d e f) 5
theorem vC (a b c d e f:Int):(uZ a b c d e f).length≤5:=uY _ _
theorem OJ {a b c d e f:Int} (h:cS a b c d e f=true) (w:World) (hg:gF w):Calls Tryz.prog 13 #[kW a b c d e f] w (GU (uZ a b c d e f) w):=by
 have ht:=kI a b c d e f;rw [h] at ht;exact all_yes ht (fun m h1 h5=>OO m a b c d e f h1 h5) w hg
theorem VC {a b c d e f:Int} (h:cS a b c d e f=false) (w:World) (hg:gF w):Calls Tryz.prog 13 #[kW a b c d e f] w (xA w):=by
 have ht:=kI a b c d e f;rw [h] at ht;exact all_no ht w hg
noncomputable def oC (a b c d e f:Int):Int×Int×Int×Int×Int:=if cS a b c d e f=true then iL (uZ a b c d e f) else (0,0,0,0,1)
theorem sG (a b c d e f:Int):aH Tryz.prog 14 [kW a b c d e f] (dV (oC a b c d e f)):=fun w hg=>by
 unfold oC;cases h:cS a b c d e f with
 | true=>exact best_yes (by have:=vC a b c d e f;omega) (OJ h) (fun A n c w hg hs h1 h2=>LK A n c _ w hg hs h1 h2) w hg
 | false=>exact best_no (VC h) w hg
def meet2 (a b c d e f u v:Int):Int×Int×Int×Int×Int:=iL [(a,b,c,d),(e,f,u,v)]
def eMeet:Ev.CP
 | [.s n 0 2 2],[(m,⟨[.v (.int .i64 a),.v (.int .i64 b),.v (.int .i64 c),.v (.int .i64 d),.v (.int .i64 e),.v (.int .i64 f),.v (.int .i64 u),.v (.int .i64 v)],t⟩)]=>
  cond (nZ n m) (some (true,.v (dV (meet2 a b c d e f u v)),[(m,⟨[.v (.int .i64 a),.v (.int .i64 b),.v (.int .i64 c),.v (.int .i64 d),.v (.int .i64 e),.v (.int .i64 f),.v (.int .i64 u),.v (.int .i64 v)],t⟩)])) none
 | _,_=>none
theorem eMeet_ok (args:List AV) (L:Ev.dP) (z:Bool) (r:AV) (L':Ev.dP) (q:eMeet args L=some (z,r,L')) (_:z=true):Ev.jN Tryz.prog 19 args L r L':=by
 unfold eMeet at q;split at q
 ·rename_i n m a b c d e f u v t;cases hn:nZ n m with
  | false=>rw [hn] at q;cases q
  | true=>
   rw [hn] at q;cases q;have hnm:=jB.1 hn;subst hnm;intro ρ w us hu hL;have hd:=hL.dom n;have hget:Ev.iO [(n,(⟨[.v (.int .i64 a),.v (.int .i64 b),.v (.int .i64 c),.v (.int .i64 d),.v (.int .i64 e),.v (.int .i64 f),.v (.int .i64 u),.v (.int .i64 v)],t⟩:Ev.nG))] n=some ⟨[.v (.int .i64 a),.v (.int .i64 b),.v (.int .i64 c),.v (.int .i64 d),.v (.int .i64 e),.v (.int .i64 f),.v (.int .i64 u),.v (.int .i64 v)],t⟩:=by
    unfold Ev.iO;rw [hn];rfl
   rw [hget] at hd;obtain ⟨g,hg⟩:=Option.isSome_iff_exists.1 (hd.trans rfl);obtain ⟨vs,hvs,hblk⟩:=hL.blk n g _ hg hget;have e1:us=[.slice (some ⟨g,0,none⟩) 2 2]:=by
    have:Ev.fN ρ [.s n 0 2 2]=some [.slice (some ⟨g,0,none⟩) 2 2]:=by
     have ha:Ev.jE ρ (.s n 0 2 2)=some (.slice (some ⟨g,0,none⟩) 2 2):=by simp only [Ev.jE,hg,Option.map_some]
     unfold Ev.fN;rw [ha];rfl
    rw [this] at hu;exact (afJ.inj hu).symm
   have e2:vs=[.int .i64 a,.int .i64 b,.int .i64 c,.int .i64 d,.int .i64 e,.int .i64 f,.int .i64 u,.int .i64 v]:=by
    have:Ev.fM ρ ([.v (.int .i64 a),.v (.int .i64 b),.v (.int .i64 c),.v (.int .i64 d),.v (.int .i64 e),.v (.int .i64 f),.v (.int .i64 u),.v (.int .i64 v)]:List Ev.CV)=some [.int .i64 a,.int .i64 b,.int .i64 c,.int .i64 d,.int .i64 e,.int .i64 f,.int .i64 u,.int .i64 v]:=rfl;exact (afJ.inj (this.symm.trans hvs)).symm
   subst e1 e2;have hs:Sols w (some ⟨g,0,none⟩) 2 [(a,b,c,d),(e,f,u,v)]:=⟨rfl,by omega,fun _=>⟨g,0,rfl,(Array.getElem?_eq_some_iff.1 hblk).1,fun i hi=>by
    have:i=0∨i=1:=by omega
    rcases this with rfl | rfl<;>(refine ⟨?_,?_,?_,?_⟩<;>(rw [cell_of_row w g _ _ _ _ hblk];rfl))⟩⟩
   refine (LK _ 2 2 _ w hL.glb hs (by omega) (by omega)).mono ?_;rintro e w' ⟨rfl,hb⟩;exact ⟨_,ρ,rfl,⟨NG.refl ρ,hb.os,hb.tape,hb.output,hb.size,fun k hk _=>hb.block k hk,fun n b q q'=>by rw [q'] at q;cases q⟩,rfl,
    ⟨hL.dom,fun n' b' k' q1 q2=>by
     obtain ⟨vs',h1,h2⟩:=hL.blk n' b' k' q1 q2;exact ⟨vs',h1,(hb.block b' (hL.lt q1)).trans h2⟩,hL.inj,hL.glb.of fun g hg _=>hb.block g hg,hL.far⟩⟩
 ·cases q
open SM TB TA
theorem ahav_at {x y p q:Int} (h1:0≤x) (h2:x≤y) (h3:y≤1073741824) (hp:mT (2*x-1073741824) p) (hq:mT (1073741824-2*y) q):dN x y=(5400000+p,5400000-q,0):=by
 have e1:mF (1073741824-2*y)=q:=yX (by omega) hq;have e2:mF (2*x-1073741824)=p:=yX (by omega) hp;unfold dN mR aV;rw [dH (a:=x) (b:=y) (by omega) h2 (by omega)];simp only [Bool.true_eq_false,if_false];have m1:max x 0=x:=by omega
 have m2:min y 1073741824=y:=by omega
 rw [m1,m2,if_pos h2,dH (a:=1073741824-2*y) (b:=1073741824-2*x) (by omega) (by omega) (by omega)];simp only [Bool.true_eq_false,if_false];have m3:max (1073741824-2*y) (-1073741824)=1073741824-2*y:=by omega
 have m4:min (1073741824-2*x) 1073741824=1073741824-2*x:=by omega
 rw [m3,m4,if_pos (show 1073741824-2*y≤1073741824-2*x by omega),e1,show -(1073741824-2*x)=2*x-1073741824 by omega,e2];simp
theorem zen_a:dB 0 0 0 0 3600000 3600000=(3600000,3600000,0):=by
 have h:dN 268435456 268435456=(3600000,3600000,0):=by
  rw [ahav_at (p:=-1800000) (q:=1800000) (by omega) (by omega) (by omega) ⟨by omega,by omega,by decide+kernel,.inr (by decide+kernel)⟩ ⟨by omega,by omega,by decide+kernel,.inr (by decide+kernel)⟩];rfl
 have e1:kM 0 0 0 0=(1073741824,1073741824):=by decide+kernel
 have e2:cosC 0 0 0 0 0=0:=by decide+kernel
 have e3:eJ 3600000 3600000=(268435456,268435456,0):=by decide+kernel
 have e4:lT 0 0 0 0=(0,0):=by decide+kernel
 have e5:betC 0 0 0 0 0=0:=by decide+kernel
 have e6:bT 1073741824 1073741824 268435456 268435456=(268435456,268435456,0):=by decide+kernel
 have e7:fS 0 0 268435456 268435456=(268435456,268435456,0):=by decide+kernel
 have e8:cS 0 0 0 0 3600000 3600000=true:=by decide+kernel
 unfold dB QW;simp only [lt,oG,pF,FF,KM,e1,e2,e3,e4,e5,e6,e7,e8,h,LC];rfl
theorem top_a:fB 0 0 0 0 3600000 3600000 3600000 3600000=(5399999,5400001,0):=by
 rw [top_eq (by decide+kernel) (by decide+kernel) (by omega) (by omega) (by omega)];have e1:yD 0 0 0 0 3600000 3600000=(464943848,464943849,0):=by decide+kernel
 have e2:kM 0 0 (5400000-3600000) (5400000-3600000)=(929887696,929887697):=by decide+kernel
 have e3:iB 464943848 464943849 929887696 929887697=(536870911,536870914,0):=by decide+kernel
 rw [e1,e2];unfold topS;simp only [e3];rw [ahav_at (x:=536870911) (y:=536870914) (p:=-1) (q:=-1) (by omega) (by omega) (by omega) ⟨by omega,by omega,by decide+kernel,.inr (by decide+kernel)⟩ ⟨by omega,by omega,by decide+kernel,.inr (by decide+kernel)⟩];rfl
theorem sol_a:mI 0 0 0 0 3600000 3600000=(1800000,1800000,16199999,16200001,0):=by
 have e1:CW 0 0 0 0 3600000 3600000 3600000 3600000=(16199999,16200001,0):=by
  rw [RK (by decide+kernel) (by omega) (by omega) (by omega),top_a];decide+kernel
 have e2:wF 3600000 3600000=(1800000,1800000):=by decide+kernel
 unfold mI DO;simp only [lt,zen_a,e1,e2];rfl
theorem RF {x y p q:Int} (h1:-1073741824≤x) (h2:x≤y) (h3:y≤1073741824) (hp:mT x p) (hq:mT (-y) q):aV x y=(p,-q,0):=by
 have e1:mF x=p:=yX (by omega) hp;have e2:mF (-y)=q:=yX (by omega) hq;unfold aV;rw [dH (a:=x) (b:=y) (by omega) h2 (by omega)];simp only [Bool.true_eq_false,if_false];have m1:max x (-1073741824)=x:=by omega
 have m2:min y 1073741824=y:=by omega
 rw [m1,m2,if_pos h2,e1,e2]
noncomputable def asinX (x y:Int):Int×Int×Int:=if x=536870912∧y=536870912 then (1800000,1800000,0) else if x=929887696∧y=929887697 then (3599999,3600001,0) else if x=536870641∧y=536871183 then (1799998,1800002,0) else aV x y
theorem asin_x:aV=asinX:=by
 funext x y;unfold asinX;by_cases h1:x=536870912∧y=536870912
 ·rw [if_pos h1,h1.1,h1.2,RF (p:=1800000) (q:=-1800000) (by omega) (by omega) (by omega) ⟨by omega,by omega,by decide+kernel,.inr (by decide+kernel)⟩ ⟨by omega,by omega,by decide+kernel,.inr (by decide+kernel)⟩];rfl
 rw [if_neg h1];by_cases h2:x=929887696∧y=929887697
 ·rw [if_pos h2,h2.1,h2.2,RF (p:=3599999) (q:=-3600001) (by omega) (by omega) (by omega) ⟨by omega,by omega,by decide+kernel,.inr (by decide+kernel)⟩ ⟨by omega,by omega,by decide+kernel,.inr (by decide+kernel)⟩];rfl
 rw [if_neg h2];by_cases h3:x=536870641∧y=536871183
 ·rw [if_pos h3,h3.1,h3.2,RF (p:=1799998) (q:=-1800002) (by omega) (by omega) (by omega) ⟨by omega,by omega,by decide+kernel,.inr (by decide+kernel)⟩ ⟨by omega,by omega,by decide+kernel,.inr (by decide+kernel)⟩];rfl
 rw [if_neg h3]
theorem cos_x:iQ 0 0 0 0 3600000 3600000=(1800000,1800000,16200000,16200000,0):=by
 unfold iQ zK vJ zI yF JR;rw [asin_x];decide+kernel
theorem age_x:CI 0 0 0 0 3600000 3600000=(1799998,1800002,16200000,16200000,0):=by
 unfold CI QH sP zQ;rw [asin_x];decide+kernel
theorem mat_x:qD 0 0 0 0 3600000 3600000=(1800000,1800000,16200000,16200000,0):=by
 unfold qD DT VD VE;rw [asin_x];decide+kernel
theorem allI_congr {p q:Int→Int×Int×Int×Int×Int} (h:∀m,1≤m→m≤5→p m=q m):nY p 5=nY q 5:=by
 have e:∀i,i≤5→nY p i=nY q i:=by
  intro i;induction i with
  | zero=>intro _;rfl
  | succ i ih=>intro hi;rw [kJ,kJ,ih (by omega),h _ (by omega) (by omega)]
 exact e 5 (by omega)
noncomputable def exM (m:Int):Int×Int×Int×Int×Int:=if m=1 then (1800000,1800000,16200000,16200000,0) else if m=2 then (1800000,1800000,16199999,16200001,0) else if m=3 then (1799998,1800002,16200000,16200000,0) else if m=4 then zH (sU 0 0 0 0 3600000 3600000) else (1800000,1800000,16200000,16200000,0)
theorem best_x:oC 0 0 0 0 3600000 3600000=(1800000,1800000,16200000,16200000,0):=by
 unfold oC;rw [if_pos (by decide+kernel)];unfold uZ;rw [allI_congr (q:=exM) (fun m h1 h5=>by
  have:m=1∨m=2∨m=3∨m=4∨m=5:=by omega
  rcases this with rfl | rfl | rfl | rfl | rfl
  ·show zH (iQ 0 0 0 0 3600000 3600000)=_;rw [cos_x];rfl
  ·show zH (mI 0 0 0 0 3600000 3600000)=_;rw [sol_a];rfl
  ·show zH (CI 0 0 0 0 3600000 3600000)=_;rw [age_x];rfl
  ·rfl
  ·show zH (qD 0 0 0 0 3600000 3600000)=_;rw [mat_x];rfl)]
 decide+kernel
theorem meet_x:meet2 0 0 21599990 21600010 0 0 5 6=(0,0,5,6,0):=by decide+kernel
noncomputable def kA300:aZ:=(14,eT (fun a b c d e f=>dV (oC a b c d e f)))::(19,eMeet)::(25,eI (fun a=>aD (atM a).1 (atM a).2))::[]
theorem kA300_ok:aJ Tryz.prog kA300:=(aA (gS sG) (aA eMeet_ok (aA (FA atM_gives) cO)))
theorem nD:aH Tryz.prog 10 [] (.bool (true)):=by
 refine aE bK kA300_ok (t:=lt (atM 3600000) fun x1=>lt (oC 0 0 0 0 x1.1 x1.2) fun x2=>lt (meet2 0 0 21599990 21600010 0 0 5 6) fun x3=>cond (x2.2.2.2.2==0) (lt (atM 1800000) fun x4=>lt (atM 16200000) fun x5=>cond ((x2.1==x4.1)&&((x2.2.1==x4.2)&&((x2.2.2.1==x5.1)&&((x2.2.2.2.1==x5.2)&&true)))) (cond (x3.2.2.2.2==0) (cond ((x3.2.2.1==5)&&((x3.2.2.2.1==6)&&true)) (some (.v (.bool true))) (some (.v (.bool false)))) (some (.v (.bool false)))) (some (.v (.bool false)))) (some (.v (.bool false)))) (by kernel_rfl) ?_;simp only [lt];have e1:atM 3600000=(3600000,3600000):=rfl;rw [e1,best_x,meet_x];rfl
end
section
open Ev
open Ev (lt)
def pbV (r:Int×Int×Bool):Value:=.tuple ⟨[aD r.1 r.2.1,.bool r.2.2]⟩
noncomputable def uG (a b:Int):Bool:=cond (decide (a≤b)) (cond (decide (a≥(-1099511627776))) ((decide (b≤1099511627776))) (false)) (false)
noncomputable def kR300:aZ:=[]
theorem YF:aJ Tryz.prog kR300:=cO
theorem FW (a b:Int):aH Tryz.prog 49 [.agg ⟨[.int .i64 a,.int .i64 b]⟩] (.bool (uG a b)):=by
 refine aE bK YF (t:=cond (decide (a≤b)) (cond (decide (a≥(-1099511627776))) (some (.v (.bool (decide (b≤1099511627776))))) (some (.v (.bool false)))) (some (.v (.bool false)))) (by kernel_rfl) ?_;unfold uG;repeat' first | (with_reducible refine aT (fun r:Bool=>AV.v (.bool (r))) ?_ ?_) | (with_reducible refine cG (fun r:Bool=>AV.v (.bool (r))) fun _=>?_) | rfl
noncomputable def AG (a:Int):Int:=cond (decide ((avZ a 21600000)<0)) (i64.wrap ((avZ a 21600000)+21600000)) ((avZ a 21600000))
noncomputable def kR301:aZ:=(49,eP (fun a b=>.bool (uG a b)))::kR300
theorem YG:aJ Tryz.prog kR301:=(aA (cF FW) YF)
theorem UA (a:Int):aH Tryz.prog 170 [.int .i64 a] (.int .i64 (AG a)):=by
 refine aE bK YG (t:=cond (decide ((avZ a 21600000)<0)) (some (.v (.int .i64 (i64.wrap ((avZ a 21600000)+21600000))))) (some (.v (.int .i64 (avZ a 21600000))))) (by kernel_rfl) ?_;unfold AG;repeat' first | (with_reducible refine aT (fun r:Int=>AV.v (.int .i64 (r))) ?_ ?_) | (with_reducible refine cG (fun r:Int=>AV.v (.int .i64 (r))) fun _=>?_) | rfl
noncomputable def IU {α:Type} (K:Int→Int→α) (a b:Int):α:=cond (decide (i64.wrap (b-a)≥21600000)) (K 0 21600000) (K (AG a) (i64.wrap ((AG a)+(i64.wrap (b-a)))))
noncomputable def fF (a b:Int):Int×Int:=IU (fun p0 p1=>(p0,p1)) a b
noncomputable def kR302:aZ:=(170,eI (fun a=>.int .i64 (AG a)))::kR301
theorem YH:aJ Tryz.prog kR302:=(aA (FA UA) YG)
theorem tO (a b:Int):aH Tryz.prog 109 [.agg ⟨[.int .i64 a,.int .i64 b]⟩] (aD (fF a b).1 (fF a b).2):=by
 refine aE bK YH (t:=IU (fun p0 p1=>some (.v (aD ((p0,p1)).1 ((p0,p1)).2))) a b) (by kernel_rfl) ?_;unfold fF IU;repeat' first | (with_reducible refine aT (fun r:Int×Int=>AV.v (aD (r).1 (r).2)) ?_ ?_) | (with_reducible refine cG (fun r:Int×Int=>AV.v (aD (r).1 (r).2)) fun _=>?_) | rfl
noncomputable def MN (a b:Int):Bool:=(decide (i64.wrap (b-a)≥21600000))
noncomputable def kR303:aZ:=(109,eP (fun a b=>aD (fF a b).1 (fF a b).2))::kR302
theorem YI:aJ Tryz.prog kR303:=(aA (cF tO) YH)
theorem aAB (a b:Int):aH Tryz.prog 121 [.agg ⟨[.int .i64 a,.int .i64 b]⟩] (.bool (MN a b)):=aE bK YI (by kernel_rfl) rfl
noncomputable def aAh (a b:Int):Bool:=cond ((a==0)&&((b==21600000)&&true)) (true) (cond (uG a b) (cond (decide (a≥0)) (cond (decide (a<21600000)) ((!(MN a b))) (false)) (false)) (false))
noncomputable def kR304:aZ:=(121,eP (fun a b=>.bool (MN a b)))::kR303
theorem YJ:aJ Tryz.prog kR304:=(aA (cF aAB) YI)
theorem aAi (a b:Int):aH Tryz.prog 54 [.agg ⟨[.int .i64 a,.int .i64 b]⟩] (.bool (aAh a b)):=by
 refine aE bK YJ (t:=cond ((a==0)&&((b==21600000)&&true)) (some (.v (.bool true))) (cond (uG a b) (cond (decide (a≥0)) (cond (decide (a<21600000)) (some (.v (.bool (!(MN a b))))) (some (.v (.bool false)))) (some (.v (.bool false)))) (some (.v (.bool false))))) (by kernel_rfl) ?_;unfold aAh;repeat' first | (with_reducible refine aT (fun r:Bool=>AV.v (.bool (r))) ?_ ?_) | (with_reducible refine cG (fun r:Bool=>AV.v (.bool (r))) fun _=>?_) | rfl
noncomputable def rsvM (a b c d:Int):Bool:=cond (uG a b) ((aAh c d)) (false)
noncomputable def kR305:aZ:=(54,eP (fun a b=>.bool (aAh a b)))::kR304
theorem YK:aJ Tryz.prog kR305:=(aA (cF aAi) YJ)
theorem rsvM_gives (a b c d:Int):aH Tryz.prog 22 [.agg ⟨[.int .i64 a,.int .i64 b,.int .i64 c,.int .i64 d]⟩] (.bool (rsvM a b c d)):=by
 refine aE bK YK (t:=cond (uG a b) (some (.v (.bool (aAh c d)))) (some (.v (.bool false)))) (by kernel_rfl) ?_;unfold rsvM;repeat' first | (with_reducible refine aT (fun r:Bool=>AV.v (.bool (r))) ?_ ?_) | (with_reducible refine cG (fun r:Bool=>AV.v (.bool (r))) fun _=>?_) | rfl
noncomputable def kR306:aZ:=(22,eS (fun a b c d=>.bool (rsvM a b c d)))::kR305
theorem kR306_ok:aJ Tryz.prog kR306:=(aA (eS_ok rsvM_gives) YK)
noncomputable def TL {α:Type} (K:Int→Int→Bool→α) (a b c d:Int):α:=cond (MN a b) (K c d true) (cond (MN c d) (K a b true) (cond (decide ((mx a (i64.wrap (c+(-21600000))))≤(mn b (i64.wrap (d+(-21600000)))))) (lt (fF (mx a (i64.wrap (c+(-21600000)))) (mn b (i64.wrap (d+(-21600000))))) fun x1=>cond (decide ((mx a (i64.wrap (c+0)))≤(mn b (i64.wrap (d+0))))) (lt (fF (mx a (i64.wrap (c+0))) (mn b (i64.wrap (d+0)))) fun _=>cond (decide ((mx a (i64.wrap (c+21600000)))≤(mn b (i64.wrap (d+21600000))))) (lt (fF (mx a (i64.wrap (c+21600000))) (mn b (i64.wrap (d+21600000)))) fun _=>cond (decide (i64.wrap (d-c)<i64.wrap (b-a))) (K c d true) (K a b true)) (cond (decide (i64.wrap (d-c)<i64.wrap (b-a))) (K c d true) (K a b true))) (cond (decide ((mx a (i64.wrap (c+21600000)))≤(mn b (i64.wrap (d+21600000))))) (lt (fF (mx a (i64.wrap (c+21600000))) (mn b (i64.wrap (d+21600000)))) fun _=>cond (decide (i64.wrap (d-c)<i64.wrap (b-a))) (K c d true) (K a b true)) (K x1.1 x1.2 true))) (cond (decide ((mx a (i64.wrap (c+0)))≤(mn b (i64.wrap (d+0))))) (lt (fF (mx a (i64.wrap (c+0))) (mn b (i64.wrap (d+0)))) fun x5=>cond (decide ((mx a (i64.wrap (c+21600000)))≤(mn b (i64.wrap (d+21600000))))) (lt (fF (mx a (i64.wrap (c+21600000))) (mn b (i64.wrap (d+21600000)))) fun _=>cond (decide (i64.wrap (d-c)<i64.wrap (b-a))) (K c d true) (K a b true)) (K x5.1 x5.2 true)) (cond (decide ((mx a (i64.wrap (c+21600000)))≤(mn b (i64.wrap (d+21600000))))) (lt (fF (mx a (i64.wrap (c+21600000))) (mn b (i64.wrap (d+21600000)))) fun x7=>K x7.1 x7.2 true) (K 0 0 false)))))
noncomputable def yN (a b c d:Int):Int×Int×Bool:=TL (fun p0 p1 p2=>(p0,p1,p2)) a b c d
theorem aA5 (a b c d:Int):aH Tryz.prog 55 [.agg ⟨[.int .i64 a,.int .i64 b]⟩,.agg ⟨[.int .i64 c,.int .i64 d]⟩] (pbV (yN a b c d)):=by
 refine aE bK kR306_ok (t:=TL (fun p0 p1 p2=>some (.v (pbV ((p0,p1,p2))))) a b c d) (by kernel_rfl) ?_;unfold yN TL;repeat' first | (with_reducible refine aT (fun r:Int×Int×Bool=>AV.v (pbV (r))) ?_ ?_) | (with_reducible refine cG (fun r:Int×Int×Bool=>AV.v (pbV (r))) fun _=>?_) | rfl
theorem fE {p:Prop} [Decidable p] (h:p):decide p=true:=decide_eq_true h
theorem fI {p:Prop} [Decidable p] (h:¬p):decide p=false:=decide_eq_false h
theorem QM (x:Int):x%21600000=(if x.tmod 21600000<0 then x.tmod 21600000+21600000 else x.tmod 21600000):=by
 have h1:=Int.mul_tdiv_add_tmod x 21600000;have h2:=qK x 21600000;have h3:=arX x (show (0:Int)<21600000 by omega);have h4:=arX (-x) (show (0:Int)<21600000 by omega);rw [azZ] at h4;split<;>omega
theorem rval_eq (a b:Int):uG a b=aF a b:=by
 unfold uG aF;by_cases h1:a≤b
 ·by_cases h2:a≥-1099511627776
  ·rw [fE h1,fE h2,cond_true,cond_true];exact decide_eq_decide.2 (by omega)
  ·rw [fE h1,fI h2,cond_true,cond_false,fI (by omega)]
 ·rw [fI h1,cond_false,fI (by omega)]
theorem rwrap_eq (x:Int):AG x=x%21600000:=by
 have t:=QM x;have q:=arX (-x) (show (0:Int)<21600000 by omega);rw [azZ] at q;unfold AG;by_cases c:x.tmod 21600000<0
 ·rw [if_pos c] at t;rw [fE c,cond_true,aX (by omega)];omega
 ·rw [if_neg c] at t;rw [fI c,cond_false];omega
theorem wU {a b:Int} (h:aF a b=true):fF a b=(dE a b,cJ a b):=by
 have:=dG h;unfold fF IU dE cJ;rw [aX (x:=b-a) (by omega),rwrap_eq];by_cases c:21600000≤b-a
 ·rw [fE c,if_pos c,if_pos c];rfl
 ·rw [fI c,if_neg c,if_neg c,aX (by omega)];rfl
theorem rcom_eq {a b c d:Int} (fa:(a=0∧b=21600000)∨(0≤a∧a<21600000∧a≤b∧b-a<21600000)) (fc:(c=0∧d=21600000)∨(0≤c∧c<21600000∧c≤d∧d-c<21600000)):
  yN a b c d=if (dD a b c d).2.2=0 then ((dD a b c d).1,(dD a b c d).2.1,true) else (0,0,false):=by
 unfold yN TL MN;rw [aX (x:=b-a) (by omega),aX (x:=d-c) (by omega),aX (x:=c+-21600000) (by omega),aX (x:=d+-21600000) (by omega),aX (x:=c+0) (by omega),aX (x:=d+0) (by omega),aX (x:=c+21600000) (by omega),aX (x:=d+21600000) (by omega)];unfold dD;by_cases h1:a=0∧b=21600000
 ·rw [if_pos h1,decide_eq_true (show b-a≥21600000 by omega)];rfl
 rw [if_neg h1,decide_eq_false (show ¬b-a≥21600000 by omega)];by_cases h2:c=0∧d=21600000
 ·rw [if_pos h2,decide_eq_true (show d-c≥21600000 by omega)];rfl
 rw [if_neg h2,decide_eq_false (show ¬d-c≥21600000 by omega)];have e:rA a b c d 3=(DJ a b c d (-21600000)).toList++(DJ a b c d 0).toList++(DJ a b c d 21600000).toList:=by
  rw [xG a b c d 2 (by omega),xG a b c d 1 (by omega),xG a b c d 0 (by omega)];rfl
 rw [e];have tv:∀k:Int,mx a (c+k)≤mn b (d+k)→fF (mx a (c+k)) (mn b (d+k))=(dE (mx a (c+k)) (mn b (d+k)),cJ (mx a (c+k)) (mn b (d+k)))∧cD (mx a (c+k)) (mn b (d+k))=(dE (mx a (c+k)) (mn b (d+k)),cJ (mx a (c+k)) (mn b (d+k)),0):=by
  intro k hk;have v:aF (mx a (c+k)) (mn b (d+k))=true:=by
   have m1:a≤mx a (c+k)∧mn b (d+k)≤b:=by unfold mx mn;constructor<;>split<;>omega
   exact avm (by omega) hk (by omega)
  exact ⟨wU v,by unfold cD;rw [if_pos v]⟩
 unfold DJ;simp only [cond_false];by_cases p1:mx a (c+-21600000)≤mn b (d+-21600000)
 ·have q1:=tv _ p1;rw [decide_eq_true p1,if_neg (show ¬mx a (c+-21600000)>mn b (d+-21600000) by omega),q1.1];by_cases p2:mx a (c+0)≤mn b (d+0)
  ·rw [decide_eq_true p2,if_neg (show ¬mx a (c+0)>mn b (d+0) by omega)];by_cases p3:mx a (c+21600000)≤mn b (d+21600000)
   ·rw [decide_eq_true p3,if_neg (show ¬mx a (c+21600000)>mn b (d+21600000) by omega)];by_cases p4:d-c<b-a<;>simp [lt,zL,p4]
   ·rw [decide_eq_false p3,if_pos (show mx a (c+21600000)>mn b (d+21600000) by omega)];by_cases p4:d-c<b-a<;>simp [lt,zL,p4]
  ·rw [decide_eq_false p2,if_pos (show mx a (c+0)>mn b (d+0) by omega)];by_cases p3:mx a (c+21600000)≤mn b (d+21600000)
   ·rw [decide_eq_true p3,if_neg (show ¬mx a (c+21600000)>mn b (d+21600000) by omega)];by_cases p4:d-c<b-a<;>simp [lt,zL,p4]
   ·rw [decide_eq_false p3,if_pos (show mx a (c+21600000)>mn b (d+21600000) by omega)];simp [lt,zL,q1.2]
 ·rw [decide_eq_false p1,if_pos (show mx a (c+-21600000)>mn b (d+-21600000) by omega)];by_cases p2:mx a (c+0)≤mn b (d+0)
  ·have q2:=tv _ p2;rw [decide_eq_true p2,if_neg (show ¬mx a (c+0)>mn b (d+0) by omega),q2.1];by_cases p3:mx a (c+21600000)≤mn b (d+21600000)
   ·rw [decide_eq_true p3,if_neg (show ¬mx a (c+21600000)>mn b (d+21600000) by omega)];by_cases p4:d-c<b-a<;>simp [lt,zL,p4]
   ·rw [decide_eq_false p3,if_pos (show mx a (c+21600000)>mn b (d+21600000) by omega)];have:=q2.2;simp only [Int.add_zero] at this;simp [lt,zL,this]
  ·rw [decide_eq_false p2,if_pos (show mx a (c+0)>mn b (d+0) by omega)];by_cases p3:mx a (c+21600000)≤mn b (d+21600000)
   ·have q3:=tv _ p3;rw [decide_eq_true p3,if_neg (show ¬mx a (c+21600000)>mn b (d+21600000) by omega),q3.1];simp [lt,zL,q3.2]
   ·rw [decide_eq_false p3,if_pos (show mx a (c+21600000)>mn b (d+21600000) by omega)];simp [zL]
end
section
open Go.RowKit SM
theorem prod31 {a b:Int} (ha:0≤a) (ha2:a≤2147483648) (hb:0≤b) (hb2:b≤2147483648):0≤a*b∧a*b≤4611686018427387904:=
 ⟨aeZ ha hb,by have:=aiX ha2 hb2 hb (by decide);omega⟩
theorem mask31 (a:Int) (h0:0≤a) (h1:a<9223372036854775808):bits .and .i64 a 2147483647=a%2147483648:=by
 obtain ⟨n,rfl⟩:=Int.eq_ofNat_of_zero_le h0;have hx:n&&& 2147483647<2^64:=Nat.and_lt_two_pow _ (by omega);have h1:(BitVec.ofInt 64 (n:Int)).toNat=n:=by
  rw [BitVec.ofInt_natCast,BitVec.toNat_ofNat];exact Nat.mod_eq_of_lt (by omega)
 have h2:(BitVec.ofInt 64 (2147483647:Int)).toNat=2147483647:=by decide
 show i64.wrap ((BitVec.ofInt 64 (n:Int)&&& BitVec.ofInt 64 (2147483647:Int)).toNat:Int)=_;have e:n&&& 2147483647=n%2147483648:=Nat.and_two_pow_sub_one_eq_mod n 31;rw [BitVec.toNat_and,h1,h2,e,IntKind.wrap_i64];omega
theorem XL (a b:Int) (ha:0≤a) (ha2:a≤4611686018427387904) (hb:0≤b) (hb2:b≤4611686018427387904) (w:World):Calls Tryz.prog 274 #[.int .i64 a,.int .i64 b] w (lM (high a b) w):=by
 have HP:∀z,z=high a b→lM (high a b) w (.returned (.int .i64 z)) w:=fun z h=>⟨by rw [h],rfl⟩;have HP:=aaQ HP;have e1:=mask31 a ha (by omega);have e2:=mask31 b hb (by omega);have p1:=prod31 (a:=a/2147483648) (b:=b/2147483648) (by omega) (by omega) (by omega) (by omega);have p2:=prod31 (a:=a/2147483648) (b:=b%2147483648) (by omega) (by omega) (by omega) (by omega);have p3:=prod31 (a:=a%2147483648) (b:=b/2147483648) (by omega) (by omega) (by omega) (by omega);have hb3:=lN a b ha hb;have hh:high a b≤4611686018427387904:=by
  have:=aiX ha2 hb2 hb (by decide);omega
 have w1:i64.wrap (a/2147483648*(b/2147483648))=a/2147483648*(b/2147483648):=IntWalk.i64_in _ (by omega);have w2:i64.wrap (a/2147483648*(b%2147483648))=a/2147483648*(b%2147483648):=IntWalk.i64_in _ (by omega);have w3:i64.wrap (a%2147483648*(b/2147483648))=a%2147483648*(b/2147483648):=IntWalk.i64_in _ (by omega);have w4:i64.wrap (a/2147483648*(b/2147483648)+a/2147483648*(b%2147483648)/2147483648)=a/2147483648*(b/2147483648)+a/2147483648*(b%2147483648)/2147483648:=IntWalk.i64_in _ (by omega);have w5:i64.wrap (a/2147483648*(b/2147483648)+a/2147483648*(b%2147483648)/2147483648+a%2147483648*(b/2147483648)/2147483648)=a/2147483648*(b/2147483648)+a/2147483648*(b%2147483648)/2147483648+a%2147483648*(b/2147483648)/2147483648:=IntWalk.i64_in _ (by unfold high at hh hb3;omega);clear hb3 hh p1 p2 p3;go_enter Tryz.func274,Tryz.ntmps274;go_wp2;go_ret;exact HP.out _ rfl
end
section
open Go.RowKit
def qW (w:World) (e:Ending) (w':World):Prop:=∃r:Int,-4294967296≤r∧r≤4294967296∧e=.returned (.int .i64 r)∧w=w'
theorem lP {a b A B:Int} (ha:0≤a) (ha2:a≤A) (hb:0≤b) (hb2:b≤B):0≤a*b∧a*b≤A*B:=
 ⟨aeZ ha hb,aiX ha2 hb2 hb (by omega)⟩
def pG:Value→Int | .int _ x=>x | _=>0
theorem QD (n:Int) (h0:0≤n) (h1:n≤5400000) (w:World):Calls Tryz.prog 232 #[.int .i64 n] w (qW w):=by
 obtain ⟨x,hx,x0,x1⟩:∃x,n*3373259426/10800000=x∧0≤x∧x≤1686629713:=⟨_,rfl,by omega,by omega⟩;obtain ⟨p,hp,p0,p1⟩:∃p,x*x=p∧0≤p∧p≤2844719788774462369:=⟨_,rfl,(lP x0 x1 x0 x1).1,by have:=(lP x0 x1 x0 x1).2;omega⟩;have HP:∀r:Int,-4294967296≤r→r≤4294967296→qW w (.returned (.int .i64 r)) w:=fun r a b=>⟨r,a,b,rfl,rfl⟩;have HP:=aaQ HP;go_enter Tryz.func232,Tryz.ntmps232;go_wp2_with fail
 clear hp;generalize hy:p/1073741824=y;have y0:0≤y:=by omega
 have y1:y≤2649351757:=by omega
 clear hy p0 p1;go_loop [5,6] (fun t k=>∃T K:Int,t=.int .i64 T∧k=.int .i64 K∧0≤T∧T≤1073741824∧1≤K∧K≤13∧K%2=1) (fun _ k=>(pG k).toNat)
 case atStart=>exact ⟨_,_,rfl,rfl,by omega,by omega,by omega,by omega,by omega⟩
 case round=>
  obtain ⟨T,K,rfl,rfl,t0,t1,k0,k1,k2⟩:=hrel;by_cases hk:1<K
  ·obtain ⟨q,hq,q0,q1⟩:∃q,y*T=q∧0≤q∧q≤2844719787978784768:=⟨_,rfl,(lP y0 y1 t0 t1).1,by have:=(lP y0 y1 t0 t1).2;omega⟩;obtain ⟨d,hd,d0,d1⟩:∃d,K*(K-1)=d∧6≤d∧d≤156:=⟨_,rfl,by have:=(lP (a:=3) (A:=K) (b:=2) (B:=K-1) (by omega) (by omega) (by omega) (by omega)).2;omega,by have:=(lP (a:=K) (A:=13) (b:=K-1) (B:=12) (by omega) (by omega) (by omega) (by omega)).2;omega⟩;obtain ⟨u,hu,u0,u1⟩:∃u,(q/1073741824).tdiv d=u∧0≤u∧u≤1073741824:=by
    refine ⟨_,rfl,?_,?_⟩
    ·rw [aiZ (by omega)];exact asQ (by omega) (by omega)
    ·rw [aiZ (by omega)];have a:=aqQ (q/1073741824) (show d≠0 by omega);have b:=asQ (a:=q/1073741824) (b:=d) (by omega) (by omega);have c:=afX d0 b;generalize q/1073741824/d=e at*;omega
   go_wp2;go_round
   case rel=>exact ⟨1073741824-u,K-2,rfl,rfl,by omega,by omega,by omega,by omega,by omega⟩
   case measure=>simp [pG];omega
  ·obtain ⟨z,hz,z0,z1⟩:∃z,x*T=z∧0≤z∧z≤1811004954867040256:=⟨_,rfl,(lP x0 x1 t0 t1).1,by have:=(lP x0 x1 t0 t1).2;omega⟩;go_wp2;go_ret;exact HP.out _ (by omega) (by omega)
theorem QC (n:Int) (h0:-5400000≤n) (h1:n≤5400000) (w:World):Calls Tryz.prog 232 #[.int .i64 n] w (qW w):=by
 by_cases h:0≤n
 ·exact QD n h h1 w
 ·have H:=aaQ (QD (-n) (by omega) (by omega) w);have HP:∀r:Int,-4294967296≤r→r≤4294967296→qW w (.returned (.int .i64 r)) w:=fun r a b=>⟨r,a,b,rfl,rfl⟩;have HP:=aaQ HP;go_enter Tryz.func232,Tryz.ntmps232;go_wp2_with fail
  first
   | rw [show (0-n)=-n by omega]
   | skip
  refine H.out.mono ?_;rintro e w1 ⟨r,r0,r1,rfl,rfl⟩;go_wp2;go_ret;exact HP.out _ (by omega) (by omega)
end
section
open Go.RowKit
def OH (w:World) (e:Ending) (w':World):Prop:=∃r:Int,-5400000≤r∧r≤5400000∧e=.returned (.int .i64 r)∧w=w'
theorem guess_any (v:Int) (w:World):Calls Tryz.prog 205 #[.int .i64 v] w (OH w):=by
 have HP:∀r:Int,-5400000≤r→r≤5400000→OH w (.returned (.int .i64 r)) w:=fun r a b=>⟨r,a,b,rfl,rfl⟩;have HP:=aaQ HP;have HR:=aaQ QC;go_enter Tryz.func205,Tryz.ntmps205;go_wp2_with fail
 go_loop [3,4] (fun l h=>∃L H:Int,l=.int .i64 L∧h=.int .i64 H∧-5400000≤L∧L≤H∧H≤5400000) (fun l h=>(pG h-pG l).toNat)
 case atStart=>exact ⟨_,_,rfl,rfl,by omega,by omega,by omega⟩
 case round=>
  obtain ⟨L,H,rfl,rfl,t0,t1,k0⟩:=hrel;by_cases hk:L<H
  ·obtain ⟨m,hm,m0,m1⟩:∃m,L+(H-L+1)/2=m∧L<m∧m≤H:=⟨_,rfl,by omega,by omega⟩;have HR:=aaQ (HR.out m (by omega) (by omega) w);go_wp2_with fail
   refine HR.out.mono ?_;rintro e w1 ⟨r,r0,r1,rfl,rfl⟩;clear HR;by_cases hc:r≤v
   ·go_wp2;go_round
    case rel=>exact ⟨m,H,rfl,rfl,by omega,by omega,by omega⟩
    case measure=>simp [pG];omega
   ·go_wp2;go_round
    case rel=>exact ⟨L,m-1,rfl,rfl,by omega,by omega,by omega⟩
    case measure=>simp [pG];omega
  ·go_wp2;go_ret;exact HP.out _ (by omega) (by omega)
end
section
open Go.RowKit SM
theorem step_le {t sq d e:Int} (ht:0≤t) (hsq:0≤sq) (hsq2:sq≤4611686018427387904) (hd:2≤d) (he:12≤e):0≤high t sq/d∧high t sq/d*2≤t∧0≤high (high t sq/d) sq/e∧high (high t sq/d) sq/e*12≤high t sq/d:=by
 have h1:=lN t sq ht hsq;have h2:=qA ht hsq hsq2;have u0:0≤high t sq/d:=asQ h1.1 (by omega);have h3:=lN (high t sq/d) sq u0 hsq;have h4:=qA u0 hsq hsq2;have v0:0≤high (high t sq/d) sq/e:=asQ h3.1 (by omega);have a1:high t sq/d*d≤high t sq:=aqQ _ (by omega);have a2:high (high t sq/d) sq/e*e≤high (high t sq/d) sq:=aqQ _ (by omega);have b1:=afX hd u0;have b2:=afX he v0;refine ⟨u0,by omega,v0,by omega⟩
def QRel (sq R S t d:Int):Prop:=0≤S∧0≤t∧S+t≤4611686018427387904∧∃f:Nat,f≤20∧t<16^f∧1≤d∧d+4*f≤82∧mN sq f S t d=R
theorem qrel_end {sq R S t d:Int} (h:QRel sq R S t d) (ht:¬0<t):S=R∧0≤R∧R≤4611686018427387904:=by
 obtain ⟨h0,h1,h2,f,h3,h4,h5,h6,h7⟩:=h;have:S=R:=by
  cases f with
  | zero=>exact h7
  | succ f=>rw [mN,if_neg ht] at h7;exact h7
 exact ⟨this,by omega,by omega⟩
theorem qrel_step {sq R S t d:Int} (hsq:0≤sq) (hsq2:sq≤4611686018427387904) (h:QRel sq R S t d) (ht:0<t):
  1≤d∧d≤78∧0≤S∧S+t≤4611686018427387904∧0≤high t sq∧high t sq≤t∧2≤d*(d+1)∧d*(d+1)≤10000∧12≤(d+2)*(d+3)∧(d+2)*(d+3)≤10000∧
  0≤high t sq/(d*(d+1))∧high t sq/(d*(d+1))*2≤t∧0≤high (high t sq/(d*(d+1))) sq∧high (high t sq/(d*(d+1))) sq≤high t sq/(d*(d+1))∧
  0≤high (high t sq/(d*(d+1))) sq/((d+2)*(d+3))∧high (high t sq/(d*(d+1))) sq/((d+2)*(d+3))*12≤high t sq/(d*(d+1))∧
  QRel sq R (S+t-high t sq/(d*(d+1))) (high (high t sq/(d*(d+1))) sq/((d+2)*(d+3))) (d+4):=by
 obtain ⟨h0,h1,h2,f,h3,h4,h5,h6,h7⟩:=h;cases f with
 | zero=>exfalso;simp at h4;omega
 | succ f=>
  rw [mN,if_pos ht] at h7;have p1:2≤d*(d+1):=by have:=(lP (a:=1) (A:=d) (b:=2) (B:=d+1) (by omega) h5 (by omega) (by omega)).2;omega
  have p2:12≤(d+2)*(d+3):=by have:=(lP (a:=3) (A:=d+2) (b:=4) (B:=d+3) (by omega) (by omega) (by omega) (by omega)).2;omega
  have p3:d*(d+1)≤100*100:=aiX (by omega) (by omega) (by omega) (by omega);have p4:(d+2)*(d+3)≤100*100:=aiX (by omega) (by omega) (by omega) (by omega);obtain ⟨u0,u1,v0,v1⟩:=step_le (t:=t) h1 hsq hsq2 p1 p2;have g1:=(lN t sq h1 hsq).1;have g2:=qA h1 hsq hsq2;have g3:=(lN _ sq u0 hsq).1;have g4:=qA u0 hsq hsq2;refine ⟨h5,by omega,h0,h2,g1,g2,p1,p3,p2,p4,u0,u1,g3,g4,v0,v1,?_⟩;generalize high (high t sq/(d*(d+1))) sq/((d+2)*(d+3))=v at*;generalize high t sq/(d*(d+1))=u at*;refine ⟨by omega,v0,by omega,f,by omega,?_,by omega,by omega,h7⟩;have e:(16:Int)^(f+1)=16^f*16:=Int.pow_succ 16 f;rw [e] at h4;generalize (16:Int)^f=p at*;omega
theorem quick_any (r:Int) (c:Bool) (h0:0≤r) (h1:r≤2700000) (w:World):Calls Tryz.prog 264 #[.int .i64 r,.bool c] w (lM (dT r c) w):=by
 have HH:=aaQ XL;obtain ⟨x,hX⟩:∃x,r*2620088056*512+r*658911831/4194304=x:=⟨_,rfl⟩;have hx0:0≤x:=by omega
 have hx1:x<4611686018427387904:=by omega
 have hs0:=(lN x x hx0 hx0).1;have hs1:=qA hx0 hx0 (by omega);have HX:=aaQ (XL x x hx0 (by omega) hx0 (by omega) w);obtain ⟨sq,hsq⟩:∃sq,high x x=sq:=⟨_,rfl⟩;have hQ:∀c,dT r c=if c then mN sq 20 0 4611686018427387904 1 else mN sq 20 0 x 2:=fun c=>by
  unfold dT mO;rw [hX,hsq]
 rw [hsq] at hs0 hs1 HX;have hs2:sq≤4611686018427387904:=by omega
 have HQ:=aaQ hQ;clear hsq hs1 hQ;obtain ⟨R,hR⟩:∃R,dT r c=R:=⟨_,rfl⟩;have start:QRel sq R 0 (if c then 4611686018427387904 else x) (if c then 1 else 2):=by
  refine ⟨by omega,by split<;>omega,by split<;>omega,20,by omega,?_,by split<;>omega,by split<;>omega,?_⟩
  ·have:(16:Int)^20=1208925819614629174706176:=by decide
   rw [this];split<;>omega
  ·rw [←hR,HQ.out];cases c<;>rfl
 rw [hR];clear hR HQ;have HP:∀z,z=R→lM R w (.returned (.int .i64 z)) w:=fun z h=>⟨by rw [h],rfl⟩;have HP:=aaQ HP;have start:=aaQ start;cases c;all_goals (
  go_enter Tryz.func264,Tryz.ntmps264;go_wp2_with fail
  refine HX.out.mono ?_;rintro e w1 ⟨rfl,rfl⟩;go_wp2_with fail
  go_loop [7,8,9] (fun t d s=>∃T D S:Int,t=.int .i64 T∧d=.int .i64 D∧s=.int .i64 S∧RowKit.Hid (QRel sq R S T D)) (fun t _ _=>(pG t).toNat)
  case atStart=>exact ⟨_,_,_,rfl,rfl,rfl,start⟩
  case round=>
   obtain ⟨T,D,S,rfl,rfl,rfl,HL⟩:=hrel;by_cases hk:0<T
   ·obtain ⟨a1,a2,a3,a4,a5,a6,a7,a8,a9,a10,a11,a12,a13,a14,a15,a16,HN⟩:=qrel_step hs0 hs2 HL.out hk;have H1:=aaQ (HH.out T sq (by omega) (by omega) hs0 hs2 w);have H2:=aaQ (HH.out (high T sq/(D*(D+1))) sq (by omega) (by omega) hs0 hs2 w);clear HX HP;generalize hG:high T sq=G at*;generalize hD1:D*(D+1)=D1 at*;generalize hD2:(D+2)*(D+3)=D2 at*;have hU:G.tdiv D1=G/D1:=aiZ (by omega);generalize G/D1=U at*;generalize high U sq=G2 at*;have hV:G2.tdiv D2=G2/D2:=aiZ (by omega);generalize G2/D2=V at*;have HN:=aaQ HN;clear hG;go_wp2_with fail
    refine H1.out.mono ?_;rintro e w1 ⟨rfl,rfl⟩;go_wp2_with fail
    refine H2.out.mono ?_;rintro e w1 ⟨rfl,rfl⟩;go_wp2;go_round
    case rel=>exact ⟨V,D+4,S+T-U,rfl,rfl,rfl,HN⟩
    case measure=>simp [pG];omega
   ·obtain ⟨e1,e2,e3⟩:=qrel_end HL.out hk;subst e1;go_wp2;go_ret;exact HP.out _ rfl)
end
section
open Go.RowKit SM
def tH (m:Int):Int:=
 if m<5400000 then (if 2700000<m then dT (5400000-m) true else dT m false)
 else if m<10800000 then (if 2700000<m-5400000 then dT (10800000-m) false else dT (m-5400000) true)
 else if m<16200000 then (if 2700000<m-10800000 then-dT (16200000-m) true else-dT (m-10800000) false)
 else (if 2700000<m-16200000 then-dT (21600000-m) false else-dT (m-16200000) true)
def cI (n:Int):Int:=tH (n%21600000)
theorem ZT {sq:Int} (hsq:0≤sq) (hsq2:sq≤4611686018427387904) {S t d:Int} (h0:0≤S) (h1:0≤t) (h2:S+t≤4611686018427387904) (hd:1≤d):∀f,0≤mN sq f S t d∧mN sq f S t d≤4611686018427387904:=by
 intro f;induction f generalizing S t d with
 | zero=>exact ⟨h0,by unfold mN;omega⟩
 | succ f ih=>
  rw [mN];split
  ·have p1:2≤d*(d+1):=by have:=(lP (a:=1) (A:=d) (b:=2) (B:=d+1) (by omega) hd (by omega) (by omega)).2;omega
   have p2:12≤(d+2)*(d+3):=by have:=(lP (a:=3) (A:=d+2) (b:=4) (B:=d+3) (by omega) (by omega) (by omega) (by omega)).2;omega
   obtain ⟨u0,u1,v0,v1⟩:=step_le (t:=t) h1 hsq hsq2 p1 p2;exact ih (by omega) v0 (by omega) (by omega)
  ·exact ⟨h0,by omega⟩
theorem oV (r:Int) (c:Bool) (h0:0≤r) (h1:r≤2700000):0≤dT r c∧dT r c≤4611686018427387904:=by
 unfold dT;have hx:0≤mO r∧mO r≤4611686018427387904:=by unfold mO;omega
 have hs0:=(lN _ _ hx.1 hx.1).1;have hs1:=qA hx.1 hx.1 hx.2;split
 ·exact ZT hs0 (by omega) (by omega) (by omega) (by omega) (by omega) 20
 ·exact ZT hs0 (by omega) (by omega) hx.1 (by omega) (by omega) 20
theorem qN_eq {a b:Int} {c d:Bool} (h:a=b) (h2:c=d):dT a c=dT b d:=by rw [h,h2]
def QkPost (r:Int) (c:Bool) (w:World) (e:Ending) (w':World):Prop:=∃v,dT r c=v∧0≤v∧v≤4611686018427387904∧e=.returned (.int .i64 v)∧w=w'
theorem quick_call (r:Int) (c:Bool) (h0:0≤r) (h1:r≤2700000) (w:World):Calls Tryz.prog 264 #[.int .i64 r,.bool c] w (QkPost r c w):=
 (quick_any r c h0 h1 w).mono fun _ _ h=>⟨_,rfl,(oV r c h0 h1).1,(oV r c h0 h1).2,h.1,h.2⟩
theorem ZV (n m:Int) (hm:n.tmod 21600000=m∨n.tmod 21600000+21600000=m∧n.tmod 21600000<0) (m0:0≤m) (m1:m<21600000) (w:World):Calls Tryz.prog 244 #[.int .i64 n] w (lM (tH m) w):=by
 have HP:∀z,z=tH m→lM (tH m) w (.returned (.int .i64 z)) w:=fun z h=>⟨by rw [h],rfl⟩;have HQ:=aaQ quick_call;obtain ⟨z,hz⟩:∃z,tH m=z:=⟨_,rfl⟩;rw [hz] at HP ⊢;rw [tH] at hz;have HP:=aaQ HP;have HE:=aaQ hz;rcases (show m≤2700000∨(2700000<m∧m<5400000)∨(5400000≤m∧m≤8100000)∨(8100000<m∧m<10800000)∨(10800000≤m∧m≤13500000)∨(13500000<m∧m<16200000)∨(16200000≤m∧m≤18900000)∨18900000<m by omega) with h | h | h | h | h | h | h | h;all_goals (
  rcases hm with hs | ⟨hs,hs2⟩
  ·go_enter Tryz.func244,Tryz.ntmps244;go_wp2_with fail
   refine (HQ.out _ _ (by omega) (by omega) _).mono ?_;rintro e w1 ⟨v,hv,v0,v1,rfl,rfl⟩;have hv:=aaQ hv;go_wp2;go_ret;refine HP.out _ ?_;have hz:=HE.out;have hv:=hv.out;clear HE HP HQ;subst hv
   (repeat' split at hz)<;>first
    | omega
    | (rw [←hz];first
      | exact qN_eq (by omega) (by simp only [beq_iff_eq,beq_eq_false_iff_ne,ne_eq,Bool.not_eq_true',Bool.not_eq_false'];omega)
      | exact congrArg (fun x=>-x) (qN_eq (by omega) (by simp only [beq_iff_eq,beq_eq_false_iff_ne,ne_eq,Bool.not_eq_true',Bool.not_eq_false'];omega)))
  ·go_enter Tryz.func244,Tryz.ntmps244;go_wp2_with fail
   refine (HQ.out _ _ (by omega) (by omega) _).mono ?_;rintro e w1 ⟨v,hv,v0,v1,rfl,rfl⟩;have hv:=aaQ hv;go_wp2;go_ret;refine HP.out _ ?_;have hz:=HE.out;have hv:=hv.out;clear HE HP HQ;subst hv
   (repeat' split at hz)<;>first
    | omega
    | (rw [←hz];first
      | exact qN_eq (by omega) (by simp only [beq_iff_eq,beq_eq_false_iff_ne,ne_eq,Bool.not_eq_true',Bool.not_eq_false'];omega)
      | exact congrArg (fun x=>-x) (qN_eq (by omega) (by simp only [beq_iff_eq,beq_eq_false_iff_ne,ne_eq,Bool.not_eq_true',Bool.not_eq_false'];omega)))
)
theorem QO (n:Int):n.tmod 21600000=n%21600000∨n.tmod 21600000+21600000=n%21600000∧n.tmod 21600000<0:=by
 obtain ⟨k1,k2,k3,k4⟩:=EK n;by_cases h:0≤n.tmod 21600000
 ·exact .inl (k1 h)
 ·exact .inr ⟨k2 (by omega),by omega⟩
theorem zZ (n:Int) (w:World):Calls Tryz.prog 244 #[.int .i64 n] w (lM (cI n) w):=
 ZV n (n%21600000) (QO n) (ajQ n (by decide)) (ahJ n (by decide)) w
end
end Go.Proofs.YtmididlfnajhiaaGreatDoor
