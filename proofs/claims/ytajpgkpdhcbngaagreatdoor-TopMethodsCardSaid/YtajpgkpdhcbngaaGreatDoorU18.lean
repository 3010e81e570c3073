/-
  Haversines: no error comes but that of the pole; the arcs hold the true zenith distance and azimuth. No program here. Chapter 30: what Meet, All, and Best give; the examples. Rotated vectors: no.
-/
import Derived.Test.YtajpgkpdhcbngaaGreatDoorU11
import Derived.Test.YtajpgkpdhcbngaaGreatDoorU12
import Derived.Test.YtajpgkpdhcbngaaGreatDoorW30
set_option maxRecDepth 100000
set_option maxHeartbeats 4000000
open _root_.Int renaming emod_nonneg→aiQ,le_refl→abJ,le_total→asX,lt_or_eq_of_le→aoX,lt_or_le→aiJ,lt_trichotomy→alQ,mul_le_mul_of_nonneg_right→aeZ,mul_nonneg→aeJ,natCast_mul→ajX,toNat_of_nonneg→ajQ
open _root_.Rat renaming intCast_add→acQ,intCast_mul→acX,intCast_neg→afQ,intCast_sub→abZ,le_refl→ayJ,le_total→abX,mul_comm→aqJ,mul_eq_zero→anZ,mul_nonneg→aaQ
open Go.Proofs.Tryz renaming prog→aaZ
open Go.IntKind (i64 u64)
namespace Go.Proofs.YtajpgkpdhcbngaaGreatDoor
noncomputable section
section
open SM TB TA
open Ev (lt bG)
theorem BG {a b c d:Int} (h1:-100000000≤a) (h2:a≤b) (h3:b≤100000000) (h4:-100000000≤c) (h5:c≤d) (h6:d≤100000000):
  mS a b c d=((dT (a-d) (b-c)).1,(dT (a-d) (b-c)).2.1)∧(∀k,betC k a b c d=k)∧0≤(mS a b c d).1∧(mS a b c d).1≤(mS a b c d).2∧(mS a b c d).2≤1073741824:=by
 have hv:aE (a-d) (b-c)=true:=aR (by omega) (by omega) (by omega);have h:=(qE hv).2.2;unfold mS betC;rw [pP h1 h2 h3 h4 h5 h6];refine ⟨rfl,fun k=>?_,h.1,h.2.1,h.2.2.1⟩;dsimp only;rw [h.2.2.2];unfold bG;split<;>simp_all
theorem zN {a b c d:Int} (h1:aE a b=true) (h2:aE c d=true):
  nR a b c d=((bF (aI a b).1 (aI a b).2.1 (aI c d).1 (aI c d).2.1).1,(bF (aI a b).1 (aI a b).2.1 (aI c d).1 (aI c d).2.1).2.1)∧(∀k,cosC k a b c d=k)∧
   -1073741824≤(nR a b c d).1∧(nR a b c d).1≤(nR a b c d).2∧(nR a b c d).2≤1073741824:=by
 have p:=(qE h1).2.1;have q:=(qE h2).2.1;have m:=mul_one p.1 p.2.1 p.2.2.1 q.1 q.2.1 q.2.2.1;refine ⟨rfl,fun k=>?_,m.2.1,m.2.2.1,m.2.2.2⟩;unfold cosC;dsimp only;rw [p.2.2.2,q.2.2.2,m.1];unfold bG;repeat' split
 all_goals simp_all
def IZ (r:Int×Int×Int):Int×Int×Int:=(r.1,r.2.1,if r.2.2=2 then 23 else r.2.2)
def topS (n1 n2 d1 d2:Int):Int×Int×Int:=
 if d1≤0∧0≤d2 then (0,0,21) else
  if (lX n1 n2 d1 d2).2.2=5 then IZ (eY 0 1073741824) else if (lX n1 n2 d1 d2).2.2≠0 then (0,0,(lX n1 n2 d1 d2).2.2) else IZ (eY (lX n1 n2 d1 d2).1 (lX n1 n2 d1 d2).2.1)
def EZ (a b c d u v:Int):Int×Int×Int:=lJ (dT (5400000-d) (5400000-c)).1 (dT (5400000-d) (5400000-c)).2.1 (mS a b (5400000-v) (5400000-u)).1 (mS a b (5400000-v) (5400000-u)).2
theorem fin_cond (r:Int×Int×Int):cond (r.2.2==2) (r.1,r.2.1,(23:Int)) (r.1,r.2.1,r.2.2)=IZ r:=by
 unfold IZ;by_cases h:r.2.2=2
 ·have:(r.2.2==2)=true:=beq_iff_eq.2 h;rw [this,if_pos h];rfl
 ·have:(r.2.2==2)=false:=beq_eq_false_iff_ne.2 h;rw [this,if_neg h];rfl
theorem num_ok {a b c d u v:Int} (h1:gK a b=true) (h2:gK c d=true) (hu:0≤u) (huv:u≤v) (hv:v≤10800000):
  (EZ a b c d u v).2.2=0∧aN (EZ a b c d u v).1 (EZ a b c d u v).2.1=true:=by
 have l1:=bW h1;have l2:=bW h2;have hh:aE (5400000-d) (5400000-c)=true:=aR (by omega) (by omega) (by omega);have h:=(qE hh).2.2;have k:=BG (a:=a) (b:=b) (c:=5400000-v) (d:=5400000-u) (by omega) (by omega) (by omega) (by omega) (by omega) (by omega);unfold EZ lJ;rw [if_pos (oC (fF (by omega) h.2.1 (by omega)) (fF (by omega) k.2.2.2.1 (by omega)))];have hv:aN ((dT (5400000-d) (5400000-c)).1-(mS a b (5400000-v) (5400000-u)).2) ((dT (5400000-d) (5400000-c)).2.1-(mS a b (5400000-v) (5400000-u)).1)=true:=fF (by omega) (by omega) (by omega);rw [BT hv];exact ⟨rfl,hv⟩
theorem SA {a b:Int} (h1:-100000000≤a∧a≤100000000) (h2:-100000000≤b∧b≤100000000):uX a b=(5400000-b,5400000-a):=by
 unfold uX;rw [bR (by omega),bR (by omega)]
theorem top_eq {a b c d e f u v:Int} (h1:gK a b=true) (h2:gK c d=true) (hu:0≤u) (huv:u≤v) (hv:v≤10800000):
  gY a b c d e f u v=topS (EZ a b c d u v).1 (EZ a b c d u v).2.1 (nR a b (5400000-v) (5400000-u)).1 (nR a b (5400000-v) (5400000-u)).2:=by
 have l1:=bW h1;have l2:=bW h2;have hh:aE (5400000-d) (5400000-c)=true:=aR (by omega) (by omega) (by omega);have hz:aE (5400000-v) (5400000-u)=true:=aR (by omega) (by omega) (by omega);have h:=(qE hh).2.2;have k:=BG (a:=a) (b:=b) (c:=5400000-v) (d:=5400000-u) (by omega) (by omega) (by omega) (by omega) (by omega) (by omega);have q:=zN l1.1 hz;have n0:=(num_ok h1 h2 hu huv hv).1;unfold gY topMK;simp only [lt,nV,oY];rw [SA (a:=c) (b:=d) (by omega) (by omega),SA (a:=u) (b:=v) (by omega) (by omega)];simp only [];have e1:bG 0 (dT (5400000-d) (5400000-c)).2.2=0:=by rw [h.2.2.2];rfl
 rw [e1,k.2.1];have e2:lJ (dT (5400000-d) (5400000-c)).1 (dT (5400000-d) (5400000-c)).2.1 (mS a b (5400000-v) (5400000-u)).1 (mS a b (5400000-v) (5400000-u)).2=EZ a b c d u v:=rfl;rw [e2,n0,q.2.1];simp only [fin_cond,bG,if_true];generalize EZ a b c d u v=N;generalize (nR a b (5400000-v) (5400000-u))=D;unfold topS;generalize lX N.1 N.2.1 D.1 D.2=r;have e3:((0:Int) != 0)=false:=rfl;rw [e3];simp only [cond_false];by_cases c1:D.1≤0
 ·have:decide (D.1≤0)=true:=decide_eq_true c1;rw [this];by_cases c2:D.2≥0
  ·have:decide (D.2≥0)=true:=decide_eq_true c2;rw [this,if_pos ⟨c1,c2⟩];rfl
  ·have:decide (D.2≥0)=false:=decide_eq_false c2;rw [this,if_neg (by omega)];simp only [cond_true,cond_false];by_cases c3:r.2.2=5
   ·rw [if_pos c3];simp [c3]
   ·rw [if_neg c3];by_cases c4:r.2.2=0
    ·simp [c4]
    ·rw [beq_eq_false_iff_ne.2 c3,bne_iff_ne.2 c4];simp [c4]
 ·have:decide (D.1≤0)=false:=decide_eq_false c1;rw [this,if_neg (by omega)];simp only [cond_false];by_cases c3:r.2.2=5
  ·rw [if_pos c3];simp [c3]
  ·rw [if_neg c3];by_cases c4:r.2.2=0
   ·simp [c4]
   ·rw [beq_eq_false_iff_ne.2 c3,bne_iff_ne.2 c4];simp [c4]
theorem div_err {a b c d:Int} (h1:aN a b=true) (h2:aN c d=true) (hz:¬(c≤0∧0≤d)):(lX a b c d).2.2=0∨(lX a b c d).2.2=5:=by
 unfold lX;rw [if_pos (oC h1 h2),if_neg (by simp [pI];omega)];unfold lZ;split<;>simp
theorem div_val {a b c d:Int} (h:(lX a b c d).2.2=0):aN (lX a b c d).1 (lX a b c d).2.1=true:=by
 unfold lX at h ⊢;obtain ⟨hb,hf⟩:=FG h;rw [if_pos hb];split at hf
 ·cases hf
 ·rename_i hz;rw [if_neg hz];obtain ⟨hv,e⟩:=JA hf;rw [e];exact hv
theorem asn_low:pK (-1073741824)=-5400000:=BF (by omega) ⟨by omega,by omega,by decide+kernel,.inr (by decide+kernel)⟩
theorem ahav_all:eY 0 1073741824=(0,10800000,0):=by
 unfold eY xJ bE;simp [aN,asn_low]
def tP (a b c d e f:Int):Int×Int×Int:=bF (nR a b c d).1 (nR a b c d).2 (dT e f).1 (dT e f).2.1
def xH (a b c d e f:Int):Int×Int×Int:=gB (mS a b c d).1 (mS a b c d).2 (tP a b c d e f).1 (tP a b c d e f).2.1
theorem zsum_ok {a b c d e f:Int} (h:dV a b c d e f=true):(tP a b c d e f).2.2=0∧xH a b c d e f=((mS a b c d).1+(tP a b c d e f).1,(mS a b c d).2+(tP a b c d e f).2.1,0)∧
  aN (xH a b c d e f).1 (xH a b c d e f).2.1=true:=by
 obtain ⟨h1,h2,h3⟩:=gA h;have l1:=bW h1;have l2:=bW h2;have k:=BG (a:=a) (b:=b) (c:=c) (d:=d) (by omega) (by omega) (by omega) (by omega) (by omega) (by omega);have q:=zN l1.1 l2.1;have o:=(qE h3).2.2;have m:=mul_one q.2.2.1 q.2.2.2.1 q.2.2.2.2 (by omega) o.2.1 o.2.2.1;have em:(bF (nR a b c d).1 (nR a b c d).2 (dT e f).1 (dT e f).2.1)=tP a b c d e f:=rfl;rw [em] at m;have ev:xH a b c d e f=((mS a b c d).1+(tP a b c d e f).1,(mS a b c d).2+(tP a b c d e f).2.1,0):=by
  unfold xH gB;rw [if_pos (oC (fF (by omega) k.2.2.2.1 (by omega)) (fF (by omega) m.2.2.1 (by omega)))];exact BT (fF (by omega) (by omega) (by omega))
 refine ⟨m.1,ev,?_⟩;rw [ev];exact fF (by dsimp only;omega) (by dsimp only;omega) (by dsimp only;omega)
def GE (p q e f:Int):Int×Int×Int:=
 if fG e f≥10800000∧dU e f≤21600000 then (p,q,0) else if dU e f≤10800000 then dO (21600000-q) (21600000-p) else if p+q>10800000 then (p,21600000-p,0) else dO (-q) q
theorem azi_eq {a b c d e f u v:Int} (ht:dV a b c d e f=true) (hu:0≤u) (huv:u≤v) (hv:v≤10800000):
  VC a b c d e f u v=if (gY a b c d e f u v).2.2≠0 then (0,0,(gY a b c d e f u v).2.2) else
   (if fG e f≥10800000∧dU e f≤21600000 then ((gY a b c d e f u v).1,(gY a b c d e f u v).2.1,0) else if dU e f≤10800000 then dO (i64.wrap (21600000-(gY a b c d e f u v).2.1)) (i64.wrap (21600000-(gY a b c d e f u v).1)) else if i64.wrap ((gY a b c d e f u v).1+(gY a b c d e f u v).2.1)>10800000 then ((gY a b c d e f u v).1,i64.wrap (21600000-(gY a b c d e f u v).1),0) else dO (i64.wrap (0-(gY a b c d e f u v).2.1)) (gY a b c d e f u v).2.1):=by
 obtain ⟨_,_,he⟩:=gA ht;unfold VC aziMK;simp only [lt];have et:dO e f=(fG e f,dU e f,0):=by unfold dO;rw [if_pos he]
 rw [ht,et];generalize gY a b c d e f u v=r;have d1:decide (u<0)=false:=decide_eq_false (by omega);have d2:decide (u>v)=false:=decide_eq_false (by omega);have d3:decide (v>10800000)=false:=decide_eq_false (by omega);rw [d1,d2,d3];simp only [Bool.not_true,cond_false];by_cases c0:r.2.2=0
 ·have:(r.2.2 != 0)=false:=bne_eq_false_iff_eq.2 c0;rw [this,if_neg (by simpa using c0)];have z:((0:Int) != 0)=false:=rfl;simp only [cond_false,z];by_cases c1:fG e f≥10800000
  ·have:decide (fG e f≥10800000)=true:=decide_eq_true c1;rw [this];by_cases c2:dU e f≤21600000
   ·have:decide (dU e f≤21600000)=true:=decide_eq_true c2;rw [this,if_pos ⟨c1,c2⟩];rfl
   ·have:decide (dU e f≤21600000)=false:=decide_eq_false c2;rw [this,if_neg (by omega)];simp only [cond_true,cond_false];by_cases c3:dU e f≤10800000
    ·rw [decide_eq_true c3,if_pos c3];rfl
    ·rw [decide_eq_false c3,if_neg c3];simp only [cond_false];by_cases c4:i64.wrap (r.1+r.2.1)>10800000
     ·rw [decide_eq_true c4,if_pos c4];rfl
     ·rw [decide_eq_false c4,if_neg c4];rfl
  ·have:decide (fG e f≥10800000)=false:=decide_eq_false c1;rw [this,if_neg (by omega)];simp only [cond_false];by_cases c3:dU e f≤10800000
   ·rw [decide_eq_true c3,if_pos c3];rfl
   ·rw [decide_eq_false c3,if_neg c3];simp only [cond_false];by_cases c4:i64.wrap (r.1+r.2.1)>10800000
    ·rw [decide_eq_true c4,if_pos c4];rfl
    ·rw [decide_eq_false c4,if_neg c4];rfl
 ·have:(r.2.2 != 0)=true:=bne_iff_ne.2 c0;rw [this,if_pos c0];rfl
theorem NR {a b:Int} {d q:Rat} (hv:aE a b=true) (hd:0≤d) (hd1:d≤1) (h:Hs d a b q):Vl (dT a b) (1000*d+3*e1) ((1-co q)/2):=by
 have c:=cos_B hv hd hd1 h;have e1':(aI a b).1=mK (a+5400000) (b+5400000):=by simp [aI,hv]
 have e2':(aI a b).2.1=mJ (a+5400000) (b+5400000):=by simp [aI,hv]
 have e3:(dT a b).1=(1073741824-mJ (a+5400000) (b+5400000))/2:=by simp [dT,hv]
 have e4:(dT a b).2.1=(1073741824-mK (a+5400000) (b+5400000)+1)/2:=by simp [dT,hv]
 refine ⟨(iX hv).2.2.2,(iX hv).val,?_⟩;rw [e1',e2'] at c;rw [e3,e4];have e1b:=iL;have half:∀x:Int,((x/2:Int):Rat)≤(x:Rat)/2∧(x:Rat)/2-1/2≤((x/2:Int):Rat):=fun x=>by
  have h1:=aV (show 2*(x/2)≤x by omega);have h2:=aV (show x≤2*(x/2)+1 by omega);rw [acX] at h1;rw [acQ,acX] at h2;rw [show ((2:Int):Rat)=2 by rfl] at h1 h2;rw [show ((1:Int):Rat)=1 by rfl] at h2;constructor<;>grind
 have p:=half (1073741824-mJ (a+5400000) (b+5400000));have r:=half (1073741824-mK (a+5400000) (b+5400000)+1);rw [abZ] at p;rw [acQ,abZ] at r;rw [show ((1073741824:Int):Rat)=1073741824 by rfl] at p r;rw [show ((1:Int):Rat)=1 by rfl] at r;unfold Cq at c;unfold Hs at*;generalize (mJ (a+5400000) (b+5400000):Rat)=u at*;generalize (mK (a+5400000) (b+5400000):Rat)=v at*;generalize co q=w at*;constructor<;>grind
theorem ahav_v {r:Int×Int×Int} {e t d q X:Rat} (h:Vl r e X) (hq:Cl t (si q) (1-2*X)) (q0:-5400000≤q) (q1:q≤5400000) (he:0≤e) (ht:0≤t) (hd0:0≤d) (hs:2*e+2*e1+2147483648*t≤1/4) (hd:100000*(2*e+2*e1+2147483648*t+4*e1)≤d*d):
  (eY r.1 r.2.1).2.2=0∧0≤(eY r.1 r.2.1).1∧(eY r.1 r.2.1).1≤(eY r.1 r.2.1).2.1∧(eY r.1 r.2.1).2.1≤10800000∧Hs d (eY r.1 r.2.1).1 (eY r.1 r.2.1).2.1 (5400000-q):=by
 have b:=(LO q).2;have u:=aY;have e1b:=iL;have ub:1073741824*(8192*u0)≤e1:=by decide+kernel
 have v:=iP h.2.1;have hv:=h.2.1;have hh:=h.2.2;unfold Hs at hh;unfold Cl at hq;have c1:r.1≤1073741824:=vM (e:=1/2) (by rw [show ((1073741824:Int):Rat)=1073741824 by rfl];grind) (by grind);have c2:0≤r.2.1:=vM (e:=1/2) (by rw [show ((0:Int):Rat)=0 by rfl];grind) (by grind);have lo:((max r.1 0:Int):Rat)≤1073741824*X+e+e1+1073741824*t:=by
  rcases asX r.1 0 with c | c
  ·rw [Int.max_eq_right c,show ((0:Int):Rat)=0 by rfl];grind
  ·rw [Int.max_eq_left c];grind
 have hi:1073741824*X-e-e1-1073741824*t≤((min r.2.1 1073741824:Int):Rat):=by
  rcases asX r.2.1 1073741824 with c | c
  ·rw [Int.min_eq_left c];grind
  ·rw [Int.min_eq_right c,show ((1073741824:Int):Rat)=1073741824 by rfl];grind
 have sv:Vl (1073741824-2*min r.2.1 1073741824,1073741824-2*max r.1 0,(0:Int)) (2*e+2*e1+2147483648*t) (1-2*X):=by
  refine ⟨rfl,fF (by dsimp only;omega) (by dsimp only;omega) (by dsimp only;omega),?_⟩;unfold Hs;dsimp only;rw [abZ,abZ,acX,acX,show ((1073741824:Int):Rat)=1073741824 by rfl,show ((2:Int):Rat)=2 by rfl];constructor<;>grind
 have sn':Vl (1073741824-2*min r.2.1 1073741824,1073741824-2*max r.1 0,(0:Int)) (2*e+2*e1+2147483648*t) (si q):=by
  refine ⟨rfl,sv.2.1,?_⟩;have k:=sv.2.2;unfold Hs;dsimp only;rw [abZ,abZ,acX,acX,show ((1073741824:Int):Rat)=1073741824 by rfl,show ((2:Int):Rat)=2 by rfl];have lo':((max r.1 0:Int):Rat)≤1073741824*X+e∨((max r.1 0:Int):Rat)=0:=by
   rcases asX r.1 0 with c | c
   ·right;rw [Int.max_eq_right c];rfl
   ·left;rw [Int.max_eq_left c];grind
  have hi':1073741824*X-e≤((min r.2.1 1073741824:Int):Rat)∨((min r.2.1 1073741824:Int):Rat)=1073741824:=by
   rcases asX r.2.1 1073741824 with c | c
   ·left;rw [Int.min_eq_left c];grind
   ·right;rw [Int.min_eq_right c];rfl
  generalize ((max r.1 0:Int):Rat)=L at*;generalize ((min r.2.1 1073741824:Int):Rat)=M at*;constructor
  ·rcases hi' with c | c<;>grind
  ·rcases lo' with c | c<;>grind
 have k:=BE sn' (Cl.refl (si q) (e:=0) (by grind)) q0 q1 (by grind) (by grind) hd0 (by grind) (by rw [show 1073741824*(0:Rat)=0 by grind];grind);obtain ⟨k1,k2⟩:=k;dsimp only at k1 k2;have a1:=k1.1;have a2:=k1.2.1;have a3:=k1.2.2.1;have a4:=k1.2.2.2;have ev:eY r.1 r.2.1=(5400000-(bE (1073741824-2*min r.2.1 1073741824) (1073741824-2*max r.1 0)).2.1,5400000-(bE (1073741824-2*min r.2.1 1073741824) (1073741824-2*max r.1 0)).1,0):=by
  unfold eY xJ;rw [hv];simp only [Bool.true_eq_false,if_false];rw [if_pos (by omega),if_pos a4]
 rw [ev];refine ⟨rfl,by dsimp only;omega,by dsimp only;omega,by dsimp only;omega,?_⟩;unfold Hs at k2 ⊢;dsimp only;rw [abZ,abZ,show ((5400000:Int):Rat)=5400000 by rfl];constructor<;>grind
theorem div_v {n d:Int×Int×Int} {e δ X:Rat} (hn:Vl n e (δ*X)) (hd:Vl d e δ) (d0:1≤d.1) (hX0:-1≤X) (hX:X≤2) (he:0≤e) (ok:(lX n.1 n.2.1 d.1 d.2.1).2.2=0):Vl (lX n.1 n.2.1 d.1 d.2.1) (8589934592*e) X:=by
 have vd:=div_val ok;refine ⟨ok,vd,?_⟩;have nb:=iP hn.2.1;have db:=iP hd.2.1;have ev:lX n.1 n.2.1 d.1 d.2.1=(divL n.1 n.2.1 d.1 d.2.1,divH n.1 n.2.1 d.1 d.2.1,0):=by
  have q:=ok;unfold lX at q ⊢;obtain ⟨hb,hf⟩:=FG q;rw [if_pos hb];split at hf
  ·cases hf
  ·rename_i hz;rw [if_neg hz];exact (JA hf).2
 rw [ev];obtain ⟨n',n1,n2,n3,n4⟩:=hn.2.2.clamp he nb.2.1;obtain ⟨t',t1,t2,t3,t4⟩:=hd.2.2.clamp he db.2.1;have D0:=aV d0;rw [show ((1:Int):Rat)=1 by rfl] at D0;have l1:=(FJ (a:=n.1) (b:=n.2.1) (c:=d.1) (d:=d.2.1) (x:=n.1) (y:=d.1) (.inl (by omega)) (abJ _) nb.2.1 (abJ _) db.2.1).1;have l2:=(FJ (a:=n.1) (b:=n.2.1) (c:=d.1) (d:=d.2.1) (x:=n.1) (y:=d.2.1) (.inl (by omega)) (abJ _) nb.2.1 db.2.1 (abJ _)).1;have u1:=(FJ (a:=n.1) (b:=n.2.1) (c:=d.1) (d:=d.2.1) (x:=n.2.1) (y:=d.1) (.inl (by omega)) nb.2.1 (abJ _) (abJ _) db.2.1).2;have u2:=(FJ (a:=n.1) (b:=n.2.1) (c:=d.1) (d:=d.2.1) (x:=n.2.1) (y:=d.2.1) (.inl (by omega)) nb.2.1 (abJ _) db.2.1 (abJ _)).2;have fl:∀x y:Int,1≤y→mU x y*y≤x:=fun x y hy=>by
  unfold mU;rw [if_pos (by omega)];have:=Int.ediv_mul_le x (show y≠0 by omega);exact this
 have ce':∀x y:Int,1≤y→x≤zM x y*y:=fun x y hy=>by
  have:=fl (-x) y hy;unfold zM;have e:-mU (-x) y*y=-(mU (-x) y*y):=Int.neg_mul _ _;omega
 have L1:divL n.1 n.2.1 d.1 d.2.1*d.1≤n.1*1073741824:=Int.le_trans (aeZ l1 (by omega)) (fl _ _ d0);have L2:divL n.1 n.2.1 d.1 d.2.1*d.2.1≤n.1*1073741824:=Int.le_trans (aeZ l2 (by omega)) (fl _ _ (by omega));have U1:n.2.1*1073741824≤divH n.1 n.2.1 d.1 d.2.1*d.1:=Int.le_trans (ce' _ _ d0) (aeZ u1 (by omega));have U2:n.2.1*1073741824≤divH n.1 n.2.1 d.1 d.2.1*d.2.1:=Int.le_trans (ce' _ _ (by omega)) (aeZ u2 (by omega));have L1:=aV L1;have L2:=aV L2;have U1:=aV U1;have U2:=aV U2;rw [acX,acX,show ((1073741824:Int):Rat)=1073741824 by rfl] at L1 L2 U1 U2;clear l1 l2 u1 u2 fl ce' ev vd ok;unfold Hs;dsimp only;generalize (divL n.1 n.2.1 d.1 d.2.1:Rat)=L at*;generalize (divH n.1 n.2.1 d.1 d.2.1:Rat)=U at*;generalize (n.1:Rat)=a at*;generalize (n.2.1:Rat)=b at*;generalize (d.1:Rat)=c at*;generalize (d.2.1:Rat)=f at*;have lL:=YI L t1 t2;have lU:=YI U t1 t2;rw [aqJ c,aqJ t',aqJ f] at lL lU;have A:L*t'≤1073741824*n':=by rcases lL with k | k<;>grind
 have B:1073741824*n'≤U*t':=by rcases lU with k | k<;>grind
 have q1:=aB (a:=1073741824*δ-t') (b:=1073741824*X) (A:=e) (B:=2147483648) t3 t4 (by grind) (by grind);have ex:1073741824*(1073741824*(δ*X))=(1073741824*δ-t')*(1073741824*X)+t'*(1073741824*X):=by grind
 have t0:1≤t':=by grind
 generalize (1073741824*δ-t')*(1073741824*X)=w at*;generalize 1073741824*(δ*X)=z at*;generalize 1073741824*X=P at*;constructor
 ·rcases (abX:L-8589934592*e≤P∨P≤L-8589934592*e) with k | k
  ·exact k
  ·have m:=aaQ (show 0≤t'-1 by grind) (show 0≤L-P by grind);grind
 ·rcases (abX:P≤U+8589934592*e∨U+8589934592*e≤P) with k | k
  ·exact k
  ·have m:=aaQ (show 0≤t'-1 by grind) (show 0≤P-U by grind);grind
def dZ:Rat:=pw 590
def eN:Rat:=pw 560
def dA:Rat:=pw 250
theorem lvH:0≤dZ∧dZ≤1∧100000*(2*(1000*e1)+2*e1+2147483648*(5*e0)+4*e1)≤dZ*dZ∧2*(1000*e1)+2*e1+2147483648*(5*e0)≤1/4∧dZ≤dS∧1073741824*(8000*u0)≤e1∧
  3*(2000*dZ+5*e1)≤eN/2∧1000*dZ+3*e1+(3*e1)+1073741824*(30*eT)≤eN/2∧0<eN∧100000*(2*(8589934592*eN)+2*e1+2147483648*(100000*u0)+4*e1)≤dA*dA∧2*(8589934592*eN)+2*e1+2147483648*(100000*u0)≤1/4∧0≤dA∧4*dA≤dS∧eN≤1/4∧1000*e0≤eT∧8000000*(4294967296*(10*eT)+e0)≤dA∧0<eT:=by decide+kernel
theorem zsum_v {a b c d e f:Int} {x y t:Rat} (h:dV a b c d e f=true) (hx:Hs 0 a b x) (hy:Hs 0 c d y) (ht:Hs 0 e f t):Vl (xH a b c d e f) (1000*e1) ((1-gJ x y t)/2):=by
 obtain ⟨h1,h2,h3⟩:=gA h;have l1:=bW h1;have l2:=bW h2;have e1b:=iL;have w11:=lv.2.2.2.2.2.2.2.2.2.2;have k:=BG (a:=a) (b:=b) (c:=c) (d:=d) (by omega) (by omega) (by omega) (by omega) (by omega) (by omega);have hv:aE (a-d) (b-c)=true:=aR (by omega) (by omega) (by omega);have hq:Hs 0 (a-d) (b-c) (x-y):=by
  have:=hx.sub hy;exact this.wide (by grind) (abJ _) (abJ _)
 have v1:=NR hv (by grind) (by grind) hq;have v2:=fX (aW l1.1) (aW l2.1) (by grind) (by grind) (jI l1.1 hx) (jI l2.1 hy);have v3:=NR h3 (by grind) (by grind) ht;have o2:=aM (aW l1.1) (aW l2.1);have v4:=fX o2 (iX h3) (e:=3*(5*e1)) (by grind) (by grind) v2 (v3.wide (by grind));have q:=zN l1.1 l2.1;have o4:=aM o2 (iX h3);have v5:=MO (iX hv) o4 v1 v4;have ez:xH a b c d e f=gB (dT (a-d) (b-c)).1 (dT (a-d) (b-c)).2.1 (bF (bF (aI a b).1 (aI a b).2.1 (aI c d).1 (aI c d).2.1).1 (bF (aI a b).1 (aI a b).2.1 (aI c d).1 (aI c d).2.1).2.1 (dT e f).1 (dT e f).2.1).1 (bF (bF (aI a b).1 (aI a b).2.1 (aI c d).1 (aI c d).2.1).1 (bF (aI a b).1 (aI a b).2.1 (aI c d).1 (aI c d).2.1).2.1 (dT e f).1 (dT e f).2.1).2.1:=by
  unfold xH tP;rw [k.1,q.1]
 rw [←ez] at v5;have s:=(qH x y).1;have cl:Cl (8000*u0) ((1-gJ x y t)/2) ((1-co (x-y))/2+co x*co y*((1-co t)/2)):=by
  unfold gJ;have u:=aY.1;unfold Cl at*;rw [show co x*co y*((1-co t)/2)=co x*co y/2-co x*co y*co t/2 by grind];generalize co x*co y*co t=p1 at*;generalize co x*co y=p2 at*;generalize si x*si y=p3 at*;generalize co (x-y)=p4 at*;constructor<;>grind
 have w6:=lvH.2.2.2.2.2.1;exact (v5.near cl).wide (by grind)
theorem zen_ok {a b c d e f:Int} (h:dV a b c d e f=true) (ok:(eY (xH a b c d e f).1 (xH a b c d e f).2.1).2.2=0):fT a b c d e f=eY (xH a b c d e f).1 (xH a b c d e f).2.1:=by
 have z:=zsum_ok h;obtain ⟨h1,h2,h3⟩:=gA h;have l1:=bW h1;have l2:=bW h2;have k:=BG (a:=a) (b:=b) (c:=c) (d:=d) (by omega) (by omega) (by omega) (by omega) (by omega) (by omega);have q:=zN l1.1 l2.1;have hh:=(qE h3).2.2;unfold fT zenMK;rw [h];simp only [lt,nV,oY,DU,JG,Bool.not_true,cond_false];rw [q.2.1,hh.2.2.2,AC];have e1:(bF (nR a b c d).1 (nR a b c d).2 (dT e f).1 (dT e f).2.1)=tP a b c d e f:=rfl;rw [e1,z.1,AC,k.2.1];have e2:(gB (mS a b c d).1 (mS a b c d).2 (tP a b c d e f).1 (tP a b c d e f).2.1)=xH a b c d e f:=rfl;have e3:(xH a b c d e f).2.2=0:=by rw [z.2.1]
 rw [e2,e3,AC,ok];obtain ⟨p,r,s,hx⟩:∃p r s,eY (xH a b c d e f).1 (xH a b c d e f).2.1=(p,r,s):=⟨_,_,_,rfl⟩;rw [hx] at ok ⊢;dsimp only at ok;rw [ok];rfl
theorem zen_v {a b c d e f:Int} {x y t h' z':Rat} (h:dV a b c d e f=true) (hx:Hs 0 a b x) (hy:Hs 0 c d y) (ht:Hs 0 e f t) (s:dE x y t h' z'):
  (fT a b c d e f).2.2=0∧0≤(fT a b c d e f).1∧(fT a b c d e f).1≤(fT a b c d e f).2.1∧(fT a b c d e f).2.1≤10800000∧Hs dZ (fT a b c d e f).1 (fT a b c d e f).2.1 (5400000-h'):=by
 obtain ⟨w1,w2,w3,w4,w5,w6,w7,w8,w9,w10,w11,w12,w13,w14,w15,w16,w17⟩:=lvH;have e1b:=iL;have eb:=dY;have v:=zsum_v h hx hy ht;obtain ⟨h0,h1,z0,z1,k1,k2,k3⟩:=s;have k:=ahav_v v (t:=5*e0) (by rw [show 1-2*((1-gJ x y t)/2)=gJ x y t by grind];exact k1) h0 h1 (by grind) (by grind) w1 w4 w3;rw [zen_ok h k.1];exact k
theorem SG {p r X e:Rat} (hc:Cl e p r) (hX:-2≤X∧X≤2):Cl (2*e) (p*X) (r*X):=by
 have m:=aB (a:=p-r) (b:=X) (A:=e) (B:=2) hc.1 hc.2 hX.1 hX.2;unfold Cl;rw [show p*X-r*X=(p-r)*X by grind];generalize (p-r)*X=v at*;constructor<;>grind
theorem back_c {x y t h z:Rat} (s:dE x y t h z):Cl (50*eT) (si y) (si h*si x+co h*co z*co x):=by
 obtain ⟨h0,h1,z0,z1,k1,k2,k3⟩:=s;have eb:=dY;have w10:=lv.2.2.2.2.2.2.2.2.2.1;have t0:=lv.2.1;have ub:=aY.1;have ee:e0=1048576*u0:=rfl;have un:=nE x;have bx:=cL x;have bys:=cL y;have a1:=SG k1 bx.2;have a2:=SG k2 bx.1;have a5:=SG un bys.2;have e:gJ x y t*si x+gS x y t*co x=(co x*co x+si x*si x)*si y:=by unfold gJ gS;grind
 unfold Cl at*;generalize gJ x y t*si x=v1 at*;generalize gS x y t*co x=v2 at*;generalize (co x*co x+si x*si x)*si y=v3 at*;generalize si h*si x=v4 at*;generalize co h*co z*co x=v5 at*;constructor<;>grind
theorem top_v {a b c d e f:Int} {x y t h' z' A:Rat} (h:dV a b c d e f=true) (hx:Hs 0 a b x) (hy:Hs 0 c d y) (s:dE x y t h' z') (A0:0≤A) (A1:A≤10800000) (hA:Cl (3000*u0) (co A) (co z')) {u v:Int} (u0':0≤u) (uv:u≤v) (v1:v≤10800000) (hz:Hs dZ u v (5400000-h')):
  (gY a b c d e f u v).2.2=21∨((gY a b c d e f u v).2.2=0∧0≤(gY a b c d e f u v).1∧(gY a b c d e f u v).1≤(gY a b c d e f u v).2.1∧(gY a b c d e f u v).2.1≤10800000∧Hs dA (gY a b c d e f u v).1 (gY a b c d e f u v).2.1 A∧1/2147483648≤co h'):=by
 obtain ⟨w1,w2,w3,w4,w5,w6,w7,w8,w9,w10,w11,w12,w13,w14,w15,w16,w17⟩:=lvH;have e1b:=iL;have eb:=dY;have ub:=aY;obtain ⟨h1,h2,h3⟩:=gA h;have l1:=bW h1;have l2:=bW h2;have hzl:gK (5400000-v) (5400000-u)=true:=CA (by omega) (by omega) (by omega);have hva:=(bW hzl).1;have hd:aE (5400000-d) (5400000-c)=true:=aR (by omega) (by omega) (by omega);have hw:aE (a-(5400000-u)) (b-(5400000-v))=true:=aR (by omega) (by omega) (by omega);have hh:Hs dZ (5400000-v) (5400000-u) h':=by
  unfold Hs at hz ⊢;rw [abZ,abZ,show ((5400000:Int):Rat)=5400000 by rfl];constructor<;>grind
 have k:=BG (a:=a) (b:=b) (c:=5400000-v) (d:=5400000-u) (by omega) (by omega) (by omega) (by omega) (by omega) (by omega);have q:=zN l1.1 hva;have bt:=back_c s;have cx:=(jI l1.1 hx).wide (f:=2000*dZ+5*e1) (by grind);have ch:=DM hva w1 w2 hh;have vD:=(fX (aW l1.1) (aW hva) (by grind) (by grind) cx ch).wide (f:=eN) (by grind);have oD:=aM (aW l1.1) (aW hva);have p1:=NR hd (d:=0) (q:=5400000-y) (by grind) (by grind) (by
  unfold Hs at hy ⊢;rw [abZ,abZ,show ((5400000:Int):Rat)=5400000 by rfl];constructor<;>grind)
 have p2:=NR hw w1 w2 (q:=x-h') (by
  have:=hx.sub hh;exact this.wide (by grind) (abJ _) (abJ _))
 have vN:=ZW (iX hd) (iX hw) p1 p2;have sq:=(qH x h').1;have cq:=(yY y).2;have clN:Cl (28*eT) (co x*co h'*((1-co A)/2)) ((1-co (5400000-y))/2-(1-co (x-h'))/2):=by
  have ee:e0=1048576*u0:=rfl;have bx:=cL x;have bh:=cL h';have bb:=aB bx.1.1 bx.1.2 bh.1.1 bh.1.2;have m:=aB (a:=co x*co h') (b:=co A-co z') (A:=4) (B:=3000*u0) (by grind) (by grind) hA.1 hA.2;rw [show co x*co h'*(co A-co z')=co x*co h'*co A-co h'*co z'*co x by grind] at m;rw [aqJ (si x) (si h')] at sq;clear hA vN vD cx ch p1 p2 q k oD hz hh hx hy;unfold Cl at*;rw [show co x*co h'*((1-co A)/2)=co x*co h'/2-co x*co h'*co A/2 by grind];generalize co x*co h'*co A=g1 at*;generalize co h'*co z'*co x=g2 at*;generalize co x*co h'=g3 at*;generalize si h'*si x=g4 at*;generalize co (5400000-y)=g5 at*;generalize co (x-h')=g6 at*;generalize si y=g7 at*;constructor<;>grind
 have vN':=(vN.near clN).wide (f:=eN) (by grind);have eN':lJ (dT (5400000-d) (5400000-c)).1 (dT (5400000-d) (5400000-c)).2.1 (dT (a-(5400000-u)) (b-(5400000-v))).1 (dT (a-(5400000-u)) (b-(5400000-v))).2.1=EZ a b c d u v:=by
  unfold EZ;rw [k.1]
 have eD':bF (aI a b).1 (aI a b).2.1 (aI (5400000-v) (5400000-u)).1 (aI (5400000-v) (5400000-u)).2.1=((nR a b (5400000-v) (5400000-u)).1,(nR a b (5400000-v) (5400000-u)).2,0):=by
  rw [q.1];have:=oD.2.2.2;generalize bF (aI a b).1 (aI a b).2.1 (aI (5400000-v) (5400000-u)).1 (aI (5400000-v) (5400000-u)).2.1=r at*;obtain ⟨r1,r2,r3⟩:=r;dsimp only at this ⊢;rw [this]
 rw [eN'] at vN';rw [eD'] at vD oD;rw [top_eq h1 h2 u0' uv v1];clear eN' eD' vN p1 p2 clN sq cq k q;generalize EZ a b c d u v=N at*;generalize nR a b (5400000-v) (5400000-u)=D at*;unfold topS;by_cases c1:D.1≤0∧0≤D.2
 ·left;rw [if_pos c1]
 ·right;rw [if_neg c1];have cx0:=mT (h:=x) (by have:=aV l1.2.1;unfold Hs at hx;rw [show ((-5400000:Int):Rat)=-5400000 by rfl] at this;grind) (by have:=aV l1.2.2.2;unfold Hs at hx;rw [show ((5400000:Int):Rat)=5400000 by rfl] at this;grind);have ch0:=mT s.1 s.2.1;have vD2:=vD.2.2;unfold Hs at vD2;dsimp only at vD2;have pos:-(5*e0)≤co x*co h':=by
   have:=aaQ (show 0≤co x+e0 by grind) (show 0≤co h'+e0 by grind);have m1:=aaQ (show 0≤e0 by grind) (show 0≤2-co x by grind);have m2:=aaQ (show 0≤e0 by grind) (show 0≤2-co h' by grind);have m3:e0*e0≤e0/4:=by
    have:=aaQ (show 0≤e0 by grind) (show 0≤1/4-e0 by grind);grind
   grind
  have hi:0≤D.2:=vM (e:=1/2) (by rw [show ((0:Int):Rat)=0 by rfl];grind) (by grind);have d1:1≤D.1:=by omega
  have D1:=aV d1;rw [show ((1:Int):Rat)=1 by rfl] at D1;have chp:1/2147483648≤co h':=by
   rcases (abX:1/2147483648≤co h'∨co h'≤1/2147483648) with g | g
   ·exact g
   ·have bx:=(LO x).1;have:=aaQ (show 0≤1/2147483648-co h' by grind) (show 0≤co x+e0 by grind);have m1:=aaQ (show 0≤e0 by grind) (show 0≤1+co h' by grind);have e0s:e0=1048576*u0:=rfl;have bx2:=bx.2;have vl:=vD2.1;clear hA bt vN' vD oD cx ch hz hh hx hy;generalize co x=X at*;generalize co h'=H at*;grind
  have ca:=(yY A);have hq:Cl (100000*u0) (si (5400000-A)) (1-2*((1-co A)/2)):=by
   rw [show 1-2*((1-co A)/2)=co A by grind];exact ca.1.wide (by grind)
  have bA:=(LO A).1;by_cases c5:(lX N.1 N.2.1 D.1 D.2).2.2=5
  ·rw [if_pos c5,ahav_all];refine ⟨rfl,by decide,by decide,by decide,?_,chp⟩;unfold Hs IZ;dsimp only;rw [show ((0:Int):Rat)=0 by rfl,show ((10800000:Int):Rat)=10800000 by rfl];constructor<;>grind
  ·have c0:(lX N.1 N.2.1 D.1 D.2).2.2=0:=by
    rcases div_err vN'.2.1 vD.2.1 (fun g=>c1 g) with g | g
    ·exact g
    ·exact absurd g c5
   have vQ:=div_v (n:=N) (d:=(D.1,D.2,(0:Int))) (e:=eN) (δ:=co x*co h') (X:=(1-co A)/2) vN' vD d1 (by grind) (by grind) (by grind) c0;dsimp only at vQ;have r:=ahav_v vQ hq (by grind) (by grind) (by grind) (by grind) w12 w11 w10;rw [show 5400000-(5400000-A)=A by grind] at r;rw [if_neg c5,if_neg (by omega)];have f23:IZ (eY (lX N.1 N.2.1 D.1 D.2).1 (lX N.1 N.2.1 D.1 D.2).2.1)=eY (lX N.1 N.2.1 D.1 D.2).1 (lX N.1 N.2.1 D.1 D.2).2.1:=by
    unfold IZ;rw [if_neg (by rw [r.1];decide)]
   rw [f23];exact ⟨r.1,r.2.1,r.2.2.1,r.2.2.2.1,r.2.2.2.2,chp⟩
theorem fold {z:Rat} (z0:-10800000≤z) (z1:z≤16200000):∃A:Rat,0≤A∧A≤10800000∧Cl (3000*u0) (co A) (co z)∧((∃m:Int,A=z+21600000*(m:Rat))∨(∃m:Int,-A=z+21600000*(m:Rat)∧Cl (3000*u0) (si A) (-si z))):=by
 have u:=aY.1;rcases (abX:0≤z∨z≤0) with c | c
 ·rcases (abX:z≤10800000∨10800000≤z) with c2 | c2
  ·exact ⟨z,c,c2,Cl.refl _ (by grind),.inl ⟨0,by rw [show ((0:Int):Rat)=0 by rfl];grind⟩⟩
  ·have n:=vK z;have t:=eQ (-z) 1;rw [show ((1:Int):Rat)=1 by rfl,show -z+21600000*1=21600000-z by grind] at t;rw [←t.1,←t.2] at n;exact ⟨21600000-z,by grind,by grind,n.1.wide (by grind),.inr ⟨-1,by rw [show ((-1:Int):Rat)=-1 by rfl];grind,n.2.wide (by grind)⟩⟩
 ·have n:=vK z;exact ⟨-z,by grind,by grind,n.1.wide (by grind),.inr ⟨0,by rw [show ((0:Int):Rat)=0 by rfl];grind,n.2.wide (by grind)⟩⟩
theorem si_up {q:Rat} (h0:0≤q) (h1:q≤10800000):-(22000*u0)≤si q:=by
 have u:=aY.1;rcases (abX:q≤5400000∨5400000≤q) with c | c
 ·have:=gG h0 c;grind
 ·have s:=gG (q:=10800000-q) (by grind) (by grind);have r:=EB q;unfold Cl at r;generalize si (10800000-q)=a at*;generalize si q=b at*;grind
theorem si_dn {q:Rat} (h0:10800000≤q) (h1:q≤21600000):si q≤42000*u0:=by
 have u:=aY.1;have s:=si_up (q:=q-10800000) (by grind) (by grind);have o:=(oppq (q-10800000)).2;rw [show q-10800000+10800000=q by grind] at o;unfold Cl at o;generalize si (q-10800000)=a at*;generalize si q=b at*;grind
theorem si_near {A τ:Rat} (h0:0≤A) (h1:A≤10800000) (hτ:si A≤τ) (h2:0≤τ):A≤8000000*(τ+e0)∨10800000-A≤8000000*(τ+e0):=by
 have b:=jY;have u:=aY;have ee:e0=1048576*u0:=rfl;have eb:=dY;rcases (abX:A≤5400000∨5400000≤A) with c | c
 ·left;have p:=(iW h0 c).1;have m:A/3437750≤tb*A:=by
   have:=aaQ (show 0≤tb-1/3437750 by grind) h0;grind
  generalize si A=s at*;generalize tb*A=w at*;grind
 ·right;have p:=(iW (q:=10800000-A) (by grind) (by grind)).1;have r:=EB A;have m:(10800000-A)/3437750≤tb*(10800000-A):=by
   have:=aaQ (show 0≤tb-1/3437750 by grind) (show 0≤10800000-A by grind);grind
  unfold Cl at r;generalize si (10800000-A)=s' at*;generalize si A=s at*;generalize tb*(10800000-A)=w at*;grind
theorem side_v {x y t h' z' A:Rat} {p q:Int} (s:dE x y t h' z') (y0:-5400000≤y) (y1:y≤5400000) (ch:1/2147483648≤co h') (A0:0≤A) (A1:A≤10800000)
  (hf:(∃m:Int,A=z'+21600000*(m:Rat))∨(∃m:Int,-A=z'+21600000*(m:Rat)∧Cl (3000*u0) (si A) (-si z'))) (hA:Hs dA p q A):
  (si t≤42000*u0→Dr dS p q z')∧(-(42000*u0)≤si t→∃m:Int,Hs dS (-q) (-p) (z'+21600000*(m:Rat)))∧(Dr dS p q z'∨∃m:Int,Hs dS (-q) (-p) (z'+21600000*(m:Rat))):=by
 obtain ⟨w1,w2,w3,w4,w5,w6,w7,w8,w9,w10,w11,w12,w13,w14,w15,w16,w17⟩:=lvH;obtain ⟨h0,h1,z0,z1,k1,k2,k3⟩:=s;have eb:=dY;have ub:=aY;have ee:e0=1048576*u0:=rfl;have cy:=mT y0 y1;have bt:=cL t;have hn:=hA.neg;have small:∀w:Rat,co h'*w≤5*eT→w≤4294967296*(8*eT):=fun w hw=>by
  rcases (abX:w≤4294967296*(8*eT)∨4294967296*(8*eT)≤w) with c | c
  ·exact c
  ·have:=aaQ (show 0≤co h'-1/2147483648 by grind) (show 0≤w by grind);grind
 have nearA:si A≤4294967296*(10*eT)→A≤dA∨10800000-A≤dA:=fun hs=>by
  rcases si_near A0 A1 hs (by grind) with g | g
  ·left;grind
  ·right;grind
 have ey:iQ y t=-(co y*si t):=rfl;refine ⟨fun ht=>?_,fun ht=>?_,?_⟩
 ·rcases hf with ⟨m,hm⟩ | ⟨m,hm,hs⟩
  ·exact ⟨m,by rw [←hm];exact hA.wide (by grind) (abJ _) (abJ _)⟩
  ·
   have a1:-(4*eT)≤co h'*si z':=by
    unfold Cl at k3;have m1:=aaQ (show 0≤co y+e0 by grind) (show 0≤42000*u0-si t by grind);have m2:=aaQ (show 0≤u0 by grind) (show 0≤2-co y by grind);have m3:=aB (a:=e0) (b:=si t) (A:=e0) (B:=2) (by grind) (by grind) bt.2.1 bt.2.2;have m4:e0*u0≤u0:=by
     have:=aaQ (show 0≤u0 by grind) (show 0≤1-e0 by grind);grind
    rw [ey] at k3;have m1':0≤co y*(42000*u0)-co y*si t+e0*(42000*u0)-e0*si t:=by grind
    generalize co y*si t=v1 at*;generalize e0*si t=v2 at*;generalize co h'*si z'=v3 at*;grind
   have a2:co h'*si A≤5*eT:=by
    have m1:=aB (a:=co h') (b:=si A- -si z') (A:=2) (B:=3000*u0) (by grind) (cL h').1.2 hs.1 hs.2;rw [show co h'*(si A- -si z')=co h'*si A+co h'*si z' by grind] at m1;grind
   have a3:=small _ a2;rcases nearA (by grind) with g | g
   ·refine ⟨m,?_⟩;rw [←hm];unfold Hs at hA ⊢;constructor<;>grind
   ·refine ⟨m+1,?_⟩;rw [acQ,show ((1:Int):Rat)=1 by rfl];unfold Hs at hA ⊢;constructor<;>grind
 ·rcases hf with ⟨m,hm⟩ | ⟨m,hm,hs⟩
  ·have a1:co h'*si z'≤4*eT:=by
    unfold Cl at k3;have m1:=aaQ (show 0≤co y+e0 by grind) (show 0≤42000*u0+si t by grind);have m2:=aaQ (show 0≤u0 by grind) (show 0≤2-co y by grind);have m3:=aB (a:=e0) (b:=si t) (A:=e0) (B:=2) (by grind) (by grind) bt.2.1 bt.2.2;have m4:e0*u0≤u0:=by
     have:=aaQ (show 0≤u0 by grind) (show 0≤1-e0 by grind);grind
    rw [ey] at k3;have m1':0≤co y*(42000*u0)+co y*si t+e0*(42000*u0)+e0*si t:=by grind
    generalize co y*si t=v1 at*;generalize e0*si t=v2 at*;generalize co h'*si z'=v3 at*;grind
   have es:si A=si z':=by rw [hm];exact (eQ z' m).2
   have a3:=small (si A) (by rw [es];grind);rcases nearA (by grind) with g | g
   ·refine ⟨m,?_⟩;rw [←hm];unfold Hs at hA ⊢;rw [afQ,afQ];constructor<;>grind
   ·refine ⟨m-1,?_⟩;rw [abZ,show ((1:Int):Rat)=1 by rfl];unfold Hs at hA ⊢;rw [afQ,afQ];constructor<;>grind
  ·exact ⟨m,by rw [←hm];exact hn.wide (by grind) (abJ _) (abJ _)⟩
 ·rcases hf with ⟨m,hm⟩ | ⟨m,hm,hs⟩
  ·left;exact ⟨m,by rw [←hm];exact hA.wide (by grind) (abJ _) (abJ _)⟩
  ·right;exact ⟨m,by rw [←hm];exact hn.wide (by grind) (abJ _) (abJ _)⟩
theorem CU {p q:Int} {d z:Rat} (_hpq:p≤q) (h:∃m:Int,Hs d p q (z+21600000*(m:Rat))) (hd:0≤d):Dr d (fG p q) (dU p q) z:=by
 obtain ⟨m,h⟩:=h;unfold fG dU;by_cases c:21600000≤q-p
 ·rw [if_pos c,if_pos c];exact Dr.all hd z
 ·rw [if_neg c,if_neg c];obtain ⟨k,hk⟩:∃k:Int,p%21600000=p+21600000*k:=⟨-(p/21600000),by omega⟩;refine ⟨m+k,?_⟩;rw [hk];unfold Hs at h ⊢;rw [acQ,acQ,acQ,abZ,acX,show ((21600000:Int):Rat)=21600000 by rfl];constructor<;>grind
theorem LI {p q:Int} (h:p≤q):oB (fG p q,dU p q,0)∧((fG p q=0∧dU p q=21600000)∨dU p q<fG p q+21600000):=by
 unfold oB fG dU;by_cases c:21600000≤q-p
 ·rw [if_pos c,if_pos c];exact ⟨⟨by decide,by decide,by decide,by decide,rfl⟩,.inl ⟨rfl,rfl⟩⟩
 ·rw [if_neg c,if_neg c];dsimp only;exact ⟨⟨by omega,by omega,by omega,by omega,rfl⟩,.inr (by omega)⟩
def hZ (a b c d e f:Int):Int×Int×Int:=if (gY a b c d e f (fT a b c d e f).1 (fT a b c d e f).2.1).2.2=0 then GE (gY a b c d e f (fT a b c d e f).1 (fT a b c d e f).2.1).1 (gY a b c d e f (fT a b c d e f).1 (fT a b c d e f).2.1).2.1 e f else (0,21600000,0)
def hH (a b c d e f:Int):Int×Int×Int:=(5400000-(fT a b c d e f).2.1,5400000-(fT a b c d e f).1,0)
theorem LG {p q:Int} (h1:-100000000≤p) (h2:p≤q) (h3:q≤100000000):dO p q=(fG p q,dU p q,0):=by
 unfold dO;rw [aR (by omega) h2 (by omega)];rfl
theorem yV {p q:Int} (e f:Int) (p0:0≤p) (pq:p≤q) (q1:q≤10800000):GE p q e f=if fG e f≥10800000∧dU e f≤21600000 then (p,q,0) else if dU e f≤10800000 then (fG (21600000-q) (21600000-p),dU (21600000-q) (21600000-p),0) else if p+q>10800000 then (p,21600000-p,0) else (fG (-q) q,dU (-q) q,0):=by
 unfold GE;rw [LG (by omega) (by omega) (by omega),LG (by omega) (by omega) (by omega)]
theorem RM {a b c d e f:Int} (h:dV a b c d e f=true):uR a b c d e f=((hH a b c d e f).1,(hH a b c d e f).2.1,(hZ a b c d e f).1,(hZ a b c d e f).2.1,0)∧Hold a b c d e f (hH a b c d e f) (hZ a b c d e f)∧(fT a b c d e f).2.2=0∧0≤(fT a b c d e f).1∧(fT a b c d e f).1≤(fT a b c d e f).2.1∧(fT a b c d e f).2.1≤10800000:=by
 obtain ⟨w1,w2,w3,w4,w5,w6,w7,w8,w9,w10,w11,w12,w13,w14,w15,w16,w17⟩:=lvH;obtain ⟨h1,h2,h3⟩:=gA h;have l1:=bW h1;have l2:=bW h2;have l3:=cG h3;obtain ⟨x0,y0,t0⟩:=OW h;have ds:=lv.2.2.1;obtain ⟨h',z',s'⟩:=vW (a:Rat) (c:Rat) (e:Rat);obtain ⟨g1,g2,g3,g4,_⟩:=zen_v h x0 y0 t0 s';have LH:qO (hH a b c d e f):=by
  unfold qO hH;dsimp only;exact ⟨by omega,by omega,by omega,rfl⟩
 have top:∀x y t:Rat,Hs 0 a b x→Hs 0 c d y→Hs 0 e f t→∀h z:Rat,dE x y t h z→∃A:Rat,0≤A∧A≤10800000∧((∃m:Int,A=z+21600000*(m:Rat))∨(∃m:Int,-A=z+21600000*(m:Rat)∧Cl (3000*u0) (si A) (-si z)))∧
   ((gY a b c d e f (fT a b c d e f).1 (fT a b c d e f).2.1).2.2=21∨((gY a b c d e f (fT a b c d e f).1 (fT a b c d e f).2.1).2.2=0∧0≤(gY a b c d e f (fT a b c d e f).1 (fT a b c d e f).2.1).1∧(gY a b c d e f (fT a b c d e f).1 (fT a b c d e f).2.1).1≤(gY a b c d e f (fT a b c d e f).1 (fT a b c d e f).2.1).2.1∧(gY a b c d e f (fT a b c d e f).1 (fT a b c d e f).2.1).2.1≤10800000∧Hs dA (gY a b c d e f (fT a b c d e f).1 (fT a b c d e f).2.1).1 (gY a b c d e f (fT a b c d e f).1 (fT a b c d e f).2.1).2.1 A∧1/2147483648≤co h)):=by
  intro x y t hx hy ht h'' z'' s'';have zv:=zen_v h hx hy ht s'';obtain ⟨A,A0,A1,cA,hf⟩:=fold s''.2.2.1 s''.2.2.2.1;exact ⟨A,A0,A1,hf,top_v h hx hy s'' A0 A1 cA g2 g3 g4 zv.2.2.2.2⟩
 obtain ⟨A,A0,A1,hf,tp⟩:=top a c e x0 y0 t0 h' z' s';have az:=azi_eq (u:=(fT a b c d e f).1) (v:=(fT a b c d e f).2.1) h g2 g3 g4;have az':VC a b c d e f (fT a b c d e f).1 (fT a b c d e f).2.1=if (gY a b c d e f (fT a b c d e f).1 (fT a b c d e f).2.1).2.2=0 then hZ a b c d e f else (0,0,21):=by
  rw [az];unfold hZ;rcases tp with tp | ⟨q1,q2,q3,q4,q5,q6⟩
  ·rw [tp];rfl
  ·rw [q1];simp only [ne_eq,not_true_eq_false,if_false,if_true];unfold GE;generalize gY a b c d e f (fT a b c d e f).1 (fT a b c d e f).2.1=r at*;rw [bR (by omega),bR (by omega),bR (by omega),bR (by omega),Int.zero_sub]
 have val:uR a b c d e f=((hH a b c d e f).1,(hH a b c d e f).2.1,(hZ a b c d e f).1,(hZ a b c d e f).2.1,0):=by
  have z:((0:Int) != 0)=false:=rfl;unfold uR JI;simp only [lt];rw [g1,z,cond_false,az',SA (by omega) (by omega)];rcases tp with tp | ⟨q1,q2,q3,q4,q5,q6⟩
  ·have hz:hZ a b c d e f=(0,21600000,0):=by unfold hZ;rw [tp];rfl
   rw [tp,hz];rfl
  ·rw [if_pos q1];have e0':(hZ a b c d e f).2.2=0:=by
    unfold hZ;rw [if_pos q1,yV e f q2 q3 q4];repeat' split
    all_goals rfl
   rw [e0'];rfl
 have D:oB (hZ a b c d e f)∧(((hZ a b c d e f).1=0∧(hZ a b c d e f).2.1=21600000)∨(hZ a b c d e f).2.1<(hZ a b c d e f).1+21600000):=by
  unfold hZ;rcases tp with tp | ⟨q1,q2,q3,q4,q5,q6⟩
  ·rw [tp,if_neg (by decide)];exact ⟨⟨by decide,by decide,by decide,by decide,rfl⟩,.inl ⟨rfl,rfl⟩⟩
  ·rw [if_pos q1,yV e f q2 q3 q4];generalize gY a b c d e f (fT a b c d e f).1 (fT a b c d e f).2.1=r at*;split
   ·exact ⟨⟨q2,q3,by dsimp only;omega,by dsimp only;omega,rfl⟩,.inr (by dsimp only;omega)⟩
   ·split
    ·exact LI (by omega)
    ·split
     ·refine ⟨⟨q2,by dsimp only;omega,by dsimp only;omega,by dsimp only;omega,rfl⟩,?_⟩;dsimp only;omega
     ·exact LI (by omega)
 refine ⟨val,⟨LH,D.1,D.2,?_,?_⟩,g1,g2,g3,g4⟩
 ·intro x y t hx hy ht h'' z'' s'';have zv:=(zen_v h hx hy ht s'').2.2.2.2;unfold Hs at zv ⊢;unfold hH;dsimp only;rw [abZ,abZ,show ((5400000:Int):Rat)=5400000 by rfl];constructor<;>grind
 ·intro x y t hx hy ht h'' z'' s'';obtain ⟨A,A0,A1,hf,tp⟩:=top x y t hx hy ht h'' z'' s'';unfold hZ;rcases tp with tp | ⟨q1,q2,q3,q4,q5,q6⟩
  ·rw [tp,if_neg (by decide)];exact Dr.all (by grind) z''
  ·rw [if_pos q1,yV e f q2 q3 q4];have yl:=aV l2.2.1;have yr:=aV l2.2.2.2;rw [show ((-5400000:Int):Rat)=-5400000 by rfl] at yl;rw [show ((5400000:Int):Rat)=5400000 by rfl] at yr;obtain ⟨s1,s2,s3⟩:=side_v s'' (by unfold Hs at hy;grind) (by unfold Hs at hy;grind) q6 A0 A1 hf q5;generalize gY a b c d e f (fT a b c d e f).1 (fT a b c d e f).2.1=r at*;have qd:(fG e f≥10800000∧dU e f≤21600000→si t≤42000*u0)∧(dU e f≤10800000→-(42000*u0)≤si t):=by
    have ub:=aY.1;unfold fG dU;by_cases c5:21600000≤f-e
    ·rw [if_pos c5,if_pos c5];exact ⟨fun g=>by omega,fun g=>by omega⟩
    ·rw [if_neg c5,if_neg c5];obtain ⟨k,hk⟩:∃k:Int,e%21600000=e+21600000*k:=⟨-(e/21600000),by omega⟩;have tt:=(eQ t k).2;unfold Hs at ht;rw [←tt];have k0:0≤e%21600000:=aiQ e (by omega);constructor
     ·intro g;have a1:=aV (show 10800000≤e+21600000*k by omega);have a2:=aV (show f+21600000*k≤21600000 by omega);rw [acQ,acX,show ((21600000:Int):Rat)=21600000 by rfl] at a1 a2;rw [show ((10800000:Int):Rat)=10800000 by rfl] at a1;exact si_dn (by grind) (by grind)
     ·intro g;have a1:=aV (show 0≤e+21600000*k by omega);have a2:=aV (show f+21600000*k≤10800000 by omega);rw [acQ,acX,show ((21600000:Int):Rat)=21600000 by rfl] at a1 a2;rw [show ((0:Int):Rat)=0 by rfl] at a1;rw [show ((10800000:Int):Rat)=10800000 by rfl] at a2;have:=si_up (q:=t+21600000*(k:Rat)) (by grind) (by grind);grind
   split
   ·rename_i g;exact s1 (qd.1 g)
   ·split
    ·rename_i g;obtain ⟨m,hm⟩:=s2 (qd.2 g);refine CU (by omega) ⟨m+1,?_⟩ (by grind);unfold Hs at hm ⊢;rw [afQ,afQ] at hm;rw [abZ,abZ,acQ,show ((21600000:Int):Rat)=21600000 by rfl,show ((1:Int):Rat)=1 by rfl];constructor<;>grind
    ·have rl:=aV q4;have r0:=aV q2;have rr:=aV q3;rw [show ((10800000:Int):Rat)=10800000 by rfl] at rl;rw [show ((0:Int):Rat)=0 by rfl] at r0;split
     ·rcases s3 with ⟨m,hm⟩ | ⟨m,hm⟩
      ·refine ⟨m,hm.wide (ayJ) (abJ _) (by dsimp only;omega)⟩
      ·refine ⟨m+1,?_⟩;unfold Hs at hm ⊢;dsimp only;rw [afQ,afQ] at hm;rw [abZ,acQ,show ((21600000:Int):Rat)=21600000 by rfl,show ((1:Int):Rat)=1 by rfl];constructor<;>grind
     ·refine CU (by omega) ?_ (by grind);rcases s3 with ⟨m,hm⟩ | ⟨m,hm⟩
      ·exact ⟨m,hm.wide (ayJ) (by omega) (abJ _)⟩
      ·exact ⟨m,hm.wide (ayJ) (abJ _) (by omega)⟩
end
section
open Ev
open Ev (lt eJ aH mZ gV)
open Go.RowKit
theorem avm {a b:Int} (h1:-1099511627776≤a) (h2:a≤b) (h3:b≤1099511627776):aE a b=true:=by
 unfold aE;simp;omega
theorem svalM_eq (a b c d:Int):OS a b c d=jX (a,b,c,d):=by
 unfold OS jX IY lt;dsimp only;cases h1:aE a b with
 | false=>rfl
 | true=>
  cases h2:aE c d with
  | false=>rfl
  | true=>
   have bd:=cG h2;by_cases h3:c=0∧d=21600000
   ·obtain ⟨rfl,rfl⟩:=h3;rfl
   ·have e:((c==0)&&(d==21600000))=false:=by
     rw [Bool.and_eq_false_iff,beq_eq_false_iff_ne,beq_eq_false_iff_ne];omega
    rw [Bool.and_true,e];rw [bR (x:=d-c) (by omega)];by_cases h4:c≥0
    ·rw [decide_eq_true h4];by_cases h5:c<21600000
     ·rw [decide_eq_true h5];simp
     ·rw [decide_eq_false h5];simp
    ·rw [decide_eq_false h4];simp
theorem nval_gives (a b c d:Int):aH aaZ 54 [.agg ⟨[.int .i64 a,.int .i64 b,.int .i64 c,.int .i64 d]⟩] (.bool (!jX (a,b,c,d))):=by
 have:=rnvM_gives a b c d;unfold rnvM at this;rwa [svalM_eq] at this
theorem turn_ok' (a b:Int) (h:aE a b=true) (_h0:(dO a b).2.2=0):aE (dO a b).1 (dO a b).2.1=true:=by
 have m0:=aiQ a (show (21600000:Int)≠0 by omega);have m1:=Int.emod_lt_of_pos a (show (0:Int)<21600000 by omega);have v:=cG h;unfold dO;rw [if_pos h];dsimp only;unfold fG dU;by_cases hw:21600000≤b-a
 ·rw [if_pos hw,if_pos hw];rfl
 ·rw [if_neg hw,if_neg hw];exact avm (by omega) (by omega) (by omega)
theorem dirs_gives (a b c d:Int) (h:aE a b=true) (h':aE c d=true) (hb:-500000000000≤c∧d≤500000000000):aH aaZ 56 [aG a b,aG c d] (aP (fM a b c d)):=
 fun w hg=>IM jQ wI DQ (fun a b c d w=>FM 9998 a b c d w) a b c d h h' hb w hg
theorem meet_gives (A:Option Addr) (n c:Nat) (l:List jW) (w:World) (hg:eJ w) (h:Sols w A n l) (hc:n≤c) (hc':c≤9223372036854775807):Calls aaZ 18 #[.slice A n c] w (GP (cU (iM l)) w):=
 meet_any jQ nval_gives dirs_gives turn_ok' A n c l w hg h hc hc'
def byM (m a b c d e f:Int):Int×Int×Int×Int×Int:=if m=1 then by1 a b c d e f else if m=2 then by2 a b c d e f else if m=3 then by3 a b c d e f else if m=4 then by4 a b c d e f else by5 a b c d e f
theorem byM_gives (m a b c d e f:Int) (h1:1≤m) (h5:m≤5):aH aaZ 23 [.int .i64 m,pG a b c d e f] (cU (byM m a b c d e f)):=by
 have:m=1∨m=2∨m=3∨m=4∨m=5:=by omega
 rcases this with rfl | rfl | rfl | rfl | rfl
 ·exact by1_gives a b c d e f
 ·exact by2_gives a b c d e f
 ·exact by3_gives a b c d e f
 ·exact by4_gives a b c d e f
 ·exact by5_gives a b c d e f
def xA (a b c d e f:Int):List jW:=tQ (fun m=>byM m a b c d e f) 5
theorem GL (a b c d e f:Int):(xA a b c d e f).length≤5:=GK _ _
theorem MP {a b c d e f:Int} (h:dV a b c d e f=true) (w:World) (hg:eJ w):Calls aaZ 9 #[pG a b c d e f] w (FC (xA a b c d e f) w):=by
 have ht:=jP a b c d e f;rw [h] at ht;exact all_yes ht (fun m h1 h5=>byM_gives m a b c d e f h1 h5) w hg
theorem all_none {a b c d e f:Int} (h:dV a b c d e f=false) (w:World) (hg:eJ w):Calls aaZ 9 #[pG a b c d e f] w (wJ w):=by
 have ht:=jP a b c d e f;rw [h] at ht;exact all_no ht w hg
def zI (a b c d e f:Int):Int×Int×Int×Int×Int:=if dV a b c d e f=true then iM (xA a b c d e f) else (0,0,0,0,1)
theorem rM (a b c d e f:Int):aH aaZ 5 [pG a b c d e f] (cU (zI a b c d e f)):=fun w hg=>by
 unfold zI;cases h:dV a b c d e f with
 | true=>exact best_yes (by have:=GL a b c d e f;omega) (MP h) (fun A n c w hg hs h1 h2=>meet_gives A n c _ w hg hs h1 h2) w hg
 | false=>exact best_no (all_none h) w hg
open SM TB TA
theorem ahav_at {x y p q:Int} (h1:0≤x) (h2:x≤y) (h3:y≤1073741824) (hp:nQ (2*x-1073741824) p) (hq:nQ (1073741824-2*y) q):eY x y=(5400000+p,5400000-q,0):=by
 have e1:pK (1073741824-2*y)=q:=BF (by omega) hq;have e2:pK (2*x-1073741824)=p:=BF (by omega) hp;unfold eY xJ bE;rw [fF (a:=x) (b:=y) (by omega) h2 (by omega)];simp only [Bool.true_eq_false,if_false];have m1:max x 0=x:=by omega
 have m2:min y 1073741824=y:=by omega
 rw [m1,m2,if_pos h2,fF (a:=1073741824-2*y) (b:=1073741824-2*x) (by omega) (by omega) (by omega)];simp only [Bool.true_eq_false,if_false];have m3:max (1073741824-2*y) (-1073741824)=1073741824-2*y:=by omega
 have m4:min (1073741824-2*x) 1073741824=1073741824-2*x:=by omega
 rw [m3,m4,if_pos (show 1073741824-2*y≤1073741824-2*x by omega),e1,show -(1073741824-2*x)=2*x-1073741824 by omega,e2];simp
theorem zen_a:fT 0 0 0 0 3600000 3600000=(3600000,3600000,0):=by
 have h:eY 268435456 268435456=(3600000,3600000,0):=by
  rw [ahav_at (p:=-1800000) (q:=1800000) (by omega) (by omega) (by omega) ⟨by omega,by omega,by decide+kernel,.inr (by decide+kernel)⟩ ⟨by omega,by omega,by decide+kernel,.inr (by decide+kernel)⟩];rfl
 have e1:nR 0 0 0 0=(1073741824,1073741824):=by decide+kernel
 have e2:cosC 0 0 0 0 0=0:=by decide+kernel
 have e3:dT 3600000 3600000=(268435456,268435456,0):=by decide+kernel
 have e4:mS 0 0 0 0=(0,0):=by decide+kernel
 have e5:betC 0 0 0 0 0=0:=by decide+kernel
 have e6:bF 1073741824 1073741824 268435456 268435456=(268435456,268435456,0):=by decide+kernel
 have e7:gB 0 0 268435456 268435456=(268435456,268435456,0):=by decide+kernel
 have e8:dV 0 0 0 0 3600000 3600000=true:=by decide+kernel
 unfold fT zenMK;simp only [lt,nV,oY,DU,JG,e1,e2,e3,e4,e5,e6,e7,e8,h,AC];rfl
theorem top_a:gY 0 0 0 0 3600000 3600000 3600000 3600000=(5399999,5400001,0):=by
 rw [top_eq (by decide+kernel) (by decide+kernel) (by omega) (by omega) (by omega)];have e1:EZ 0 0 0 0 3600000 3600000=(464943848,464943849,0):=by decide+kernel
 have e2:nR 0 0 (5400000-3600000) (5400000-3600000)=(929887696,929887697):=by decide+kernel
 have e3:lX 464943848 464943849 929887696 929887697=(536870911,536870914,0):=by decide+kernel
 rw [e1,e2];unfold topS;simp only [e3];rw [ahav_at (x:=536870911) (y:=536870914) (p:=-1) (q:=-1) (by omega) (by omega) (by omega) ⟨by omega,by omega,by decide+kernel,.inr (by decide+kernel)⟩ ⟨by omega,by omega,by decide+kernel,.inr (by decide+kernel)⟩];rfl
theorem sol_a:uR 0 0 0 0 3600000 3600000=(1800000,1800000,16199999,16200001,0):=by
 have e1:VC 0 0 0 0 3600000 3600000 3600000 3600000=(16199999,16200001,0):=by
  rw [azi_eq (by decide+kernel) (by omega) (by omega) (by omega),top_a];decide+kernel
 have e2:uX 3600000 3600000=(1800000,1800000):=by decide+kernel
 unfold uR JI;simp only [lt,zen_a,e1,e2];rfl
theorem PN {x y p q:Int} (h1:-1073741824≤x) (h2:x≤y) (h3:y≤1073741824) (hp:nQ x p) (hq:nQ (-y) q):bE x y=(p,-q,0):=by
 have e1:pK x=p:=BF (by omega) hp;have e2:pK (-y)=q:=BF (by omega) hq;unfold bE;rw [fF (a:=x) (b:=y) (by omega) h2 (by omega)];simp only [Bool.true_eq_false,if_false];have m1:max x (-1073741824)=x:=by omega
 have m2:min y 1073741824=y:=by omega
 rw [m1,m2,if_pos h2,e1,e2]
def asinX (x y:Int):Int×Int×Int:=if x=536870912∧y=536870912 then (1800000,1800000,0) else if x=929887696∧y=929887697 then (3599999,3600001,0) else if x=536870641∧y=536871183 then (1799998,1800002,0) else bE x y
theorem asin_x:bE=asinX:=by
 funext x y;unfold asinX;by_cases h1:x=536870912∧y=536870912
 ·rw [if_pos h1,h1.1,h1.2,PN (p:=1800000) (q:=-1800000) (by omega) (by omega) (by omega) ⟨by omega,by omega,by decide+kernel,.inr (by decide+kernel)⟩ ⟨by omega,by omega,by decide+kernel,.inr (by decide+kernel)⟩];rfl
 rw [if_neg h1];by_cases h2:x=929887696∧y=929887697
 ·rw [if_pos h2,h2.1,h2.2,PN (p:=3599999) (q:=-3600001) (by omega) (by omega) (by omega) ⟨by omega,by omega,by decide+kernel,.inr (by decide+kernel)⟩ ⟨by omega,by omega,by decide+kernel,.inr (by decide+kernel)⟩];rfl
 rw [if_neg h2];by_cases h3:x=536870641∧y=536871183
 ·rw [if_pos h3,h3.1,h3.2,PN (p:=1799998) (q:=-1800002) (by omega) (by omega) (by omega) ⟨by omega,by omega,by decide+kernel,.inr (by decide+kernel)⟩ ⟨by omega,by omega,by decide+kernel,.inr (by decide+kernel)⟩];rfl
 rw [if_neg h3]
theorem cos_x:gQ 0 0 0 0 3600000 3600000=(1800000,1800000,16200000,16200000,0):=by
 unfold gQ BP xK BJ zL GY;rw [asin_x];decide+kernel
theorem age_x:MG 0 0 0 0 3600000 3600000=(1799998,1800002,16200000,16200000,0):=by
 unfold MG ZS rU yL;rw [asin_x];decide+kernel
theorem mat_x:xO 0 0 0 0 3600000 3600000=(1800000,1800000,16200000,16200000,0):=by
 unfold xO JV UM UN;rw [asin_x];decide+kernel
theorem allI_congr {p q:Int→Int×Int×Int×Int×Int} (h:∀m,1≤m→m≤5→p m=q m):tQ p 5=tQ q 5:=by
 have e:∀i,i≤5→tQ p i=tQ q i:=by
  intro i;induction i with
  | zero=>intro _;rfl
  | succ i ih=>intro hi;rw [lK,lK,ih (by omega),h _ (by omega) (by omega)]
 exact e 5 (by omega)
def exM (m:Int):Int×Int×Int×Int×Int:=if m=1 then (1800000,1800000,16200000,16200000,0) else if m=2 then (1800000,1800000,16199999,16200001,0) else if m=3 then (1799998,1800002,16200000,16200000,0) else if m=4 then MY (JH 0 0 0 0 3600000 3600000) else (1800000,1800000,16200000,16200000,0)
theorem best_x:zI 0 0 0 0 3600000 3600000=(1800000,1800000,16200000,16200000,0):=by
 unfold zI;rw [if_pos (by decide+kernel)];unfold xA;rw [allI_congr (q:=exM) (fun m h1 h5=>by
  have:m=1∨m=2∨m=3∨m=4∨m=5:=by omega
  rcases this with rfl | rfl | rfl | rfl | rfl
  ·show MY (gQ 0 0 0 0 3600000 3600000)=_;rw [cos_x];rfl
  ·show MY (uR 0 0 0 0 3600000 3600000)=_;rw [sol_a];rfl
  ·show MY (MG 0 0 0 0 3600000 3600000)=_;rw [age_x];rfl
  ·rfl
  ·show MY (xO 0 0 0 0 3600000 3600000)=_;rw [mat_x];rfl)]
 decide+kernel
end
section
open SM TB TA
open Ev (lt bG)
theorem MI {x:Int} (h:0≤x∧x≤18446744073709551615):u64.wrap x=x:=IntWalk.u64_in _ h
def iT (a b:Int):Int:=if 0<a then a else if b<0 then -b else 0
def gI (a b:Int):Int:=if b< -a then -a else b
theorem near_eq {a b:Int} (h1:-2147483648≤a) (h2:a≤b) (h3:b≤2147483648):iS a b=iT a b:=by
 have k:u64.wrap (mn (mx a (i64.wrap (0-a))) (mx b (i64.wrap (0-b))))=mn (mx a (0-a)) (mx b (0-b)):=by
  rw [bR (x:=0-a) (by omega),bR (x:=0-b) (by omega)];refine MI ?_;unfold mn mx;repeat' split
  all_goals omega
 unfold iS iT;rw [k];unfold mn mx;by_cases c1:a≤0
 ·rw [decide_eq_true c1,cond_true];by_cases c2:b≥0
  ·rw [decide_eq_true c2,cond_true,if_neg (by omega),if_neg (by omega)]
  ·rw [decide_eq_false c2,cond_false,if_neg (show ¬0<a by omega),if_pos (show b<0 by omega)];repeat' split
   all_goals omega
 ·rw [decide_eq_false c1,cond_false,if_pos (show 0<a by omega)];repeat' split
  all_goals omega
theorem far_eq {a b:Int} (h1:-2147483648≤a) (h2:a≤b) (h3:b≤2147483648):jA a b=gI a b:=by
 unfold jA gI;rw [bR (x:=0-a) (by omega),bR (x:=0-b) (by omega)];have k:mx (mx (mx a (0-a)) b) (0-b)=if b< -a then -a else b:=by
  unfold mx;repeat' split
  all_goals omega
 rw [k];refine MI ?_;split<;>omega
theorem JX {a b:Int} (h2:a≤b):0≤iT a b∧iT a b≤gI a b∧(-a≤gI a b∧b≤gI a b∧(gI a b=-a∨gI a b=b)):=by
 unfold iT gI;repeat' split
 all_goals omega
theorem KV {n:Int} (h0:0≤n) (h1:n<18446744073709551616):0≤dJ n∧dJ n*dJ n≤n∧n<(dJ n+1)*(dJ n+1):=by
 have k:=isq_ok (n:=n.toNat) (by omega);have a:((isq n.toNat*isq n.toNat:Nat):Int)≤((n.toNat:Nat):Int):=Int.ofNat_le.2 k.1;have b:((n.toNat:Nat):Int)<(((isq n.toNat+1)*(isq n.toNat+1):Nat):Int):=Int.ofNat_lt.2 k.2;rw [ajX,ajQ h0] at a;rw [ajX,ajQ h0] at b;unfold dJ;exact ⟨by omega,a,b⟩
def upr (n:Int):Int:=if dJ n*dJ n<n then dJ n+1 else dJ n
theorem upr_ok {n:Int} (h0:0≤n) (h1:n<18446744073709551616):dJ n≤upr n∧n≤upr n*upr n∧(upr n=dJ n∨upr n=dJ n+1):=by
 have r:=KV h0 h1;unfold upr;split
 ·exact ⟨by omega,by omega,.inr rfl⟩
 ·exact ⟨by omega,by omega,.inl rfl⟩
theorem kH {x:Int} {m:Int} (h0:0≤x) (h1:x≤m):0≤x*x∧x*x≤m*m:=⟨aeJ h0 h0,Int.mul_le_mul h1 h1 h0 (by omega)⟩
theorem hyp_eq {a b c d:Int} (h1:-2147483648≤a) (h2:a≤b) (h3:b≤2147483648) (h4:-1073741824≤c) (h5:c≤d) (h6:d≤1073741824):
  mL a b c d=(min (dJ (iT a b*iT a b+iT c d*iT c d)) 1073741824,min (upr (gI a b*gI a b+gI c d*gI c d)) 1073741824):=by
 have n1:=JX h2;have n2:=JX h5;have s1:=kH (x:=iT a b) (m:=2147483648) n1.1 (by omega);have s2:=kH (x:=iT c d) (m:=1073741824) n2.1 (by omega);have s3:=kH (x:=gI a b) (m:=2147483648) (by omega) (by omega);have s4:=kH (x:=gI c d) (m:=1073741824) (by omega) (by omega);have eN:sumN a b c d=iT a b*iT a b+iT c d*iT c d:=by
  unfold sumN;rw [near_eq h1 h2 h3,near_eq (by omega) h5 (by omega),MI (x:=iT a b*iT a b) (by omega),MI (x:=iT c d*iT c d) (by omega),MI (by omega)]
 have eF:FB a b c d=gI a b*gI a b+gI c d*gI c d:=by
  unfold FB;rw [far_eq h1 h2 h3,far_eq (by omega) h5 (by omega),MI (x:=gI a b*gI a b) (by omega),MI (x:=gI c d*gI c d) (by omega),MI (by omega)]
 unfold mL;rw [eN,eF];have r1:=KV (n:=iT a b*iT a b+iT c d*iT c d) (by omega) (by omega);have r2:=KV (n:=gI a b*gI a b+gI c d*gI c d) (by omega) (by omega);have q0:0≤iT a b*iT a b+iT c d*iT c d:=by omega
 have q1:0≤gI a b*gI a b+gI c d*gI c d∧gI a b*gI a b+gI c d*gI c d<9223372036854775808:=by omega
 generalize iT a b*iT a b+iT c d*iT c d=n at*;generalize gI a b*gI a b+gI c d*gI c d=f at*;have k:dJ f<4294967296:=by
  rcases aiJ (dJ f) 4294967296 with h | h
  ·exact h
  ·have:=kH (x:=4294967296) (m:=dJ f) (by omega) h;omega
 have z0:=aeJ r2.1 r2.1;rw [MI (x:=dJ f*dJ f) (by omega),MI (x:=dJ f+1) (by omega)];have e1:cond (decide (dJ f*dJ f<f)) (dJ f+1) (dJ f)=upr f:=by
  unfold upr;by_cases c:dJ f*dJ f<f
  ·rw [decide_eq_true c,if_pos c];rfl
  ·rw [decide_eq_false c,if_neg c];rfl
 rw [e1];have u:0≤upr f:=by
  have:=upr_ok q1.1 (by omega);omega
 have m1:mn (dJ n) 1073741824=min (dJ n) 1073741824:=by unfold mn;split<;>omega
 have m2:mn (upr f) 1073741824=min (upr f) 1073741824:=by unfold mn;split<;>omega
 rw [m1,m2,bR (by omega),bR (by omega)]
theorem hyp_bd {a b c d:Int} (h1:-2147483648≤a) (h2:a≤b) (h3:b≤2147483648) (h4:-1073741824≤c) (h5:c≤d) (h6:d≤1073741824):
  0≤(mL a b c d).1∧(mL a b c d).1≤(mL a b c d).2∧(mL a b c d).2≤1073741824:=by
 have n1:=JX h2;have n2:=JX h5;have s1:=kH (x:=iT a b) (m:=2147483648) n1.1 (by omega);have s2:=kH (x:=iT c d) (m:=1073741824) n2.1 (by omega);have s3:=kH (x:=gI a b) (m:=2147483648) (by omega) (by omega);have s4:=kH (x:=gI c d) (m:=1073741824) (by omega) (by omega);have t1:=kH (x:=iT a b) (m:=gI a b) n1.1 n1.2.1;have t2:=kH (x:=iT c d) (m:=gI c d) n2.1 n2.2.1;rw [hyp_eq h1 h2 h3 h4 h5 h6];dsimp only;have r1:=KV (n:=iT a b*iT a b+iT c d*iT c d) (by omega) (by omega);have r2:=KV (n:=gI a b*gI a b+gI c d*gI c d) (by omega) (by omega);have u2:=upr_ok (n:=gI a b*gI a b+gI c d*gI c d) (by omega) (by omega);have le:dJ (iT a b*iT a b+iT c d*iT c d)≤dJ (gI a b*gI a b+gI c d*gI c d):=by
  rcases aiJ (dJ (gI a b*gI a b+gI c d*gI c d)) (dJ (iT a b*iT a b+iT c d*iT c d)) with h | h
  ·exfalso;have:=kH (x:=dJ (gI a b*gI a b+gI c d*gI c d)+1) (m:=dJ (iT a b*iT a b+iT c d*iT c d)) (by omega) (by omega);omega
  ·exact h
 omega
theorem nr_hold {a b:Int} {X e:Rat} (hab:a≤b) (he:0≤e) (he1:e≤1) (hX:-4294967296≤X∧X≤4294967296) (hb:-2147483648≤a∧b≤2147483648) (h:Hs e a b X):(iT a b:Rat)*(iT a b:Rat)≤X*X+17179869184*e∧X*X≤(gI a b:Rat)*(gI a b:Rat)+17179869184*e:=by
 have sx:=fC X;unfold Hs at h;have A:=aV hb.1;have B:=aV hb.2;have zA:((-2147483648:Int):Rat)=-2147483648:=rfl;have zB:((2147483648:Int):Rat)=2147483648:=rfl;rw [zA] at A;rw [zB] at B;have AB:=aV hab;constructor
 ·unfold iT;split
  ·rename_i c;have c':=xD c;rw [show ((0:Int):Rat)=0 by rfl] at c';rcases (abX:(a:Rat)≤X∨X≤(a:Rat)) with k | k
   ·have:=aaQ (show 0≤X-(a:Rat) by grind) (show 0≤X+(a:Rat) by grind);grind
   ·have m:=aaQ (show 0≤X-((a:Rat)-e) by grind) (show 0≤X+(a:Rat) by grind);have m2:=aaQ he (show 0≤17179869184-(X+(a:Rat)) by grind);grind
  ·split
   ·rename_i c;have c':=xD c;rw [show ((0:Int):Rat)=0 by rfl] at c';rw [afQ];rcases (abX:X≤(b:Rat)∨(b:Rat)≤X) with k | k
    ·have:=aaQ (show 0≤(b:Rat)-X by grind) (show 0≤-X-(b:Rat) by grind);grind
    ·have m:=aaQ (show 0≤(b:Rat)+e-X by grind) (show 0≤-X-(b:Rat) by grind);have m2:=aaQ he (show 0≤17179869184-(-X-(b:Rat)) by grind);grind
   ·rw [show ((0:Int):Rat)=0 by rfl];grind
 ·have n:=JX hab;have n1:=aV n.2.2.1;have n2:=aV n.2.2.2.1;rw [afQ] at n1;have n3:(gI a b:Rat)≤2147483648:=aV (b:=2147483648) (by omega);have n0:0≤(gI a b:Rat):=aV (a:=0) (by omega);generalize (gI a b:Rat)=f at*;have m:=aaQ (show 0≤f+e-X by grind) (show 0≤f+e+X by grind);have m2:=aaQ he (show 0≤17179869184-2*f-e by grind);grind
theorem hyp_hold {a b c d:Int} {X Y ρ e τ σ:Rat} (h1:-2147483648≤a) (h2:a≤b) (h3:b≤2147483648) (h4:-1073741824≤c) (h5:c≤d) (h6:d≤1073741824)
  (he:0≤e) (he1:e≤1) (hX:-4294967296≤X∧X≤4294967296) (hY:-4294967296≤Y∧Y≤4294967296) (vX:Hs e a b X) (vY:Hs e c d Y)
  (hr0:0≤ρ) (hr1:ρ≤1073741824+σ) (hu:Cl (τ/2) (X*X+Y*Y) (ρ*ρ)) (ht:68719476736*e≤τ/2) (ht0:0≤τ) (hts:τ≤σ*σ) (hs0:0≤σ) (hs1:τ≤σ):
  Hs σ (mL a b c d).1 (mL a b c d).2 ρ:=by
 have n1:=JX h2;have n2:=JX h5;have s1:=kH (x:=iT a b) (m:=2147483648) n1.1 (by omega);have s2:=kH (x:=iT c d) (m:=1073741824) n2.1 (by omega);have s3:=kH (x:=gI a b) (m:=2147483648) (by omega) (by omega);have s4:=kH (x:=gI c d) (m:=1073741824) (by omega) (by omega);have r1:=KV (n:=iT a b*iT a b+iT c d*iT c d) (by omega) (by omega);have u2:=upr_ok (n:=gI a b*gI a b+gI c d*gI c d) (by omega) (by omega);have r2:=KV (n:=gI a b*gI a b+gI c d*gI c d) (by omega) (by omega);have kX:=nr_hold h2 he he1 hX ⟨h1,h3⟩ vX;have kY:=nr_hold h5 he he1 hY ⟨by omega,by omega⟩ vY;rw [hyp_eq h1 h2 h3 h4 h5 h6];clear s1 s2 s3 s4;have c1:=aV r1.2.1;have c2:=aV u2.2.1;rw [acX,acQ,acX,acX] at c1;rw [acX,acQ,acX,acX] at c2;have p1:=aV r1.1;have p2:=aV (show 0≤upr (gI a b*gI a b+gI c d*gI c d) by omega);rw [show ((0:Int):Rat)=0 by rfl] at p1 p2;have i1:dJ (iT a b*iT a b+iT c d*iT c d)=0∨(1:Rat)≤(dJ (iT a b*iT a b+iT c d*iT c d):Rat):=by
  rcases aoX r1.1 with h | h
  ·right;have:=xD h;rw [show ((0:Int):Rat)=0 by rfl] at this;grind
  ·left;omega
 have i2:upr (gI a b*gI a b+gI c d*gI c d)=0∨(1:Rat)≤(upr (gI a b*gI a b+gI c d*gI c d):Rat):=by
  rcases aoX (show 0≤upr (gI a b*gI a b+gI c d*gI c d) by omega) with h | h
  ·right;have:=xD h;rw [show ((0:Int):Rat)=0 by rfl] at this;grind
  ·left;omega
 clear r1 u2 r2;generalize dJ (iT a b*iT a b+iT c d*iT c d)=lo at*;generalize upr (gI a b*gI a b+gI c d*gI c d)=hi at*;unfold Cl at hu;unfold Hs;dsimp only;have m0:((min lo 1073741824:Int):Rat)≤(lo:Rat):=aV (by omega);have m1:((min hi 1073741824:Int):Rat)=(hi:Rat)∨((min hi 1073741824:Int):Rat)=1073741824:=by
  rcases asX hi 1073741824 with h | h
  ·left;rw [Int.min_eq_left h]
  ·right;rw [Int.min_eq_right h];rfl
 generalize ((min lo 1073741824:Int):Rat)=l' at*;generalize ((min hi 1073741824:Int):Rat)=h' at*;generalize (iT a b:Rat)*(iT a b:Rat)=w1 at*;generalize (iT c d:Rat)*(iT c d:Rat)=w2 at*;generalize (gI a b:Rat)*(gI a b:Rat)=w3 at*;generalize (gI c d:Rat)*(gI c d:Rat)=w4 at*;generalize X*X=x2 at*;generalize Y*Y=y2 at*;constructor
 ·rcases i1 with i1 | i1
  ·rw [i1,show ((0:Int):Rat)=0 by rfl] at m0;grind
  ·rcases (abX:(lo:Rat)≤ρ+τ∨ρ+τ≤(lo:Rat)) with k | k
   ·grind
   ·have m:=aaQ (show 0≤(lo:Rat)-(ρ+τ) by grind) (show 0≤(lo:Rat)+ρ by grind);have m2:=aaQ ht0 (show 0≤(lo:Rat)+ρ-1 by grind);have m3:(lo:Rat)*(lo:Rat)-ρ*ρ≤τ:=by grind
    have m4:((lo:Rat)-(ρ+τ))*((lo:Rat)+ρ)≤0:=by grind
    have m5:((lo:Rat)-(ρ+τ))*((lo:Rat)+ρ)=0:=by grind
    rcases anZ.1 m5 with q | q
    ·grind
    ·grind
 ·rcases m1 with m1 | m1
  ·rw [m1];rcases i2 with i2 | i2
   ·rw [i2,show ((0:Int):Rat)=0 by rfl] at c2 ⊢;have:=gX (z:=ρ) (f:=σ) (e:=τ) hs0 (by grind) hts;grind
   ·rcases (abX:ρ≤(hi:Rat)+τ∨(hi:Rat)+τ≤ρ) with k | k
    ·grind
    ·have m:=aaQ (show 0≤ρ-((hi:Rat)+τ) by grind) (show 0≤(hi:Rat)+ρ by grind);have m2:=aaQ ht0 (show 0≤(hi:Rat)+ρ-1 by grind);have m3:ρ*ρ-(hi:Rat)*(hi:Rat)≤τ:=by grind
     have m4:(ρ-((hi:Rat)+τ))*((hi:Rat)+ρ)≤0:=by grind
     have m5:(ρ-((hi:Rat)+τ))*((hi:Rat)+ρ)=0:=by grind
     rcases anZ.1 m5 with q | q
     ·grind
     ·grind
  ·rw [m1];grind
theorem ce_zero {x:Int} (h:0<x) (h1:x≤2147483648):ce x 0=0:=by
 have a:=fl_neg (x:=x) (y:=0) ⟨h,h1,by omega,by omega⟩;have b:=RE h h1;rw [Int.neg_zero,b] at a;omega
theorem GQ {a b k l:Int} (hv:aN a b=true) (hk:aN k l=true) (k0:0≤k) (ho:dI a b k l=false):
  ((aX a b k l).1≤5400000∧(aX a b k l).2.1≤5400000)∨(16200000≤(aX a b k l).1∧(aX a b k l).2.1≤27000000):=by
 have v:=iP hv;have w:=iP hk;rcases aoX k0 with h | h
 ·have e:=nJ (j:=0) hk hv ho (by omega) (show lT a b k l 0=(a,b,k,l) from rfl) h;have o:=rO (y0:=a) (y1:=b) (x0:=k) (x1:=l) h w.2.1 v.2.1 w.2.2 v.1 v.2.2;rw [e];dsimp only;omega
 ·have o0:¬(k≤0∧0≤l∧a≤0∧0≤b):=by
   simp only [dI,decide_eq_false_iff_not] at ho;exact ho
  rcases (show 0<a∨b<0 by omega) with h2 | h2
  ·have e:=nJ (j:=1) hk hv ho (by omega) (show lT a b k l 1=(-l,-k,a,b) from rfl) h2;have o:=rO (y0:=-l) (y1:=-k) (x0:=a) (x1:=b) h2 v.2.1 (by omega) v.2.2 (by omega) (by omega);have z:LP (-k) a b=0:=by
    unfold LP;rw [←h,if_pos (by omega)];exact ce_zero h2 (by omega)
   rw [e];dsimp only;omega
  ·have e:=nJ (j:=3) hk hv ho (by omega) (show lT a b k l 3=(k,l,-b,-a) from rfl) (by omega);have o:=rO (y0:=k) (y1:=l) (x0:=-b) (x1:=-a) (by omega) (by omega) (by omega) (by omega) (by omega) (by omega);have z:AG k (-b) (-a)=0:=by
    unfold AG;rw [←h,if_pos (by omega)];exact RE (by omega) (by omega)
   rw [e];dsimp only;omega
def FW (r:Int×Int×Int):Int×Int:=if 10800000≤r.1 then (r.1-21600000,r.2.1-21600000) else (r.1,r.2.1)
theorem nb_bd {r:Int×Int×Int} (hd:oB r) (h:(r.1≤5400000∧r.2.1≤5400000)∨(16200000≤r.1∧r.2.1≤27000000)):-5400000≤(FW r).1∧(FW r).1≤(FW r).2∧(FW r).2≤5400000:=by
 obtain ⟨d1,d2,d3,d4,d5⟩:=hd;unfold FW;split
 ·dsimp only;omega
 ·dsimp only;omega
theorem nb_hold {r:Int×Int×Int} {d q:Rat} (hd:oB r) (h:(r.1≤5400000∧r.2.1≤5400000)∨(16200000≤r.1∧r.2.1≤27000000)) (_d0:0≤d) (d1:d≤1) (q0:-5400000≤q) (q1:q≤5400000) (k:Dr d r.1 r.2.1 q):Hs d (FW r).1 (FW r).2 q:=by
 obtain ⟨e1,e2,e3,e4,e5⟩:=hd;obtain ⟨m,k⟩:=k;have z:∀n:Int,((n:Int):Rat)=(n:Rat):=fun _=>rfl;unfold Hs at k;rcases h with ⟨h1,h2⟩ | ⟨h1,h2⟩
 ·have hm:m=0:=by
   have a1:=aV e1;have a2:=aV h2;rw [show ((0:Int):Rat)=0 by rfl] at a1;rw [show ((5400000:Int):Rat)=5400000 by rfl] at a2;rcases alQ m 0 with q | q | q
   ·have:=xD q;rw [show ((0:Int):Rat)=0 by rfl] at this;grind
   ·exact q
   ·have:=xD q;rw [show ((0:Int):Rat)=0 by rfl] at this;grind
  subst hm;rw [show ((0:Int):Rat)=0 by rfl] at k;unfold FW Hs;rw [if_neg (by omega)];dsimp only;constructor<;>grind
 ·have hm:m=1:=by
   have a1:=aV h1;have a2:=aV h2;rw [show ((16200000:Int):Rat)=16200000 by rfl] at a1;rw [show ((27000000:Int):Rat)=27000000 by rfl] at a2;rcases alQ m 1 with q | q | q
   ·have:=xD q;rw [show ((1:Int):Rat)=1 by rfl] at this;grind
   ·exact q
   ·have:=xD q;rw [show ((1:Int):Rat)=1 by rfl] at this;grind
  subst hm;rw [show ((1:Int):Rat)=1 by rfl] at k;unfold FW Hs;rw [if_pos (by omega)];dsimp only;rw [abZ,abZ,show ((21600000:Int):Rat)=21600000 by rfl];constructor<;>grind
def alT (a b k l:Int):Int×Int×Int:=
 if dI a b k l=true then ((bE a b).1,(bE a b).2.1,0) else (mx (FW (aX a b k l)).1 (bE a b).1,mn (FW (aX a b k l)).2 (bE a b).2.1,0)
theorem YM {p q r s:Int} (h1:-100000000≤p) (h2:p≤q) (h3:q≤100000000) (h4:-100000000≤r) (h5:r≤s) (h6:s≤100000000) (h7:p≤s) (h8:r≤q):cR p q r s=(mx p r,mn q s,0):=by
 unfold cR;rw [if_pos ⟨aR (by omega) h2 (by omega),aR (by omega) h5 (by omega)⟩,if_neg];unfold mx mn;split<;>split<;>omega
theorem alt_ok {a b c d e f:Int} (hv:aN a b=true) (hl:qO (bE a b)) (hk:0≤(mL c d e f).1∧(mL c d e f).1≤(mL c d e f).2∧(mL c d e f).2≤1073741824)
  (hm:dI a b (mL c d e f).1 (mL c d e f).2=false→(FW (aX a b (mL c d e f).1 (mL c d e f).2)).1≤(bE a b).2.1∧(bE a b).1≤(FW (aX a b (mL c d e f).1 (mL c d e f).2)).2):
  UM a b c d e f=alT a b (mL c d e f).1 (mL c d e f).2:=by
 have z:((0:Int) != 0)=false:=rfl;unfold UM UN;simp only [lt];generalize mL c d e f=k at*;obtain ⟨k1,k2⟩:=k;dsimp only at*;have kv:aN k1 k2=true:=fF (by omega) (by omega) (by omega);have D:=lW hv kv;rw [hl.2.2.2,z,cond_false];have key:dI a b k1 k2=false→(cond ((aX a b k1 k2).2.2 != 0) (0,0,(aX a b k1 k2).2.2) (cond (decide ((aX a b k1 k2).1≥10800000))
   ((cR (i64.wrap ((aX a b k1 k2).1-21600000)) (i64.wrap ((aX a b k1 k2).2.1-21600000)) (bE a b).1 (bE a b).2.1).1,(cR (i64.wrap ((aX a b k1 k2).1-21600000)) (i64.wrap ((aX a b k1 k2).2.1-21600000)) (bE a b).1 (bE a b).2.1).2.1,(cR (i64.wrap ((aX a b k1 k2).1-21600000)) (i64.wrap ((aX a b k1 k2).2.1-21600000)) (bE a b).1 (bE a b).2.1).2.2)
   ((cR (aX a b k1 k2).1 (aX a b k1 k2).2.1 (bE a b).1 (bE a b).2.1).1,(cR (aX a b k1 k2).1 (aX a b k1 k2).2.1 (bE a b).1 (bE a b).2.1).2.1,(cR (aX a b k1 k2).1 (aX a b k1 k2).2.1 (bE a b).1 (bE a b).2.1).2.2)))=alT a b k1 k2:=fun ho=>by
  have B:=GQ hv kv hk.1 ho;have n:=nb_bd D B;have m:=hm ho;unfold alT;rw [ho];obtain ⟨d1,d2,d3,d4,d5⟩:=D;obtain ⟨l1,l2,l3,l4⟩:=hl;unfold FW at n m ⊢;generalize aX a b k1 k2=r at*;rw [d5,z,cond_false];simp only [Bool.false_eq_true,if_false];by_cases c:10800000≤r.1
  ·rw [if_pos c] at n m ⊢;dsimp only at n m ⊢;rw [decide_eq_true (show r.1≥10800000 from c),cond_true,bR (by omega),bR (by omega),YM (by omega) (by omega) (by omega) (by omega) l2 (by omega) m.1 m.2]
  ·rw [if_neg c] at n m ⊢;dsimp only at n m ⊢;rw [decide_eq_false (show ¬r.1≥10800000 from c),cond_false,YM (by omega) (by omega) (by omega) (by omega) l2 (by omega) m.1 m.2]
 by_cases c1:k1=0
 ·subst c1;rw [show ((0:Int)==0)=true from rfl,cond_true];by_cases c2:a≤0
  ·rw [decide_eq_true c2,cond_true];by_cases c3:b≥0
   ·rw [decide_eq_true c3,cond_true];have ho:dI a b 0 k2=true:=decide_eq_true (by omega);unfold alT;rw [ho];rfl
   ·rw [decide_eq_false c3,cond_false];exact key (decide_eq_false (by omega))
  ·rw [decide_eq_false c2,cond_false];exact key (decide_eq_false (by omega))
 ·rw [beq_eq_false_iff_ne.2 c1,cond_false];exact key (decide_eq_false (by omega))
def xE (c d e f:Int):Int×Int×Int:=bF (aI c d).1 (aI c d).2.1 (aI e f).1 (aI e f).2.1
def wE (c d e f:Int):Int×Int×Int:=bF (aI c d).1 (aI c d).2.1 (aK e f).1 (aK e f).2.1
def gP (a b c d e f:Int):Int×Int×Int:=
 let m:=bF (xE c d e f).1 (xE c d e f).2.1 (aI a b).1 (aI a b).2.1
 let n:=bF (aK c d).1 (aK c d).2.1 (aK a b).1 (aK a b).2.1
 gB m.1 m.2.1 n.1 n.2.1
def JU (a b c d e f:Int):Int×Int×Int:=
 let m:=bF (aK c d).1 (aK c d).2.1 (aI a b).1 (aI a b).2.1
 let n:=bF (xE c d e f).1 (xE c d e f).2.1 (aK a b).1 (aK a b).2.1
 lJ m.1 m.2.1 n.1 n.2.1
def meaE (c d e f:Int):Int×Int×Int:=mM (wE c d e f).1 (wE c d e f).2.1
def uS (a b c d e f:Int):Int×Int:=mL (JU a b c d e f).1 (JU a b c d e f).2.1 (wE c d e f).1 (wE c d e f).2.1
def JQ (a b c d e f:Int):Int×Int×Int:=alT (gP a b c d e f).1 (gP a b c d e f).2.1 (uS a b c d e f).1 (uS a b c d e f).2
def maziE (a b c d e f:Int):Int×Int×Int:=aX (meaE c d e f).1 (meaE c d e f).2.1 (JU a b c d e f).1 (JU a b c d e f).2.1
theorem mup_v {a b c d e f:Int} {x y t:Rat} (h:dV a b c d e f=true) (hx:Hs 0 a b x) (hy:Hs 0 c d y) (ht:Hs 0 e f t):
  Vl (gP a b c d e f) (1000*e1) (gJ x y t)∧Vl (JU a b c d e f) (1000*e1) (gS x y t)∧Vl (wE c d e f) (1000*e1) (co y*si t)∧Vl (meaE c d e f) (1000*e1) (iQ y t):=by
 obtain ⟨h1,h2,h3⟩:=gA h;have l1:=(bW h1).1;have l2:=(bW h2).1;obtain ⟨w1,w2,w3,w4,w5,w6,w7,w8,w9,w10,w11⟩:=lv;have s1:=aU l1;have c1:=aW l1;have s2:=aU l2;have c2:=aW l2;have s3:=aU h3;have c3:=aW h3;have S1:=kG l1 hx;have C1:=jI l1 hx;have S2:=kG l2 hy;have C2:=jI l2 hy;have S3:=kG h3 ht;have C3:=jI h3 ht;have x1:=fX c2 c3 (by grind) (by grind) C2 C3;have m1:=fX (aM c2 c3) c1 (e:=3*(5*e1)) (by grind) (by grind) x1 (C1.wide (by grind));have m2:=fX s2 s1 (by grind) (by grind) S2 S1;have m3:=fX s2 c1 (by grind) (by grind) S2 C1;have m4:=fX (aM c2 c3) s1 (e:=3*(5*e1)) (by grind) (by grind) x1 (S1.wide (by grind));have m5:=fX c2 s3 (by grind) (by grind) C2 S3;refine ⟨?_,?_,?_,?_⟩
 ·rw [show gJ x y t=co y*co t*co x+si y*si x by unfold gJ;grind];exact (MO (aM (aM c2 c3) c1) (aM s2 s1) m1 m2).wide (by grind)
 ·exact (ZW (aM s2 c1) (aM (aM c2 c3) s1) m3 m4).wide (by grind)
 ·exact m5.wide (by grind)
 ·exact (neg_v (aM c2 s3) m5).wide (by grind)
def sM:Rat:=pw 570
def tM:Rat:=pw 1140
theorem lvM:0≤tM∧tM≤sM*sM∧0≤sM∧tM≤sM∧68719476736*(1000*e1)≤tM/2∧1073741824*1073741824*(100*e0)≤tM/2∧1073741824*e0≤sM/2∧sM+1073741824*(100*eT)≤1/2^91∧2^64*(sM+1073741824*(100*eT)+2*e1)≤dS∧1000*e1≤sM∧1000*e1≤1∧1073741824*(2*e0)≤sM/2∧5*e0≤eT:=by decide+kernel
theorem sq_aux {x1 x2 x3 x4 x5 x6:Rat} (sp:Cl (e0/2) (x3+(x1+x2)) 1) (m:Cl (2*(5*e0)+3*(5*e0)) x4 x3) (un:Cl (8192*u0) (x5+x4) 1) (rr:Cl (2*e0) x6 x5):Cl (50*e0) (x1+x2) x6:=by
 have ee:e0=1048576*u0:=rfl;have u:=aY.1;unfold Cl at*;generalize u0=v at*;generalize e0=w at*;constructor<;>grind
theorem bn_aux {N W r:Rat} (r0:0≤r) (r1:r≤5/4) (sq:Cl (50*e0) (N*N+W*W) (r*r)):-4≤N∧N≤4:=by
 have eb:=dY;have s2:=fC W;have rr2:r*r≤2:=by
  have:=aaQ (show 0≤5/4-r by grind) (show 0≤5/4+r by grind);grind
 have q:N/2*(N/2)≤2:=by
  unfold Cl at sq;have k:=sq.2;have e:N/2*(N/2)=N*N/4:=by grind
  rw [e];generalize r*r=x6 at*;generalize W*W=x2 at*;generalize N*N=x1 at*;grind
 have:=yW q;constructor<;>grind
theorem neg_aux {x:Rat} (h0:-e0≤x) (h1:x≤0):Cl e0 0 x∧Cl (2*e0) (0*0) (x*x):=by
 have eb:=dY;have m:=aB (a:=x) (b:=x) (A:=e0) (B:=1) (by grind) (by grind) (by grind) (by grind);unfold Cl;refine ⟨⟨?_,?_⟩,?_,?_⟩<;>grind
theorem hy_v {a b c d e f:Int} {x y t h' z':Rat} (h:dV a b c d e f=true) (hx:Hs 0 a b x) (hy:Hs 0 c d y) (ht:Hs 0 e f t) (s:dE x y t h' z'):
  0≤(uS a b c d e f).1∧(uS a b c d e f).1≤(uS a b c d e f).2∧(uS a b c d e f).2≤1073741824∧Hs (2*sM) (uS a b c d e f).1 (uS a b c d e f).2 (1073741824*co h'):=by
 obtain ⟨w1,w2,w3,w4,w5,w6,w7,w8,w9,w10,w11,w12,w13⟩:=lvM;have eb:=dY;have e1b:=iL;have ee:e0=1048576*u0:=rfl;have u:=aY;obtain ⟨v1,v2,v3,v4⟩:=mup_v h hx hy ht;obtain ⟨h0,h1,z0,z1,k1,k2,k3⟩:=s;obtain ⟨g1,g2,g3⟩:=gA h;have W:=aM (aW (bW g2).1) (aU g3);have wv:-1073741824≤(wE c d e f).1∧(wE c d e f).1≤(wE c d e f).2.1∧(wE c d e f).2.1≤1073741824:=⟨W.1,W.2.1,W.2.2.1⟩;have nv:=iP v2.2.1;have bd:=hyp_bd nv.1 nv.2.1 nv.2.2 wv.1 wv.2.1 wv.2.2;refine ⟨bd.1,bd.2.1,bd.2.2,?_⟩;have cl:=mT h0 h1;have bh:=LO h';obtain ⟨r,r0,r1,rc,rr⟩:∃r:Rat,0≤r∧r≤1+8192*u0∧Cl e0 r (co h')∧Cl (2*e0) (r*r) (co h'*co h'):=by
  rcases (abX:0≤co h'∨co h'≤0) with c | c
  ·exact ⟨co h',c,by grind,Cl.refl _ (by grind),Cl.refl _ (by grind)⟩
  ·exact ⟨0,by grind,by grind,(neg_aux cl.1 c).1,(neg_aux cl.1 c).2⟩
 have sp:=LD x y t;have un:=nE h';have b2:=cL h';have m:=Cl.mul 2 3 k1 k1 b2.2 (by unfold Cl at k1;constructor<;>grind);have sq:Cl (50*e0) (gS x y t*gS x y t+co y*si t*(co y*si t)) (r*r):=by
  have e:iQ y t*iQ y t=co y*si t*(co y*si t):=by unfold iQ;grind
  rw [e] at sp;exact sq_aux sp m un rr
 have bn:=bn_aux r0 (by grind) sq;have bw:-4≤co y*si t∧co y*si t≤4:=by
  have by2:=cL y;have bt2:=cL t;have:=aB by2.1.1 by2.1.2 bt2.2.1 bt2.2.2;constructor<;>grind
 have k:=hyp_hold (X:=1073741824*gS x y t) (Y:=1073741824*(co y*si t)) (ρ:=1073741824*r) (e:=1000*e1) (τ:=tM) (σ:=sM) nv.1 nv.2.1 nv.2.2 wv.1 wv.2.1 wv.2.2 (by grind) w11 (by constructor<;>grind) (by constructor<;>grind) v2.2.2 v3.2.2 (by grind) (by grind) ?_ w5 w1 w2 w3 w4
 ·have n:=k.near (f:=sM) (Y:=1073741824*co h') (by
   unfold Cl at rc ⊢;constructor<;>grind)
  exact n.wide (by grind) (abJ _) (abJ _)
 ·unfold Cl at sq ⊢;rw [show 1073741824*gS x y t*(1073741824*gS x y t)=1073741824*1073741824*(gS x y t*gS x y t) by grind,show 1073741824*(co y*si t)*(1073741824*(co y*si t))=1073741824*1073741824*(co y*si t*(co y*si t)) by grind,show 1073741824*r*(1073741824*r)=1073741824*1073741824*(r*r) by grind];clear bn bw m sp un;generalize gS x y t*gS x y t=x1 at*;generalize co y*si t*(co y*si t)=x2 at*;generalize r*r=x3 at*;constructor<;>grind
theorem lvN:2*sM+1073741824*eT≤1/2^91∧2^64*(2*sM+1073741824*eT+2*e1)≤dS∧dS≤1:=by decide+kernel
theorem malt_v {a b c d e f:Int} {x y t h' z':Rat} (h:dV a b c d e f=true) (hx:Hs 0 a b x) (hy:Hs 0 c d y) (ht:Hs 0 e f t) (s:dE x y t h' z'):
  qO (bE (gP a b c d e f).1 (gP a b c d e f).2.1)∧Hs dS (bE (gP a b c d e f).1 (gP a b c d e f).2.1).1 (bE (gP a b c d e f).1 (gP a b c d e f).2.1).2.1 h'∧
   (dI (gP a b c d e f).1 (gP a b c d e f).2.1 (uS a b c d e f).1 (uS a b c d e f).2=false→Hs dS (FW (aX (gP a b c d e f).1 (gP a b c d e f).2.1 (uS a b c d e f).1 (uS a b c d e f).2)).1 (FW (aX (gP a b c d e f).1 (gP a b c d e f).2.1 (uS a b c d e f).1 (uS a b c d e f).2)).2 h'∧
    -5400000≤(FW (aX (gP a b c d e f).1 (gP a b c d e f).2.1 (uS a b c d e f).1 (uS a b c d e f).2)).1∧(FW (aX (gP a b c d e f).1 (gP a b c d e f).2.1 (uS a b c d e f).1 (uS a b c d e f).2)).1≤(FW (aX (gP a b c d e f).1 (gP a b c d e f).2.1 (uS a b c d e f).1 (uS a b c d e f).2)).2∧(FW (aX (gP a b c d e f).1 (gP a b c d e f).2.1 (uS a b c d e f).1 (uS a b c d e f).2)).2≤5400000):=by
 obtain ⟨w1,w2,w3,w4,w5,w6,w7,w8,w9,w10,w11,w12,w13⟩:=lvM;have eb:=dY;have e1b:=iL;obtain ⟨v1,v2,v3,v4⟩:=mup_v h hx hy ht;have u:=up_v v1 s;obtain ⟨k0,k1,k2,kh⟩:=hy_v h hx hy ht s;refine ⟨u.1,u.2,fun ho=>?_⟩;obtain ⟨h0,h1,z0,z1,q1,q2,q3⟩:=s;generalize gP a b c d e f=U at*;generalize uS a b c d e f=K at*;have kv:aN K.1 K.2=true:=fF (by omega) k1 (by omega);have vk:Vl (K.1,K.2,(0:Int)) (2*sM) (co h'):=⟨rfl,kv,kh⟩;have B:=GQ v1.2.1 kv k0 ho;have dd:=lv.2.2.1;have t0:=lv.2.1;have b:=xZ (r:=U) (s:=(K.1,K.2,(0:Int))) (q:=h') (ρ:=1) (e:=2*sM) (t:=eT) (v1.wide (by grind)) vk (by rw [show 1*si h'=si h' by grind];exact q1.wide w13) (by rw [show 1*co h'=co h' by grind];exact Cl.refl _ (by grind)) (by grind) (by grind) (by grind) (by grind) lvN.1;have n:=nb_bd b.1 B;have hh:=nb_hold b.1 B (by grind) lvN.2.2 h0 h1 (b.2.wide lvN.2.1);exact ⟨hh,n⟩
theorem mx_mn (p q r s:Int):p≤mx p q∧q≤mx p q∧(mx p q=p∨mx p q=q)∧mn r s≤r∧mn r s≤s∧(mn r s=r∨mn r s=s):=by
 unfold mx mn;split<;>split<;>omega
theorem matrix_ok {a b c d e f:Int} (h:dV a b c d e f=true):xO a b c d e f=((JQ a b c d e f).1,(JQ a b c d e f).2.1,(maziE a b c d e f).1,(maziE a b c d e f).2.1,0)∧Hold a b c d e f (JQ a b c d e f) (maziE a b c d e f):=by
 obtain ⟨h1,h2,h3⟩:=gA h;have l1:=bW h1;have l2:=bW h2;have l3:=cG h3;have ds:dS+dS<1:=by decide+kernel
 have x0:=Hs.at (abJ a) (show a≤b by omega);have y0:=Hs.at (abJ c) (show c≤d by omega);have t0:=Hs.at (abJ e) (show e≤f by omega);obtain ⟨h',z',s'⟩:=vW a c e;obtain ⟨v1,v2,v3,v4⟩:=mup_v h x0 y0 t0;obtain ⟨L,hu,hn⟩:=malt_v h x0 y0 t0 s';have K:=hy_v h x0 y0 t0 s';have D:=(az_v v4 v2 s').1;have ak:UM (gP a b c d e f).1 (gP a b c d e f).2.1 (JU a b c d e f).1 (JU a b c d e f).2.1 (wE c d e f).1 (wE c d e f).2.1=JQ a b c d e f:=
  alt_ok v1.2.1 L ⟨K.1,K.2.1,K.2.2.1⟩ (fun ho=>(hn ho).1.meet hu ds)
 have LH:qO (JQ a b c d e f):=by
  unfold JQ alT;split
  ·exact ⟨L.1,L.2.1,L.2.2.1,rfl⟩
  ·rename_i ho;have ho:dI (gP a b c d e f).1 (gP a b c d e f).2.1 (uS a b c d e f).1 (uS a b c d e f).2=false:=by simpa using ho
   obtain ⟨n1,n2,n3,n4⟩:=hn ho;have m:=n1.meet hu ds;obtain ⟨q1,q2,q3,q4⟩:=L;unfold qO;dsimp only;have x:=mx_mn (FW (aX (gP a b c d e f).1 (gP a b c d e f).2.1 (uS a b c d e f).1 (uS a b c d e f).2)).1 (bE (gP a b c d e f).1 (gP a b c d e f).2.1).1 (FW (aX (gP a b c d e f).1 (gP a b c d e f).2.1 (uS a b c d e f).1 (uS a b c d e f).2)).2 (bE (gP a b c d e f).1 (gP a b c d e f).2.1).2.1;refine ⟨by omega,by omega,by omega,rfl⟩
 refine ⟨?_,LH,D,wL v4.2.1 v2.2.1,?_,?_⟩
 ·have z:((0:Int) != 0)=false:=rfl;unfold xO JV;rw [h];simp only [lt,tO,xV,tN,xU,mO,nZ,EK,PB,EM,PD,EL,PC,Bool.not_true,cond_false];have s1:=aU l1.1;have c1:=aW l1.1;have s2:=aU l2.1;have c2:=aW l2.1;have s3:=aU h3;have c3:=aW h3;rw [←ak];have ez:maziE a b c d e f=aX (meaE c d e f).1 (meaE c d e f).2.1 (JU a b c d e f).1 (JU a b c d e f).2.1:=rfl;rw [ez];have LH2:=LH.2.2.2;rw [←ak] at LH2;have D2:=D.2.2.2.2;clear hn hu K L LH D v1 v2 v3 v4 s' x0 y0 t0 ez ak;have exE:bF (aI c d).1 (aI c d).2.1 (aI e f).1 (aI e f).2.1=xE c d e f:=rfl;have ewE:bF (aI c d).1 (aI c d).2.1 (aK e f).1 (aK e f).2.1=wE c d e f:=rfl;have xo:fJ (xE c d e f):=aM c2 c3;have wo:fJ (wE c d e f):=aM c2 s3;rw [exE,ewE];have m1:=aM xo c1;have m2:=aM s2 s1;have m3:=aM s2 c1;have m4:=aM xo s1;have a1:=qP m1 m2;have a2:=wG m3 m4;have a3:=wV wo;have eu:gB (bF (xE c d e f).1 (xE c d e f).2.1 (aI a b).1 (aI a b).2.1).1 (bF (xE c d e f).1 (xE c d e f).2.1 (aI a b).1 (aI a b).2.1).2.1 (bF (aK c d).1 (aK c d).2.1 (aK a b).1 (aK a b).2.1).1 (bF (aK c d).1 (aK c d).2.1 (aK a b).1 (aK a b).2.1).2.1=gP a b c d e f:=rfl;have en:lJ (bF (aK c d).1 (aK c d).2.1 (aI a b).1 (aI a b).2.1).1 (bF (aK c d).1 (aK c d).2.1 (aI a b).1 (aI a b).2.1).2.1 (bF (xE c d e f).1 (xE c d e f).2.1 (aK a b).1 (aK a b).2.1).1 (bF (xE c d e f).1 (xE c d e f).2.1 (aK a b).1 (aK a b).2.1).2.1=JU a b c d e f:=rfl;have eg:mM (wE c d e f).1 (wE c d e f).2.1=meaE c d e f:=rfl;rw [eu,en,eg];have u0':(gP a b c d e f).2.2=0:=by rw [←eu,a1.1]
  have n0':(JU a b c d e f).2.2=0:=by rw [←en,a2.1]
  have g0':(meaE c d e f).2.2=0:=by rw [←eg,a3.1]
  rw [s1.2.2.2,c1.2.2.2,s2.2.2.2,c2.2.2.2,s3.2.2.2,c3.2.2.2,xo.2.2.2,wo.2.2.2,m1.2.2.2,m2.2.2.2,m3.2.2.2,m4.2.2.2,u0',n0',g0'];simp only [AC,z,cond_false];rw [LH2,D2,z];rfl
 ·intro x y t hx hy ht h'' z'' s'';obtain ⟨L',hu',hn'⟩:=malt_v h hx hy ht s'';unfold JQ alT;split
  ·exact hu'
  ·rename_i ho;have ho:dI (gP a b c d e f).1 (gP a b c d e f).2.1 (uS a b c d e f).1 (uS a b c d e f).2=false:=by simpa using ho
   obtain ⟨n1,n2,n3,n4⟩:=hn' ho;dsimp only;have x:=mx_mn (FW (aX (gP a b c d e f).1 (gP a b c d e f).2.1 (uS a b c d e f).1 (uS a b c d e f).2)).1 (bE (gP a b c d e f).1 (gP a b c d e f).2.1).1 (FW (aX (gP a b c d e f).1 (gP a b c d e f).2.1 (uS a b c d e f).1 (uS a b c d e f).2)).2 (bE (gP a b c d e f).1 (gP a b c d e f).2.1).2.1;unfold Hs at*;constructor
   ·rcases x.2.2.1 with q | q<;>rw [q]
    ·exact n1.1
    ·exact hu'.1
   ·rcases x.2.2.2.2.2 with q | q<;>rw [q]
    ·exact n1.2
    ·exact hu'.2
 ·intro x y t hx hy ht h'' z'' s'';obtain ⟨v1',v2',v3',v4'⟩:=mup_v h hx hy ht;exact (az_v v4' v2' s'').2
end
end
end Go.Proofs.YtajpgkpdhcbngaaGreatDoor
