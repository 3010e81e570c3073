/-
  Bearing's arc holds the direction of every point of its box, for rational points and angles. No program here. Operations without error, and what their results hold; the true altitude and azimuth of a.
-/
import Derived.Test.YtmididlfnajhiaaGreatDoorU7
import Derived.Test.YtmididlfnajhiaaGreatDoorU11
import Derived.Test.YtmididlfnajhiaaGreatDoorU6
import Derived.Test.YtmididlfnajhiaaGreatDoorU2
import Derived.LoopN
import Derived.WalkSpells
import Derived.StillTactics
import Derived.Deep.RegionWith
set_option maxRecDepth 100000
set_option maxHeartbeats 4000000
open _root_.Int renaming le_refl→aeX,lt_or_eq_of_le→apZ,lt_or_le→akZ,mul_le_mul→aiX,mul_nonneg→aeZ,natCast_add→aoJ,natCast_mul→aiQ,tdiv→apQ,toNat_of_nonneg→ahX,zero_sub→aoX
open Go.Lib renaming hid→aaQ
open _root_.Nat renaming lt_or_ge→abZ,mul_le_mul→agQ,pow_le_pow_right→akX,pow_succ→akJ,zero_le→adX
open _root_.Rat renaming intCast_add→adQ,intCast_mul→abJ,intCast_neg→afZ,intCast_sub→acZ,le_total→adJ,mul_eq_zero→axQ,mul_nonneg→aaZ,natCast_le_natCast→abX
open Go.IntKind (i64 u64)
namespace Go.Proofs.YtmididlfnajhiaaGreatDoor
section
namespace TB
open SM TA
theorem thF_near:-(1/2^120)≤(tb-hI)*2700000∧(tb-hI)*2700000≤1/2^120:=by decide+kernel
theorem tail_B1:En 652 (4/5)-En 100 (4/5)≤1/2^200:=by decide+kernel
theorem tail_B0:En 100 (1/2^120)-En 0 (1/2^120)≤1/2^119:=by decide+kernel
theorem rest_B8:rest 100 (4/5)≤1/2^118:=by decide+kernel
theorem near_V (k:Nat) (h:k≤2700000):Cl (1/2^110) (si (k:Rat)) (sV k)∧Cl (1/2^110) (co (k:Rat)) (cV k):=by
 have k0:(0:Rat)≤(k:Rat):=by exact_mod_cast adX k
 have k1:(k:Rat)≤2700000:=by
  have:(k:Rat)≤((2700000:Nat):Rat):=by exact_mod_cast h
  exact this
 have es:si (k:Rat)=Sn 652 (tb*(k:Rat))∧co (k:Rat)=Cn 652 (tb*(k:Rat)):=by
  unfold si co;rw [tK (by grind) (by grind)];exact ⟨rfl,rfl⟩
 have t:=uH;have x:0≤tb*(k:Rat)∧tb*(k:Rat)≤4/5:=by
  have:=EI (p:=(k:Rat)) (c:=2700000) (d:=4/5) (by grind) k1 (by grind);exact ⟨aaZ (by grind) k0,this.2⟩
 have a:=QL 100 552 652 rfl (x:=tb*(k:Rat)) (X:=4/5) (by grind) x.2 tail_B1;have a':=aAJ 100 552 652 rfl (x:=tb*(k:Rat)) (X:=4/5) (by grind) x.2 tail_B1;have tn:=thF_near;have d:-(1/2^120)≤(tb-hI)*(k:Rat)∧(tb-hI)*(k:Rat)≤1/2^120:=by
  have z:(0:Rat)≤1/2^120:=by decide+kernel
  have e:(tb-hI)*(k:Rat)*2700000=(tb-hI)*2700000*(k:Rat):=by grind
  have m1:=aaZ (show 0≤1/2^120-(tb-hI)*2700000 by grind) k0;have m2:=aaZ (show 0≤1/2^120+(tb-hI)*2700000 by grind) k0;have m3:=aaZ z (show 0≤2700000-(k:Rat) by grind);generalize (tb-hI)*(k:Rat)=y at*;constructor<;>grind
 have hx:=yO k h;have b:=v_bd k h;have ad:=oZ 100 (x:=hI*(k:Rat)) (y:=(tb-hI)*(k:Rat)) (X:=4/5) (by grind) (by grind) (by grind) (by grind);have r:=rest_B8;have c:=aAJ 0 100 100 rfl (x:=(tb-hI)*(k:Rat)) (X:=1/2^120) d.1 d.2 tail_B0;have s:=QL 0 100 100 rfl (x:=(tb-hI)*(k:Rat)) (X:=1/2^120) d.1 d.2 tail_B0;have c0:Cn 0 ((tb-hI)*(k:Rat))=1:=by simp [Cn,sm,sc,P];grind
 have s0:Sn 0 ((tb-hI)*(k:Rat))=0:=by simp [Sn,sm,ss,P];grind
 rw [c0] at c;rw [s0] at s;rw [show hI*(k:Rat)+(tb-hI)*(k:Rat)=tb*(k:Rat) by grind] at ad;have eV:sV k=Sn 100 (hI*(k:Rat)):=rfl;have eC:cV k=Cn 100 (hI*(k:Rat)):=rfl;rw [←eV,←eC] at ad;have m1:=gT (z:=sV k) (c:=Cn 100 ((tb-hI)*(k:Rat))-1) (k:=1/2^119) ⟨by grind,by grind⟩ ⟨by grind,by grind⟩;have m2:=gT (z:=cV k) (c:=Sn 100 ((tb-hI)*(k:Rat))-0) (k:=1/2^119) ⟨by grind,by grind⟩ ⟨by grind,by grind⟩;have m3:=gT (z:=cV k) (c:=Cn 100 ((tb-hI)*(k:Rat))-1) (k:=1/2^119) ⟨by grind,by grind⟩ ⟨by grind,by grind⟩;have m4:=gT (z:=sV k) (c:=Sn 100 ((tb-hI)*(k:Rat))-0) (k:=1/2^119) ⟨by grind,by grind⟩ ⟨by grind,by grind⟩;rw [es.1,es.2];unfold Cl;clear b c s d hx x t tn eV eC c0 s0;generalize sV k=A at*;generalize cV k=B at*;generalize Cn 100 ((tb-hI)*(k:Rat))=D at*;generalize Sn 100 ((tb-hI)*(k:Rat))=E at*;generalize Sn 100 (tb*(k:Rat))=F at*;generalize Cn 100 (tb*(k:Rat))=F' at*;generalize Sn 652 (tb*(k:Rat))=G at*;generalize Cn 652 (tb*(k:Rat))=G' at*;generalize rest 100 (4/5)=R at*;refine ⟨⟨?_,?_⟩,?_,?_⟩<;>grind
theorem near_K (k:Nat) (h:k≤5400000):Cl (1/2^105) (si (k:Rat)) (sK k)∧Cl (1/2^105) (co (k:Rat)) (cK k):=by
 have u:=cT;unfold sK cK;by_cases c:k≤2700000
 ·rw [if_pos c,if_pos c];have:=near_V k c;exact ⟨this.1.wide (by grind),this.2.wide (by grind)⟩
 ·rw [if_neg c,if_neg c];have n:=near_V (5400000-k) (by omega);have e:((5400000-k:Nat):Rat)=5400000-(k:Rat):=by
   have:((5400000-k+k:Nat):Rat)=((5400000:Nat):Rat):=by rw [Nat.sub_add_cancel h]
   rw [Rat.natCast_add] at this;have z:((5400000:Nat):Rat)=5400000:=rfl;rw [z] at this;grind
  rw [e] at n;have q:=WJ (k:Rat);exact ⟨(q.2.symm.trans n.2).wide (by grind),(q.1.symm.trans n.1).wide (by grind)⟩
theorem SV {x:Nat} (h:x≤2147483648):0≤(x:Rat)∧(x:Rat)≤2147483648:=by
 have a:(0:Rat)≤(x:Rat):=by exact_mod_cast adX x
 have b:(x:Rat)≤((2147483648:Nat):Rat):=by exact_mod_cast h
 exact ⟨a,b⟩
theorem nR {x a b e:Rat} (hx:0≤x∧x≤2147483648) (h:Cl e a b):Cl (2147483648*e) (x*a) (x*b):=by
 have m:=aM (a:=x) (b:=a-b) (A:=2147483648) (B:=e) (by grind) hx.2 h.1 h.2;unfold Cl;rw [show x*a-x*b=x*(a-b) by grind];exact m
theorem rea_B {k x y:Nat} (hk:k<5400000) (hx:x≤2147483648) (hy:y≤2147483648) (hxy:0<x+y):
  (eM x y k=true→(x:Rat)*si (k:Rat)≤(y:Rat)*co (k:Rat)+e1)∧(eM x y k=false→(y:Rat)*co (k:Rat)≤(x:Rat)*si (k:Rat)+e1):=by
 have eb:=iR;have be:=tW;have u:=cT;have ee:e0=1048576*u0:=rfl;have X:=SV hx;have Y:=SV hy;by_cases h0:k=0
 ·subst h0;rw [show ((0:Nat):Rat)=0 by rfl,si_0,co_0];refine ⟨fun _=>by grind,fun h=>?_⟩;rw [rL] at h;cases h
 by_cases h1:k=2700000
 ·subst h1;have q:=(WJ 2700000).1;rw [show (5400000:Rat)-2700000=2700000 by grind] at q;rw [show ((2700000:Nat):Rat)=2700000 by rfl];have s:=tP (q:=2700000) (by grind) (by grind);have m:=nR Y q;have p:=lJ x y;unfold Cl at m;constructor
  ·intro h;have:=abX.2 (p.1 h);have g:=aaZ (show 0≤(y:Rat)-(x:Rat) by grind) s;generalize (y:Rat)*co 2700000=w at*;generalize si 2700000=z at*;grind
  ·intro h;have h2:¬x≤y:=fun c=>by rw [p.2 c] at h;cases h
   have:=abX.2 (show y≤x by omega);have g:=aaZ (show 0≤(x:Rat)-(y:Rat) by grind) s;generalize (y:Rat)*co 2700000=w at*;generalize si 2700000=z at*;grind
 have r:=rM (by omega) h1 hk hx hy hxy;have n:=near_K k (by omega);have m1:=nR X n.1;have m2:=nR Y n.2;unfold Cl at m1 m2;have z:(2147483648:Rat)*(1/2^105)≤1/2^70:=by decide+kernel
 generalize (x:Rat)*si (k:Rat)=a at*;generalize (y:Rat)*co (k:Rat)=b at*;generalize (x:Rat)*sK k=c at*;generalize (y:Rat)*cK k=d at*;clear n X Y;constructor
 ·intro h;rcases r with ⟨_,r⟩ | ⟨r0,r⟩
  ·grind
  ·rw [h] at r0;cases r0
 ·intro h;rcases r with ⟨r0,r⟩ | ⟨_,r⟩
  ·rw [h] at r0;cases r0
  ·grind
theorem F_B {x y:Nat} (hx:x≤2147483648) (hy:y≤2147483648) (hx0:0<x):
  (x:Rat)*si (F x y:Rat)≤(y:Rat)*co (F x y:Rat)+e1∧(y:Rat)*co (C x y:Rat)≤(x:Rat)*si (C x y:Rat)+e1:=by
 have eb:=iR;have be:=tW;have u:=cT;have ee:e0=1048576*u0:=rfl;have X:=SV hx;have Y:=SV hy;obtain ⟨f1,f2,f3⟩:=lS x y;refine ⟨(rea_B f1 hx hy (by omega)).1 f2,?_⟩;unfold C;cases hex:FD x y with
 | true=>
  rw [if_pos rfl,Nat.add_zero];unfold FD at hex;simp only [Bool.or_eq_true,Bool.and_eq_true,beq_iff_eq] at hex;rcases hex with ⟨h1,h2⟩ | ⟨h1,h2⟩
  ·rw [h1,h2,show ((0:Nat):Rat)=0 by rfl,si_0];grind
  ·rw [h1,←h2,show ((2700000:Nat):Rat)=2700000 by rfl];have q:=(WJ 2700000).1;rw [show (5400000:Rat)-2700000=2700000 by grind] at q;have m:=nR X q;unfold Cl at m;generalize (x:Rat)*co 2700000=w at*;generalize (x:Rat)*si 2700000=z at*;grind
 | false=>
  simp only [Bool.false_eq_true,if_false];rcases f3 with h | h
  ·rw [h,show ((5400000:Nat):Rat)=5400000 by rfl];have q:=LU;have m1:=nR X q.2;have m2:=nR Y q.1;unfold Cl at m1 m2;generalize (x:Rat)*si 5400000=w at*;generalize (y:Rat)*co 5400000=z at*;grind
  ·by_cases hk:F x y+1<5400000
   ·exact (rea_B hk hx hy (by omega)).2 h
   ·rw [show F x y+1=5400000 by omega,show ((5400000:Nat):Rat)=5400000 by rfl];have q:=LU;have m1:=nR X q.2;have m2:=nR Y q.1;unfold Cl at m1 m2;generalize (x:Rat)*si 5400000=w at*;generalize (y:Rat)*co 5400000=z at*;grind
theorem DQ {a:Int} (h:-2147483648≤a∧a≤2147483648):-2147483648≤(a:Rat)∧(a:Rat)≤2147483648:=
 ⟨cQ (a:=-2147483648) h.1,cQ (b:=2147483648) h.2⟩
theorem backq (q:Rat):Cl (10000*u0) (si (q-5400000)) (-co q)∧Cl (10000*u0) (co (q-5400000)) (si q):=by
 have a:=WJ q;have n:=BU (5400000-q);have u:=cT;rw [show -(5400000-q)=q-5400000 by grind] at n;exact ⟨(n.2.trans a.1.neg).wide (by grind),(n.1.trans a.2).wide (by grind)⟩
theorem xV {x p q:Rat} (hx:-2147483648≤x∧x≤2147483648) (h:Cl (40000*u0) p q):Cl (e1/4) (x*p) (x*q):=by
 have be:=tW;have u:=cT.1;have ee:e0=1048576*u0:=rfl;have m:=aM (a:=x) (b:=p-q) (A:=2147483648) (B:=40000*u0) hx.1 hx.2 h.1 h.2;have k:2147483648*(40000*u0)≤e1/4:=by grind
 clear h be;unfold Cl;rw [show x*p-x*q=x*(p-q) by grind];generalize x*(p-q)=w at*;generalize 2147483648*(40000*u0)=v at*;constructor<;>grind
theorem fl_B {a b:Int} (h:CT a b):(a:Rat)*si (fl a b:Rat)≤(b:Rat)*co (fl a b:Rat)+2*e1∧(b:Rat)*co (ce a b:Rat)≤(a:Rat)*si (ce a b:Rat)+2*e1:=by
 obtain ⟨h0,h1,h2,h3⟩:=h;have eb:=iR;have be:=tW;have u:=cT;have ee:e0=1048576*u0:=rfl;have cast:∀m:Int,0≤m→((m.toNat:Nat):Rat)=(m:Rat):=fun m h=>by
  have:((m.toNat:Nat):Int)=m:=ahX h;have e:((m.toNat:Nat):Rat)=(((m.toNat:Nat):Int):Rat):=rfl;rw [e,this]
 have icast:∀n:Nat,(((n:Nat):Int):Rat)=(n:Rat):=fun n=>rfl;rw [ce_eq];unfold fl;by_cases hb:0≤b
 ·rw [if_pos hb,if_pos hb,icast,icast];have f:=F_B (x:=a.toNat) (y:=b.toNat) (by omega) (by omega) (by omega);rw [cast a (by omega),cast b hb] at f;obtain ⟨f1,f2⟩:=f;clear cast icast be u ee;generalize (a:Rat)*si (F a.toNat b.toNat:Rat)=x1 at*;generalize (b:Rat)*co (F a.toNat b.toNat:Rat)=x2 at*;generalize (b:Rat)*co (C a.toNat b.toNat:Rat)=x3 at*;generalize (a:Rat)*si (C a.toNat b.toNat:Rat)=x4 at*;constructor<;>grind
 ·rw [if_neg hb,if_neg hb];have f:=F_B (x:=(-b).toNat) (y:=a.toNat) (by omega) (by omega) (by omega);rw [cast a (by omega),cast (-b) (by omega),afZ] at f;have z:((5400000:Int):Rat)=5400000:=rfl;rw [acZ,acZ,z,icast,icast];have q1:=backq (F (-b).toNat a.toNat:Rat);have q2:=backq (C (-b).toNat a.toNat:Rat);have A:=DQ (a:=a) (by omega);have B:=DQ (a:=b) (by omega);have m1:=xV A (q1.1.wide (f:=40000*u0) (by grind));have m2:=xV B (q1.2.wide (f:=40000*u0) (by grind));have m3:=xV A (q2.1.wide (f:=40000*u0) (by grind));have m4:=xV B (q2.2.wide (f:=40000*u0) (by grind));rw [show (a:Rat)*-co (F (-b).toNat a.toNat:Rat)=-((a:Rat)*co (F (-b).toNat a.toNat:Rat)) by grind] at m1;rw [show (a:Rat)*-co (C (-b).toNat a.toNat:Rat)=-((a:Rat)*co (C (-b).toNat a.toNat:Rat)) by grind] at m3;rw [show -(b:Rat)*si (F (-b).toNat a.toNat:Rat)=-((b:Rat)*si (F (-b).toNat a.toNat:Rat)) by grind,show -(b:Rat)*si (C (-b).toNat a.toNat:Rat)=-((b:Rat)*si (C (-b).toNat a.toNat:Rat)) by grind] at f;clear q1 q2 A B be u ee;unfold Cl at*;generalize (a:Rat)*si ((F (-b).toNat a.toNat:Rat)-5400000)=x1 at*;generalize (b:Rat)*co ((F (-b).toNat a.toNat:Rat)-5400000)=x2 at*;generalize (a:Rat)*si ((C (-b).toNat a.toNat:Rat)-5400000)=x3 at*;generalize (b:Rat)*co ((C (-b).toNat a.toNat:Rat)-5400000)=x4 at*;generalize (a:Rat)*co (F (-b).toNat a.toNat:Rat)=x5 at*;generalize (b:Rat)*si (F (-b).toNat a.toNat:Rat)=x6 at*;generalize (a:Rat)*co (C (-b).toNat a.toNat:Rat)=x7 at*;generalize (b:Rat)*si (C (-b).toNat a.toNat:Rat)=x8 at*;constructor<;>grind
theorem CH {z t:Rat} (h0:0≤z) (h1:z≤10800000-1/2^13) (ht:t≤1/2^40) (h:si z≤t):z≤8000000*(t+e0):=by
 have b:=uH;have u:=cT;have ee:e0=1048576*u0:=rfl;have eb:=eR;rcases (adJ:z≤5400000∨5400000≤z) with c | c
 ·have p:=(tQ h0 c).1;have m:z/3437750≤tb*z:=by
   have:=aaZ (show 0≤tb-1/3437750 by grind) h0;grind
  generalize si z=s at*;generalize tb*z=w at*;grind
 ·exfalso;have p:=(tQ (q:=10800000-z) (by grind) (by grind)).1;have r:=LY z;have m:=aaZ (show 0≤tb-1/3437750 by grind) (show 0≤10800000-z by grind);unfold Cl at r;generalize si (10800000-z)=s' at*;generalize si z=s at*;generalize tb=w at*;grind
theorem pos_co {p ρ:Rat} (h0:-10800000≤p) (h1:p≤10800000) (hr0:0≤ρ) (hr1:ρ≤8589934592) (h:1/2≤ρ*co p):-5400000+1/2^13≤p∧p≤5400000-1/2^13:=by
 have u:=cT;have ee:e0=1048576*u0:=rfl;have eb:=eR;have b:=uH;have key:∀q:Rat,0≤q→q≤10800000→1/2≤ρ*co q→q≤5400000-1/2^13:=fun q g0 g1 g=>by
  rcases (adJ:q≤5400000-1/2^13∨5400000-1/2^13≤q) with c | c
  ·exact c
  ·exfalso;have r:=(WJ q).1;have k:co q≤1/2^34-1/2^36:=by
    unfold Cl at r;rcases (adJ:q≤5400000∨5400000≤q) with e | e
    ·have s:=(tQ (q:=5400000-q) (by grind) (by grind)).2;have m:=aaZ (show 0≤1/3437740-tb by grind) (show 0≤5400000-q by grind);generalize si (5400000-q)=s' at*;generalize co q=s at*;generalize tb=w at*;grind
    ·have s:=tP (q:=q-5400000) (by grind) (by grind);have n:=(AJ (q:=q-5400000) (by grind) (by grind)).1;rw [show -(q-5400000)=5400000-q by grind] at n;rw [n] at r;generalize si (q-5400000)=s' at*;generalize co q=s at*;grind
   have m:=aaZ hr0 (show 0≤1/2^34-1/2^36-co q by grind);generalize co q=s at*;grind
 rcases (adJ:0≤p∨p≤0) with c | c
 ·have:=key p c h1 h;exact ⟨by grind,this⟩
 ·have n:=BU p;by_cases hp:p=-10800000
  ·exfalso;have r:=(WJ p).1;have o:=(WJ (-p)).1;subst hp;have k:=key 10800000 (by grind) (by grind) ?_
   ·grind
   ·have t:=(iF (-10800000) 1).1;rw [show ((1:Int):Rat)=1 by rfl,show (-10800000:Rat)+21600000*1=10800000 by grind] at t;rw [t];exact h
  ·have e:=(AJ (q:=p) (by grind) (by grind)).2;have:=key (-p) (by grind) (by grind) (by rw [e];exact h);exact ⟨by grind,by grind⟩
theorem fin_x {a ρ X t w:Rat} (ha:1≤a) (hρ:1/4≤ρ) (ht:0≤t) (hw:0≤w) (h:a*(ρ*X)≤t*(2+2*ρ)+w):X≤10*t+4*w:=by
 rcases (adJ:X≤10*t+4*w∨10*t+4*w≤X) with c | c
 ·exact c
 ·have x0:0≤X:=by grind
  have m1:=aaZ (show 0≤a-1 by grind) (aaZ (show 0≤ρ by grind) x0);have m2:=aaZ (show 0≤ρ-1/4 by grind) (show 0≤X-2*t by grind);grind
theorem big_f:2^100*e0≤e1:=by decide+kernel
theorem cross_B {a b:Rat} {k p ρ t:Rat} (ha:1≤a) (hb:-2147483648≤b∧b≤2147483648) (hk0:-5400000≤k) (hk1:k≤5400000) (hp:-5400000+1/2^13≤p∧p≤5400000-1/2^13) (hr0:0≤ρ) (hr:1/2≤ρ*co p) (ht:0≤t) (ht1:t≤1/2^50) (ha1:a≤2147483648) (hr1:ρ≤8589934592):
  (a*si k≤b*co k+t→b*(ρ*co p)≤a*(ρ*si p)+t→k≤p+8000000*(16*t+e1))∧
  (b*co k≤a*si k+t→a*(ρ*si p)≤b*(ρ*co p)+t→p≤k+8000000*(16*t+e1)):=by
 have u:=cT;have ee:e0=1048576*u0:=rfl;have eb:=eR;have e1b:=iR;have be:=big_f;have ck:=WH (q:=k) (d:=0) hk0 hk1 (by grind) (by grind) (by grind);rw [show tb*0/2-e0=-e0 by grind] at ck;have bk:=iN k;have bp:=iN p;have hρ:1/4≤ρ:=by
  have m:=aaZ hr0 (show 0≤2-co p by grind);generalize co p=c at*;grind
 have hc2:ρ*co p≤2*ρ:=by
  have m:=aaZ hr0 (show 0≤2-co p by grind);grind
 have q1:=aM (a:=ρ) (b:=co p) (A:=8589934592) (B:=2) (by grind) hr1 bp.1.1 bp.1.2;have q2:=aM (a:=ρ) (b:=si p) (A:=8589934592) (B:=2) (by grind) hr1 bp.2.1 bp.2.2;have q3:=aM (a:=b) (b:=ρ*co p) (A:=2147483648) (B:=8589934592*2) hb.1 hb.2 q1.1 q1.2;have q4:=aM (a:=a) (b:=ρ*si p) (A:=2147483648) (B:=8589934592*2) (by grind) ha1 q2.1 q2.2;have q5:=aM (a:=e0) (b:=b*(ρ*co p)-a*(ρ*si p)) (A:=e0) (B:=2^70) (by grind) (by grind) (by grind) (by grind);have s1:=(UI k p).2;have s2:=(UI p k).2;have f1:=fin_x (X:=si k*co p-co k*si p) ha hρ ht (w:=e1/2^20);have f2:=fin_x (X:=si p*co k-co p*si k) ha hρ ht (w:=e1/2^20);have i1:a*(ρ*(si k*co p-co k*si p))=a*si k*(ρ*co p)-a*(ρ*si p)*co k:=by grind
 have i2:a*(ρ*(si p*co k-co p*si k))=a*(ρ*si p)*co k-a*si k*(ρ*co p):=by grind
 rw [i1] at f1;rw [i2] at f2;unfold Cl at s1 s2;have tc:=aaZ ht (show 0≤2*ρ-ρ*co p by grind);have tk:=aaZ ht (show 0≤2-co k by grind);have te:=aaZ ht (show 0≤e0 by grind);have te2:=aaZ (show 0≤1-t by grind) (show 0≤e0 by grind);have w0:0≤e1/2^20:=by grind
 clear q1 q2 q3 q4 i1 i2 bk;constructor
 ·intro g1 g2;rcases (adJ:k≤p∨p≤k) with c | c
  ·grind
  ·have w:=CH (z:=k-p) (t:=16*t+e1/2) (by grind) (by grind) (by grind) ?_
   ·grind
   ·have m1:=aaZ (show 0≤b*co k+t-a*si k by grind) (show 0≤ρ*co p by grind);have m2:=aaZ (show 0≤a*(ρ*si p)+t-b*(ρ*co p) by grind) (show 0≤co k+e0 by grind);have:=f1 (by grind) ?_
    ·generalize si k*co p-co k*si p=X at*;generalize si (k-p)=s at*;grind
    ·generalize a*(ρ*si p)=A at*;generalize a*si k=B at*;generalize ρ*co p=P at*;generalize co k=c at*;grind
 ·intro g1 g2;rcases (adJ:p≤k∨k≤p) with c | c
  ·grind
  ·have w:=CH (z:=p-k) (t:=16*t+e1/2) (by grind) (by grind) (by grind) ?_
   ·grind
   ·have m1:=aaZ (show 0≤a*si k+t-b*co k by grind) (show 0≤ρ*co p by grind);have m2:=aaZ (show 0≤b*(ρ*co p)+t-a*(ρ*si p) by grind) (show 0≤co k+e0 by grind);have:=f2 (by grind) ?_
    ·generalize si p*co k-co p*si k=X at*;generalize si (p-k)=s at*;grind
    ·generalize a*(ρ*si p)=A at*;generalize a*si k=B at*;generalize ρ*co p=P at*;generalize co k=c at*;grind
theorem half_B {y0 y1 x0 x1:Int} {p ρ e:Rat} (hx0:0<x0) (hx:x0≤x1) (hy:y0≤y1) (b0:x1≤2147483648) (b1:-2147483648≤y0) (b2:y1≤2147483648)
  (hp0:-10800000≤p) (hp1:p≤10800000) (hr0:0≤ρ) (hr1:ρ≤8589934592) (he:0≤e) (he1:e≤1/2^90)
  (hX:Hs e x0 x1 (ρ*co p)) (hY:Hs e y0 y1 (ρ*si p)):Hs (2^64*(e+e1)) (yL y0 x0 x1) (KN y1 x0 x1) p:=by
 have u:=cT;have ee:e0=1048576*u0:=rfl;have eb:=eR;have e1b:=iR;have X0:=GJ hx0;have z0:((0:Int):Rat)=0:=rfl;rw [z0] at X0;have X01:=cQ hx;have Y01:=cQ hy;have X1:=cQ b0;have Y0:=cQ b1;have Y1:=cQ b2;have zb:((2147483648:Int):Rat)=2147483648:=rfl;have zc:((-2147483648:Int):Rat)=-2147483648:=rfl;rw [zb] at X1 Y1;rw [zc] at Y0;have hr:1/2≤ρ*co p:=by unfold Hs at hX;grind
 have hp:=pos_co hp0 hp1 hr0 hr1 hr;have t0:0≤8589934592*e+2*e1:=by grind
 have t1:8589934592*e+2*e1≤1/2^50:=by grind
 obtain ⟨X,xa,xb,xc⟩:=hX.clamp he hx;obtain ⟨Y,ya,yb,yc⟩:=hY.clamp he hy;have err:∀a b:Rat,(-2147483648≤a∧a≤2147483648)→(-2147483648≤b∧b≤2147483648)→-(8589934592*e)≤(a*(ρ*si p)-b*(ρ*co p))-(a*Y-b*X)∧(a*(ρ*si p)-b*(ρ*co p))-(a*Y-b*X)≤8589934592*e:=fun a b ha hb=>by
  have m1:=aM ha.1 ha.2 yc.1 yc.2;have m2:=aM hb.1 hb.2 xc.1 xc.2;rw [show (a*(ρ*si p)-b*(ρ*co p))-(a*Y-b*X)=a*(ρ*si p-Y)-b*(ρ*co p-X) by grind];generalize a*(ρ*si p-Y)=v at*;generalize b*(ρ*co p-X)=w at*;constructor<;>grind
 have fin:8000000*(16*(8589934592*e+2*e1)+e1)≤2^64*(e+e1):=by grind
 have lowK:∀a b:Int,CT a b→1≤(a:Rat)→(0≤(a:Rat)*Y-(b:Rat)*X)→(fl a b:Rat)≤p+2^64*(e+e1):=fun a b h ha hc=>by
  have f:=fl_B h;have fb:=rC a b;have A:=DQ (a:=a) (by have:=h;unfold CT at this;omega);have B:=DQ (a:=b) (by have:=h;unfold CT at this;omega);have k0:=cQ fb.1;have k1:=cQ (show fl a b≤5400000 by omega);have z5:((5400000:Int):Rat)=5400000:=rfl;have z6:((-5400000:Int):Rat)=-5400000:=rfl;rw [z5] at k1;rw [z6] at k0;have er:=err a b A B;have c:=(cross_B (a:=(a:Rat)) (b:=(b:Rat)) (k:=(fl a b:Rat)) ha B k0 k1 hp hr0 hr t0 t1 A.2 hr1).1 (by grind) (by grind);grind
 have highK:∀a b:Int,CT a b→1≤(a:Rat)→((a:Rat)*Y-(b:Rat)*X≤0)→p≤(ce a b:Rat)+2^64*(e+e1):=fun a b h ha hc=>by
  have f:=fl_B h;have fb:=rC a b;have A:=DQ (a:=a) (by have:=h;unfold CT at this;omega);have B:=DQ (a:=b) (by have:=h;unfold CT at this;omega);have k0:=cQ (show -5400000≤ce a b by omega);have k1:=cQ fb.2.2.1;have z5:((5400000:Int):Rat)=5400000:=rfl;have z6:((-5400000:Int):Rat)=-5400000:=rfl;rw [z5] at k1;rw [z6] at k0;have er:=err a b A B;have c:=(cross_B (a:=(a:Rat)) (b:=(b:Rat)) (k:=(ce a b:Rat)) ha B k0 k1 hp hr0 hr t0 t1 A.2 hr1).2 (by grind) (by grind);grind
 clear err fin hX hY;unfold Hs;constructor
 ·have:(yL y0 x0 x1:Rat)≤p+2^64*(e+e1):=by
   unfold yL;by_cases h:0≤y0
   ·rw [if_pos h];have h':=cQ h;rw [z0] at h';refine lowK x1 y0 ⟨by omega,b0,by omega,by omega⟩ (by grind) ?_;have m1:=aaZ (show 0≤(x1:Rat) by grind) (show 0≤Y-(y0:Rat) by grind);have m2:=aaZ h' (show 0≤(x1:Rat)-X by grind);grind
   ·rw [if_neg h];have h':=cQ (show y0≤0 by omega);rw [z0] at h';refine lowK x0 y0 ⟨by omega,by omega,by omega,by omega⟩ (by grind) ?_;have m1:=aaZ (show 0≤(x0:Rat) by grind) (show 0≤Y-(y0:Rat) by grind);have m2:=aaZ (show 0≤-(y0:Rat) by grind) (show 0≤X-(x0:Rat) by grind);grind
  grind
 ·unfold KN;by_cases h:0≤y1
  ·rw [if_pos h];have h':=cQ h;rw [z0] at h';refine highK x0 y1 ⟨by omega,by omega,by omega,by omega⟩ (by grind) ?_;have m1:=aaZ (show 0≤(x0:Rat) by grind) (show 0≤(y1:Rat)-Y by grind);have m2:=aaZ h' (show 0≤X-(x0:Rat) by grind);grind
  ·rw [if_neg h];have h':=cQ (show y1≤0 by omega);rw [z0] at h';refine highK x1 y1 ⟨by omega,by omega,by omega,by omega⟩ (by grind) ?_;have m1:=aaZ (show 0≤(x1:Rat) by grind) (show 0≤(y1:Rat)-Y by grind);have m2:=aaZ (show 0≤-(y1:Rat) by grind) (show 0≤(x1:Rat)-X by grind);grind
def Dr (d:Rat) (lo hi:Int) (q:Rat):Prop:=∃m:Int,Hs d lo hi (q+21600000*(m:Rat))
theorem Dr.all {d:Rat} (hd:0≤d) (q:Rat):Dr d 0 21600000 q:=by
 have a:=Rat.floor_le (q/21600000);have b:=Rat.lt_floor_add_one (q/21600000);rw [DP,show ((1:Int):Rat)=1 by rfl] at b;refine ⟨-(q/21600000).floor,?_⟩;rw [afZ];unfold Hs;rw [show ((0:Int):Rat)=0 by rfl,show ((21600000:Int):Rat)=21600000 by rfl];generalize ((q/21600000).floor:Rat)=f at*;constructor<;>grind
theorem bear_B {yl yh xl xh:Int} {q ρ e:Rat} (hvy:aG yl yh=true) (hvx:aG xl xh=true) (hr0:0≤ρ) (hr1:ρ≤8589934592) (he:0≤e) (he1:e≤1/2^91)
  (hY:Hs e yl yh (ρ*si q)) (hX:Hs e xl xh (ρ*co q)):(aQ yl yh xl xh).2.2=0∧Dr (2^64*(e+2*e1)) (aQ yl yh xl xh).1 (aQ yl yh xl xh).2.1 q:=by
 have u:=cT;have ee:e0=1048576*u0:=rfl;have eb:=eR;have e1b:=iR;have be:=big_f;cases ho:cM yl yh xl xh with
 | true=>
  have ev:aQ yl yh xl xh=(0,21600000,0):=by
   unfold aQ;rw [hvy,hvx,ho];simp
  rw [ev];exact ⟨rfl,Dr.all (by grind) q⟩
 | false=>
  obtain ⟨j,hj,hx0⟩:=IF ho;obtain ⟨y0,y1,x0,x1,hr⟩:∃y0 y1 x0 x1,jD yl yh xl xh j=(y0,y1,x0,x1):=⟨_,_,_,_,rfl⟩;rw [hr] at hx0;dsimp only at hx0;have ev:=nH hvx hvy ho hj hr hx0;have vx:=fR hvx;have vy:=fR hvy;have gA:Hs (e+e1) x0 x1 (ρ*co (uU (q-5400000*(j:Rat))))∧Hs (e+e1) y0 y1 (ρ*si (uU (q-5400000*(j:Rat)))):=by
   have t:=iF (q-5400000*(j:Rat)) (-tm (q-5400000*(j:Rat)));have er:(q-5400000*(j:Rat))+21600000*((-tm (q-5400000*(j:Rat)):Int):Rat)=uU (q-5400000*(j:Rat)):=by
    unfold uU;rw [afZ];grind
   rw [er] at t;rw [t.1,t.2];have sc:∀{p r:Rat},Cl (40000*u0) p r→Cl e1 (ρ*p) (ρ*r):=fun {p r} h=>by
    have m:=aM (a:=ρ) (b:=p-r) (A:=8589934592) (B:=40000*u0) (by grind) hr1 h.1 h.2;unfold Cl;rw [show ρ*p-ρ*r=ρ*(p-r) by grind];generalize ρ*(p-r)=w at*;constructor<;>grind
   rcases (show j=0∨j=1∨j=2∨j=3 by omega) with rfl | rfl | rfl | rfl<;>simp only [jD,Prod.mk.injEq] at hr<;>obtain ⟨rfl,rfl,rfl,rfl⟩:=hr
   ·rw [show ((0:Nat):Rat)=0 by rfl,show q-5400000*0=q by grind];exact ⟨hX.wide (by grind) (aeX _) (aeX _),hY.wide (by grind) (aeX _) (aeX _)⟩
   ·rw [show ((1:Nat):Rat)=1 by rfl,show q-5400000*1=q-5400000 by grind];have b:=backq q;have s1:=sc (b.1.wide (f:=40000*u0) (by grind));have s2:=sc (b.2.wide (f:=40000*u0) (by grind));rw [show ρ*-co q=-(ρ*co q) by grind] at s1;exact ⟨hY.near s2,hX.neg.near s1⟩
   ·rw [show ((2:Nat):Rat)=2 by rfl,show q-5400000*2=q-10800000 by grind];have o:=oppq (q-10800000);rw [show q-10800000+10800000=q by grind] at o;have s1:=(sc (o.1.wide (f:=40000*u0) (by grind))).neg.symm;have s2:=(sc (o.2.wide (f:=40000*u0) (by grind))).neg.symm;rw [show -(ρ*-co (q-10800000))=ρ*co (q-10800000) by grind] at s1;rw [show -(ρ*-si (q-10800000))=ρ*si (q-10800000) by grind] at s2;exact ⟨hX.neg.near s1,hY.neg.near s2⟩
   ·have b:=WJ (-q);have n:=BU q;rw [show 5400000- -q=q+5400000 by grind] at b;have t2:=iF (q-5400000*((3:Nat):Rat)) 1;rw [show ((1:Int):Rat)=1 by rfl,show ((3:Nat):Rat)=3 by rfl,show q-5400000*3+21600000*1=q+5400000 by grind] at t2;rw [show ((3:Nat):Rat)=3 by rfl,←t2.1,←t2.2];have s1:=sc ((b.1.trans n.1).wide (f:=40000*u0) (by grind));have s2:=sc ((b.2.trans n.2).wide (f:=40000*u0) (by grind));rw [show ρ*-si q=-(ρ*si q) by grind] at s2;exact ⟨hY.neg.near s2,hX.near s1⟩
  have hbd:x0≤x1∧y0≤y1∧x1≤2147483648∧-2147483648≤y0∧y1≤2147483648:=by
   rcases (show j=0∨j=1∨j=2∨j=3 by omega) with rfl | rfl | rfl | rfl<;>simp only [jD,Prod.mk.injEq] at hr<;>omega
  have rb:=AC (q-5400000*(j:Rat));have h:=half_B hx0 hbd.1 hbd.2.1 hbd.2.2.1 hbd.2.2.2.1 hbd.2.2.2.2 rb.1 (by grind) hr0 hr1 (e:=e+e1) (by grind) (by grind) gA.1 gA.2;rw [ev];refine ⟨rfl,?_⟩;obtain ⟨k,hk⟩:∃k:Int,(yL y0 x0 x1+5400000*(j:Int))%21600000=yL y0 x0 x1+5400000*(j:Int)-21600000*k:=⟨(yL y0 x0 x1+5400000*(j:Int))/21600000,by omega⟩;refine ⟨-tm (q-5400000*(j:Rat))-k,?_⟩;dsimp only;rw [hk];unfold Hs at h ⊢;have ej:((j:Int):Rat)=(j:Rat):=rfl;rw [adQ,acZ,adQ,abJ,abJ,ej,acZ,acZ,afZ,show ((5400000:Int):Rat)=5400000 by rfl,show ((21600000:Int):Rat)=21600000 by rfl];have er:uU (q-5400000*(j:Rat))=q-5400000*(j:Rat)-21600000*(tm (q-5400000*(j:Rat)):Rat):=rfl;rw [er] at h;generalize (tm (q-5400000*(j:Rat)):Rat)=M at*;generalize (yL y0 x0 x1:Rat)=A at*;generalize (KN y1 x0 x1:Rat)=B at*;clear gA ev rb;constructor<;>grind
end TB
end
section
open SM Ev TB TA
theorem LC (e:Int):bJ 0 e=e:=rfl
theorem bV {a b:Int} (h:mD a b=true):aF a b=true∧-5400000≤a∧a≤b∧b≤5400000:=by
 unfold mD at h;simp only [Bool.and_eq_true,decide_eq_true_eq] at h;have:=dG h.1;exact ⟨h.1,by omega,by omega,by omega⟩
theorem eB {a b c d e f:Int} (h:cS a b c d e f=true):mD a b=true∧mD c d=true∧aF e f=true:=by
 unfold cS at h;simp only [Bool.and_eq_true] at h;exact ⟨h.1,h.2.1,h.2.2⟩
theorem lat_mk {a b:Int} (h1:-5400000≤a) (h2:a≤b) (h3:b≤5400000):mD a b=true:=by
 unfold mD;rw [bE (by omega) h2 (by omega)];simp;omega
theorem sD {a b c d:Int} (h1:-100000000≤a) (h2:a≤b) (h3:b≤100000000) (h4:-100000000≤c) (h5:c≤d) (h6:d≤100000000):
  jW a b c d=(a-d,b-c,0):=by
 unfold jW;rw [if_pos ⟨bE (by omega) h2 (by omega),bE (by omega) h5 (by omega)⟩];unfold uP pZ;simp;omega
def fJ (r:Int×Int×Int):Prop:=-1073741824≤r.1∧r.1≤r.2.1∧r.2.1≤1073741824∧r.2.2=0
theorem fJ.val {r:Int×Int×Int} (h:fJ r):aG r.1 r.2.1=true:=dH (by have:=h.1;omega) h.2.1 (by have:=h.2.2.1;omega)
theorem bG {a b:Int} (h:aF a b=true):fJ (aW a b):=(kD h).1
theorem aU {a b:Int} (h:aF a b=true):fJ (aN a b):=(kD h).2.1
theorem sR {a b:Int} (h:aF a b=true):fJ (eJ a b):=by
 have:=(kD h).2.2;exact ⟨by omega,this.2.1,this.2.2.1,this.2.2.2⟩
theorem aR {r s:Int×Int×Int} (h:fJ r) (k:fJ s):fJ (bT r.1 r.2.1 s.1 s.2.1):=by
 have m:=mul_one h.1 h.2.1 h.2.2.1 k.1 k.2.1 k.2.2.1;exact ⟨m.2.1,m.2.2.1,m.2.2.2,m.1⟩
theorem BT {r:Int×Int×Int} (h:fJ r):mK r.1 r.2.1=(-r.2.1,-r.1,0)∧fJ (mK r.1 r.2.1):=by
 have e:mK r.1 r.2.1=(-r.2.1,-r.1,0):=by unfold mK;rw [if_pos h.val]
 refine ⟨e,?_⟩;rw [e];obtain ⟨h1,h2,h3,h4⟩:=h;exact ⟨by dsimp only;omega,by dsimp only;omega,by dsimp only;omega,rfl⟩
theorem uX {r s:Int×Int×Int} (h:fJ r) (k:fJ s):fS r.1 r.2.1 s.1 s.2.1=(r.1+s.1,r.2.1+s.2.1,0)∧aG (r.1+s.1) (r.2.1+s.2.1)=true:=by
 have hv:=h.val;have kv:=k.val;obtain ⟨h1,h2,h3,h4⟩:=h;obtain ⟨k1,k2,k3,k4⟩:=k;have v:aG (r.1+s.1) (r.2.1+s.2.1)=true:=dH (by omega) (by omega) (by omega);refine ⟨?_,v⟩;unfold fS;rw [if_pos (iC hv kv)];exact KH v
theorem CJ {r s:Int×Int×Int} (h:fJ r) (k:fJ s):mQ r.1 r.2.1 s.1 s.2.1=(r.1-s.2.1,r.2.1-s.1,0)∧aG (r.1-s.2.1) (r.2.1-s.1)=true:=by
 have hv:=h.val;have kv:=k.val;obtain ⟨h1,h2,h3,h4⟩:=h;obtain ⟨k1,k2,k3,k4⟩:=k;have v:aG (r.1-s.2.1) (r.2.1-s.1)=true:=dH (by omega) (by omega) (by omega);refine ⟨?_,v⟩;unfold mQ;rw [if_pos (iC hv kv)];exact KH v
def xZ (r:Int×Int×Int):Prop:=-5400000≤r.1∧r.1≤r.2.1∧r.2.1≤5400000∧r.2.2=0
theorem xZ.val {r:Int×Int×Int} (h:xZ r):aF r.1 r.2.1=true:=bE (by have:=h.1;omega) h.2.1 (by have:=h.2.2.1;omega)
theorem VL {r:Int×Int×Int} (hv:aG r.1 r.2.1=true) (e:(aV r.1 r.2.1).2.2=0):xZ (aV r.1 r.2.1):=by
 have b:=JJ r.1 r.2.1;obtain ⟨_,_,w1,w2,w3⟩:=asin_grow (c:=r.1) (d:=r.2.1) hv e (aeX _) (aeX _);exact ⟨by omega,w2,by omega,e⟩
theorem VM {r:Int×Int×Int} (h:fJ r):xZ (aV r.1 r.2.1):=by
 refine VL h.val ?_;obtain ⟨h1,h2,h3,h4⟩:=h;unfold aV;rw [dH (by omega) h2 (by omega)];simp only [Bool.true_eq_false,if_false];rw [if_pos (by omega)]
def qT (r:Int×Int×Int):Prop:=0≤r.1∧r.1≤r.2.1∧r.1<21600000∧r.2.1≤r.1+21600000∧r.2.2=0
theorem jJ {a b c d:Int} (h:aG a b=true) (k:aG c d=true):qT (aQ a b c d):=by
 obtain ⟨p,q,e,h1,h2,h3,h4⟩:=bear_fit h k;rw [e];exact ⟨h1,h3,h2,h4,rfl⟩
theorem CX {a b c d:Int} (h:aG a b=true) (k:aG c d=true):((aQ a b c d).1=0∧(aQ a b c d).2.1=21600000)∨(aQ a b c d).2.1<(aQ a b c d).1+21600000:=by
 cases ho:cM a b c d with
 | true=>
  left;rw [VR k h ho];exact ⟨rfl,rfl⟩
 | false=>
  right;obtain ⟨j,hj,hx0⟩:=IF ho;obtain ⟨A,B,_,_,e,b1,b2,b3⟩:=VP k h ho hj hx0;rw [e];dsimp only;omega
theorem qT.val {r:Int×Int×Int} (h:qT r):aF r.1 r.2.1=true:=by
 obtain ⟨h1,h2,h3,h4,h5⟩:=h;exact bE (by omega) h2 (by omega)
def Vl (r:Int×Int×Int) (e:Rat) (X:Rat):Prop:=r.2.2=0∧aG r.1 r.2.1=true∧Hs e r.1 r.2.1 (1073741824*X)
theorem Vl.wide {r:Int×Int×Int} {e f X:Rat} (h:Vl r e X) (k:e≤f):Vl r f X:=⟨h.1,h.2.1,h.2.2.wide k (aeX _) (aeX _)⟩
theorem Vl.near {r:Int×Int×Int} {e t X Y:Rat} (h:Vl r e X) (k:Cl t Y X):Vl r (e+1073741824*t) Y:=by
 refine ⟨h.1,h.2.1,h.2.2.near ?_⟩;unfold Cl at*;constructor<;>grind
theorem sin_v {a b:Int} {d q:Rat} (hv:aF a b=true) (hd:0≤d) (hd1:d≤1) (h:Hs d a b q):Vl (aW a b) (2000*d+5*e1) (si q):=
 ⟨(bG hv).2.2.2,(bG hv).val,(sin_B hv hd hd1 h).wide (by have:=iR;grind) (aeX _) (aeX _)⟩
theorem cos_v {a b:Int} {d q:Rat} (hv:aF a b=true) (hd:0≤d) (hd1:d≤1) (h:Hs d a b q):Vl (aN a b) (2000*d+5*e1) (co q):=
 ⟨(aU hv).2.2.2,(aU hv).val,cos_B hv hd hd1 h⟩
theorem jK {r s:Int×Int×Int} {e X Y:Rat} (h:fJ r) (k:fJ s) (he:0≤e) (he1:e≤1/4) (h':Vl r e X) (k':Vl s e Y):Vl (bT r.1 r.2.1 s.1 s.2.1) (3*e) (X*Y):=by
 have m:=aR h k;have b:=mul_B he he1 h'.2.2 k'.2.2 h.2.1 k.2.1 h.1 h.2.2.1 k.1 k.2.2.1;rw [show 1073741824*X*(1073741824*Y)/1073741824=1073741824*(X*Y) by grind] at b;exact ⟨m.2.2.2,m.val,b⟩
theorem add_v {r s:Int×Int×Int} {e f X Y:Rat} (h:fJ r) (k:fJ s) (h':Vl r e X) (k':Vl s f Y):Vl (fS r.1 r.2.1 s.1 s.2.1) (e+f) (X+Y):=by
 obtain ⟨ev,v⟩:=uX h k;have b:=h'.2.2.add k'.2.2;rw [ev];exact ⟨rfl,v,by rw [show 1073741824*(X+Y)=1073741824*X+1073741824*Y by grind];exact b⟩
theorem sub_v {r s:Int×Int×Int} {e f X Y:Rat} (h:fJ r) (k:fJ s) (h':Vl r e X) (k':Vl s f Y):Vl (mQ r.1 r.2.1 s.1 s.2.1) (e+f) (X-Y):=by
 obtain ⟨ev,v⟩:=CJ h k;have b:=h'.2.2.sub k'.2.2;rw [ev];exact ⟨rfl,v,by rw [show 1073741824*(X-Y)=1073741824*X-1073741824*Y by grind];exact b⟩
theorem neg_v {r:Int×Int×Int} {e X:Rat} (h:fJ r) (h':Vl r e X):Vl (mK r.1 r.2.1) e (-X):=by
 have n:=BT h;rw [n.1];rw [n.1] at n;refine ⟨rfl,n.2.val,?_⟩;rw [show 1073741824*-X=-(1073741824*X) by grind];exact h'.2.2.neg
theorem RH {r:Int×Int×Int} {e t d q X:Rat} (h:Vl r e X) (hq:Cl t (si q) X) (q0:-5400000≤q) (q1:q≤5400000) (he:0≤e) (ht:0≤t) (hd0:0≤d) (hs:e+1073741824*t≤1/4) (hd:100000*(e+1073741824*t+4*e1)≤d*d):
  xZ (aV r.1 r.2.1)∧Hs d (aV r.1 r.2.1).1 (aV r.1 r.2.1).2.1 q:=by
 have k:=(h.near hq).2.2;have z:1073741824*si q=Sq q:=rfl;rw [z] at k;have ok:=asin_has h.2.1 (show 0≤e+1073741824*t by grind) hs k;exact ⟨VL h.2.1 ok,asin_B h.2.1 ok q0 q1 (by grind) k hd0 hd⟩
theorem CY {r s:Int×Int×Int} {e t q ρ X Y:Rat} (h:Vl r e Y) (k:Vl s e X) (hy:Cl t (ρ*si q) Y) (hx:Cl t (ρ*co q) X) (hr0:0≤ρ) (hr1:ρ≤4) (he:0≤e) (ht:0≤t) (hs:e+1073741824*t≤1/2^91):
  qT (aQ r.1 r.2.1 s.1 s.2.1)∧Dr (2^64*(e+1073741824*t+2*e1)) (aQ r.1 r.2.1 s.1 s.2.1).1 (aQ r.1 r.2.1 s.1 s.2.1).2.1 q:=by
 have h1:=(h.near hy).2.2;have k1:=(k.near hx).2.2;rw [show 1073741824*(ρ*si q)=1073741824*ρ*si q by grind] at h1;rw [show 1073741824*(ρ*co q)=1073741824*ρ*co q by grind] at k1;exact ⟨jJ h.2.1 k.2.1,(bear_B (ρ:=1073741824*ρ) h.2.1 k.2.1 (by grind) (by grind) (by grind) hs h1 k1).2⟩
theorem TB.Dr.wide {d d':Rat} {lo hi:Int} {q:Rat} (h:Dr d lo hi q) (hd:d≤d'):Dr d' lo hi q:=by
 obtain ⟨m,h⟩:=h;exact ⟨m,h.wide hd (aeX _) (aeX _)⟩
namespace TB
def yE (x y t:Rat):Rat:=si x*si y+co x*co y*co t
def yC (x y t:Rat):Rat:=si y*co x-co y*co t*si x
def IA (y t:Rat):Rat:=-(co y*si t)
theorem sphere (x y t:Rat):Cl (e0/2) (yE x y t*yE x y t+(yC x y t*yC x y t+IA y t*IA y t)) 1:=by
 have ee:e0=1048576*u0:=rfl;have u:=cT;have a:=EM x;have b:=EM y;have c:=EM t;have by2:=iN y;have bt2:=iN t;have i:yE x y t*yE x y t+yC x y t*yC x y t=(co x*co x+si x*si x)*(si y*si y+co y*co t*(co y*co t)):=by unfold yE yC;grind
 have m0:=aM by2.1.1 by2.1.2 bt2.1.1 bt2.1.2;have m1:=aM by2.2.1 by2.2.2 by2.2.1 by2.2.2;have m2:=aM m0.1 m0.2 m0.1 m0.2;have m5:=aM by2.1.1 by2.1.2 by2.1.1 by2.1.2;generalize hA:co x*co x+si x*si x=A at*;have j:IA y t*IA y t=co y*co y*(co t*co t+si t*si t)-co y*co t*(co y*co t):=by unfold IA;grind
 generalize hC:co t*co t+si t*si t=C at*;have p1:=aM (a:=A-1) (b:=si y*si y+co y*co t*(co y*co t)) (A:=8192*u0) (B:=32) a.1 a.2 (by grind) (by grind);have p2:=aM (a:=C-1) (b:=co y*co y) (A:=8192*u0) (B:=4) c.1 c.2 (by grind) (by grind);unfold Cl at*;have s:yE x y t*yE x y t+(yC x y t*yC x y t+IA y t*IA y t)-1=(A-1)*(si y*si y+co y*co t*(co y*co t))+(C-1)*(co y*co y)+(co y*co y+si y*si y-1):=by
  rw [show yE x y t*yE x y t+(yC x y t*yC x y t+IA y t*IA y t)-1=(yE x y t*yE x y t+yC x y t*yC x y t)+IA y t*IA y t-1 by grind,i,j];grind
 rw [s];generalize (A-1)*(si y*si y+co y*co t*(co y*co t))=v1 at*;generalize (C-1)*(co y*co y)=v2 at*;generalize co y*co y+si y*si y=v3 at*;constructor<;>grind
def eT:Rat:=pw 606
def eF:Rat:=pw 1245
def eG:Rat:=pw 618
def eC:Rat:=pw 612
def cC:Rat:=((2^612:Nat):Rat)
theorem e_tab:e0≤eF∧eF≤1/1000∧eF≤eG∧100*eF≤eG*eG∧40*e0*(cC*cC)≤2*eF∧8*eG≤eT∧32*eF≤eT∧0<eC∧eC*cC=1∧16*eC≤eT∧40*e0≤eC*eC∧100*e0≤eT∧0≤cC∧e0≤eC:=by decide+kernel
theorem aim {ρ X Y:Rat} (h0:-e0≤ρ) (h1:ρ≤2) (h:Cl (40*e0) (X*X+Y*Y) (ρ*ρ)):∃z:Rat,-10800000≤z∧z≤16200000∧Cl eT (ρ*co z) X∧Cl eT (ρ*si z) Y:=by
 obtain ⟨t1,t2,t3,t4,t5,t6,t7,t8,t9,t10,t11,t12,t13,t14⟩:=e_tab;have eb:=eR;rcases (adJ:eC≤ρ∨ρ≤eC) with c | c
 ·obtain ⟨i,hi⟩:∃i:Rat,i*ρ=1:=⟨ρ⁻¹,Rat.inv_mul_cancel ρ (by grind)⟩;have i0:0≤i:=by
   rcases (adJ:0≤i∨i≤0) with q | q
   ·exact q
   ·have:=aaZ (show 0≤-i by grind) (show 0≤ρ by grind);grind
  have i1:i≤cC:=by
   have m:=aaZ i0 (show 0≤ρ-eC by grind);have m2:i*eC≤1:=by grind
   have m3:=aaZ (show (0:Rat)≤cC by exact t13) (show 0≤1-i*eC by grind);have m4:cC*(1-i*eC)=cC-i*(eC*cC):=by grind
   rw [t9] at m4;clear t5;grind
  have hu:Cl (2*eF) (i*X*(i*X)+i*Y*(i*Y)) 1:=by
   have m:=aM (a:=i) (b:=i) (A:=cC) (B:=cC) (by grind) i1 (by grind) i1;have m2:=aM (a:=X*X+Y*Y-ρ*ρ) (b:=i*i) (A:=40*e0) (B:=cC*cC) h.1 h.2 m.1 m.2;have e:i*X*(i*X)+i*Y*(i*Y)-1=(X*X+Y*Y-ρ*ρ)*(i*i):=by
    have:i*i*(ρ*ρ)=1:=by
     rw [show i*i*(ρ*ρ)=(i*ρ)*(i*ρ) by grind,hi];grind
    grind
   unfold Cl;rw [e];generalize (X*X+Y*Y-ρ*ρ)*(i*i)=v at*;generalize cC*cC=w at*;constructor<;>grind
  obtain ⟨z,z0,z1,zc,zs⟩:=dir t1 t2 t3 t4 hu;refine ⟨z,z0,z1,?_,?_⟩
  ·have m:=aM (a:=ρ) (b:=co z-i*X) (A:=2) (B:=2*eG) (by grind) h1 zc.1 zc.2;have e:ρ*co z-X=ρ*(co z-i*X):=by
    have:ρ*(i*X)=X:=by rw [show ρ*(i*X)=(i*ρ)*X by grind,hi];grind
    grind
   unfold Cl;rw [e];generalize ρ*(co z-i*X)=v at*;constructor<;>grind
  ·have m:=aM (a:=ρ) (b:=si z-i*Y) (A:=2) (B:=8*eF) (by grind) h1 zs.1 zs.2;have e:ρ*si z-Y=ρ*(si z-i*Y):=by
    have:ρ*(i*Y)=Y:=by rw [show ρ*(i*Y)=(i*ρ)*Y by grind,hi];grind
    grind
   unfold Cl;rw [e];generalize ρ*(si z-i*Y)=v at*;constructor<;>grind
 ·have sX:=lK X;have sY:=lK Y;have r2:ρ*ρ≤eC*eC:=by
   have:=aaZ (show 0≤eC-ρ by grind) (show 0≤eC+ρ by grind);grind
  unfold Cl at h;have bX:=kH (z:=X) (f:=2*eC) (e:=4*(eC*eC)) (by grind) (by grind) (by grind);have bY:=kH (z:=Y) (f:=2*eC) (e:=4*(eC*eC)) (by grind) (by grind) (by grind);refine ⟨0,by grind,by grind,?_,?_⟩
  ·rw [co_0];unfold Cl;constructor<;>grind
  ·rw [si_0];unfold Cl;constructor<;>grind
theorem tri3 {A N E:Rat} (s:Cl (e0/2) (A*A+(N*N+E*E)) 1):∃h z:Rat,-5400000≤h∧h≤5400000∧-10800000≤z∧z≤16200000∧Cl (5*e0) (si h) A∧Cl eT (co h*co z) N∧Cl eT (co h*si z) E:=by
 have eb:=eR;have ee:e0=1048576*u0:=rfl;have u:=cT;have n2:=lK N;have e2:=lK E;have hy:=II (z:=A) (e:=e0/2) (by grind) (by unfold Cl at s;grind);obtain ⟨y',y0,y1,yc⟩:∃y':Rat,-1≤y'∧y'≤1∧Cl (e0/2) y' A:=by
  rcases (adJ:A≤1∨1≤A) with h | h
  ·rcases (adJ:-1≤A∨A≤-1) with k | k
   ·exact ⟨A,k,h,Cl.refl _ (by grind)⟩
   ·exact ⟨-1,by grind,by grind,by unfold Cl;constructor<;>grind⟩
  ·exact ⟨1,by grind,by grind,by unfold Cl;constructor<;>grind⟩
 obtain ⟨h,h0,h1,hs⟩:=inv y0 y1;have qy:Cl (5*e0) (si h) A:=(hs.trans yc).wide (by grind);have c:=WH (q:=h) (d:=0) h0 h1 (by grind) (by grind) (by grind);rw [show tb*0/2-e0=-e0 by grind] at c;have b:=iN h;have un:=EM h;have m:=Cl.mul 2 3 qy qy b.2 (by constructor<;>grind);have d:Cl (40*e0) (N*N+E*E) (co h*co h):=by
  unfold Cl at*;generalize co h*co h=z1 at*;generalize si h*si h=z2 at*;generalize A*A=z3 at*;generalize N*N=z4 at*;generalize E*E=z5 at*;constructor<;>grind
 obtain ⟨z,z0,z1,zc,zs⟩:=aim c b.1.2 d;exact ⟨h,z,h0,h1,z0,z1,qy,zc,zs⟩
theorem truth (x y t:Rat):∃h z:Rat,-5400000≤h∧h≤5400000∧-10800000≤z∧z≤16200000∧Cl (5*e0) (si h) (yE x y t)∧Cl eT (co h*co z) (yC x y t)∧Cl eT (co h*si z) (IA y t):=tri3 (sphere x y t)
theorem rD (y t:Rat):∃r k:Rat,-5400000≤r∧r≤5400000∧-10800000≤k∧k≤16200000∧Cl (5*e0) (si r) (co y*si t)∧Cl eT (co r*co k) (co y*co t)∧Cl eT (co r*si k) (si y):=by
 refine tri3 ?_;have ee:e0=1048576*u0:=rfl;have u:=cT;have b:=EM y;have c:=EM t;have by2:=iN y;have m5:=aM by2.1.1 by2.1.2 by2.1.1 by2.1.2;have p:=aM (a:=co t*co t+si t*si t-1) (b:=co y*co y) (A:=8192*u0) (B:=4) c.1 c.2 (by grind) (by grind);unfold Cl at*;rw [show co y*si t*(co y*si t)+(co y*co t*(co y*co t)+si y*si y)-1=(co t*co t+si t*si t-1)*(co y*co y)+(co y*co y+si y*si y-1) by grind];generalize (co t*co t+si t*si t-1)*(co y*co y)=v at*;generalize co y*co y+si y*si y=w at*;constructor<;>grind
end TB
end
section
open SM TB TA
open Ev (lt bJ)
def sA (x y t h z:Rat):Prop:=-5400000≤h∧h≤5400000∧-10800000≤z∧z≤16200000∧Cl (5*e0) (si h) (yE x y t)∧Cl eT (co h*co z) (yC x y t)∧Cl eT (co h*si z) (IA y t)
def dS:Rat:=pw 230
theorem lv:0<e1∧0<eT∧0<dS∧1000*e1+1073741824*(100*eT)≤1/2^91∧100000*(1000*e1+1073741824*(100*eT)+4*e1)≤pw 275*pw 275∧0≤pw 275∧pw 275≤dS∧2^64*(1000*e1+1073741824*(100*eT)+2*e1)≤dS∧1000*e1+1073741824*(100*eT)≤1/4∧5*e0≤eT∧1000*e1≤1/4:=by decide+kernel
theorem TB.Hs.at {a b x:Int} (h1:a≤x) (h2:x≤b):Hs 0 a b (x:Rat):=Hs.int (by grind) h1 h2
theorem pR {a b:Int} {x:Rat} (hv:aF a b=true) (h:Hs 0 a b x):Vl (aW a b) (5*e1) (si x):=(sin_v hv (by grind) (by grind) h).wide (by grind)
theorem mG {a b:Int} {x:Rat} (hv:aF a b=true) (h:Hs 0 a b x):Vl (aN a b) (5*e1) (co x):=(cos_v hv (by grind) (by grind) h).wide (by grind)
structure Hold (a b c d e f:Int) (H Z:Int×Int×Int):Prop where
 lat:xZ H
 dir:qT Z
 form:(Z.1=0∧Z.2.1=21600000)∨Z.2.1<Z.1+21600000
 up:∀x y t:Rat,Hs 0 a b x→Hs 0 c d y→Hs 0 e f t→∀h z:Rat,sA x y t h z→Hs dS H.1 H.2.1 h
 az:∀x y t:Rat,Hs 0 a b x→Hs 0 c d y→Hs 0 e f t→∀h z:Rat,sA x y t h z→Dr dS Z.1 Z.2.1 z
theorem sees (x y t:Rat):∃h z,sA x y t h z:=truth x y t
theorem sJ {h:Rat} (h0:-5400000≤h) (h1:h≤5400000):-e0≤co h∧co h≤2:=by
 have c:=WH (q:=h) (d:=0) h0 h1 (by grind) (by grind) (by grind);rw [show tb*0/2-e0=-e0 by grind] at c;exact ⟨c,(iN h).1.2⟩
theorem IH {ρ z N E:Rat} (h0:-e0≤ρ) (h1:ρ≤2) (hn:Cl eT (ρ*co z) N) (he:Cl eT (ρ*si z) E):∃r:Rat,0≤r∧r≤2∧Cl (2*eT) (r*co z) N∧Cl (2*eT) (r*si z) E:=by
 have b:=iN z;have w:=lv.2.2.2.2.2.2.2.2.2.1;have eb:=eR;rcases (adJ:0≤ρ∨ρ≤0) with c | c
 ·exact ⟨ρ,c,h1,hn.wide (by grind),he.wide (by grind)⟩
 ·refine ⟨0,by grind,by grind,?_,?_⟩
  ·have m:=aM (a:=ρ) (b:=co z) (A:=e0) (B:=2) h0 (by grind) b.1.1 b.1.2;unfold Cl at*;constructor<;>grind
  ·have m:=aM (a:=ρ) (b:=si z) (A:=e0) (B:=2) h0 (by grind) b.2.1 b.2.2;unfold Cl at*;constructor<;>grind
theorem up_v {r:Int×Int×Int} {x y t h z:Rat} (v:Vl r (1000*e1) (yE x y t)) (s:sA x y t h z):xZ (aV r.1 r.2.1)∧Hs dS (aV r.1 r.2.1).1 (aV r.1 r.2.1).2.1 h:=by
 obtain ⟨w1,w2,w3,w4,w5,w6,w7,w8,w9,w10,w11⟩:=lv;obtain ⟨h0,h1,z0,z1,k1,k2,k3⟩:=s;have eb:=eR;have k:=RH v (k1.wide (f:=100*eT) (by grind)) h0 h1 (by grind) (by grind) w6 w9 w5;exact ⟨k.1,k.2.wide w7 (aeX _) (aeX _)⟩
theorem az_v {r s:Int×Int×Int} {x y t h z:Rat} (v:Vl r (1000*e1) (IA y t)) (w:Vl s (1000*e1) (yC x y t)) (se:sA x y t h z):qT (aQ r.1 r.2.1 s.1 s.2.1)∧Dr dS (aQ r.1 r.2.1 s.1 s.2.1).1 (aQ r.1 r.2.1 s.1 s.2.1).2.1 z:=by
 obtain ⟨w1,w2,w3,w4,w5,w6,w7,w8,w9,w10,w11⟩:=lv;obtain ⟨h0,h1,z0,z1,k1,k2,k3⟩:=se;have cl:=sJ h0 h1;obtain ⟨r',r0,r1,rn,re⟩:=IH cl.1 cl.2 k2 k3;have k:=CY v w (re.wide (f:=100*eT) (by grind)) (rn.wide (f:=100*eT) (by grind)) r0 (by grind) (by grind) (by grind) w4;exact ⟨k.1,k.2.wide w8⟩
theorem xY {a b c d e f:Int} (h:cS a b c d e f=true):Hs 0 a b (a:Rat)∧Hs 0 c d (c:Rat)∧Hs 0 e f (e:Rat):=by
 obtain ⟨h1,h2,h3⟩:=eB h;have l1:=bV h1;have l2:=bV h2;have l3:=dG h3;exact ⟨Hs.at (aeX a) (by omega),Hs.at (aeX c) (by omega),Hs.at (aeX e) (by omega)⟩
end
section
open SM TB TA
def sbs (n:Nat):Nat→Nat→Nat→Nat
 | 0,low,_=>low
 | k+1,low,high=>if high-low≤1 then low else if ((low+high)/2)*((low+high)/2)≤n then sbs n k ((low+high)/2) high else sbs n k low ((low+high)/2)
theorem MP (n:Nat):∀k l h,l<h→h-l≤2^k→l*l≤n→n<h*h→sbs n k l h*sbs n k l h≤n∧n<(sbs n k l h+1)*(sbs n k l h+1)
 | 0,l,h,h1,h2,h3,h4=>by
  have:h=l+1:=by omega
  subst this;exact ⟨h3,h4⟩
 | k+1,l,h,h1,h2,h3,h4=>by
  rw [akJ] at h2;unfold sbs;split
  ·rename_i c;have:h=l+1:=by omega
   subst this;exact ⟨h3,h4⟩
  ·split
   ·rename_i c d;exact MP n k _ h (by omega) (by omega) d h4
   ·rename_i c d;exact MP n k l _ (by omega) (by omega) h3 (by omega)
def kV (n:Int):Int:=((sbs n.toNat 32 0 4294967296:Nat):Int)
def FG (n:Int):Int:=if kV n*kV n<n then kV n+1 else kV n
theorem wC {n:Int} (h0:0≤n) (h1:n<18446744073709551616):0≤kV n∧kV n*kV n≤n∧n<(kV n+1)*(kV n+1):=by
 have k:=MP n.toNat 32 0 4294967296 (by omega) (by decide) (by omega) (by omega);have a:=Int.ofNat_le.2 k.1;have b:=Int.ofNat_lt.2 k.2;have e:((n.toNat:Nat):Int)=n:=ahX h0;rw [e,aiQ] at a;rw [e,aiQ] at b;unfold kV;exact ⟨by omega,a,by simpa using b⟩
theorem SH {n:Int} (h0:0≤n) (h1:n<18446744073709551616):kV n≤FG n∧n≤FG n*FG n∧(FG n=kV n∨FG n=kV n+1):=by
 have r:=wC h0 h1;unfold FG;split
 ·exact ⟨by omega,by omega,.inr rfl⟩
 ·exact ⟨by omega,by omega,.inl rfl⟩
theorem sq_le {x m:Int} (h0:0≤x) (h1:x≤m):0≤x*x∧x*x≤m*m:=⟨aeZ h0 h0,aiX h1 h1 h0 (by omega)⟩
theorem lt_sq {x y:Int} (_hx:0≤x) (h:x*x<y*y) (hy:0≤y):x<y:=by
 rcases akZ x y with q | q
 ·exact q
 ·have:=sq_le hy q;omega
theorem irt_mono {m n:Int} (h0:0≤m) (h:m≤n) (h1:n<18446744073709551616):kV m≤kV n∧FG m≤FG n:=by
 have a:=wC h0 (by omega);have b:=wC (n:=n) (by omega) h1;have c:=SH h0 (by omega);have d:=SH (n:=n) (by omega) h1;have le:kV m≤kV n:=by
  have:=lt_sq (x:=kV m) (y:=kV n+1) a.1 (by omega) (by omega);omega
 refine ⟨le,?_⟩;rcases akZ (FG n) (FG m) with q | q
 ·exfalso;rcases c.2.2 with k | k
  ·omega
  ·have:FG n≤kV m:=by omega
   have s:=sq_le (x:=FG n) (m:=kV m) (by omega) this;have:kV m*kV m=m:=by omega
   unfold FG at k;rw [if_neg (by omega)] at k;omega
 ·exact q
def EH (a b:Int):Int:=if a≤0∧0≤b then 0 else min (a*a) (b*b)
def AL (a b:Int):Int:=max (a*a) (b*b)
def bF (a b:Int):Int×Int×Int:=if aG a b=true then kN (EH a b/1073741824) (-(-AL a b/1073741824)) else (0,0,1)
def rT (a b:Int):Int×Int×Int:=if aG a b=true then if b<0 then (0,0,2) else kN (kV (max 0 a*1073741824)) (FG (b*1073741824)) else (0,0,1)
theorem uW {x m:Int} (h0:-m≤x) (h1:x≤m):0≤x*x∧x*x≤m*m:=by
 rcases Int.le_total 0 x with h | h
 ·exact sq_le h h1
 ·have:=sq_le (x:=-x) (m:=m) (by omega) (by omega);rw [Int.neg_mul_neg] at this;exact this
theorem sqr_int {a b:Int} (h:aG a b=true):0≤EH a b∧EH a b≤AL a b∧AL a b≤4611686018427387904:=by
 have v:=fR h;have p:=uW (x:=a) (m:=2147483648) (by omega) (by omega);have q:=uW (x:=b) (m:=2147483648) (by omega) (by omega);unfold EH AL;split<;>omega
theorem iM {r:Int×Int×Int} (h:fJ r):bF r.1 r.2.1=(EH r.1 r.2.1/1073741824,-(-AL r.1 r.2.1/1073741824),0)∧fJ (bF r.1 r.2.1)∧0≤(bF r.1 r.2.1).1:=by
 obtain ⟨h1,h2,h3,h4⟩:=h;have hv:aG r.1 r.2.1=true:=dH (by omega) h2 (by omega);have p:=uW (x:=r.1) (m:=1073741824) (by omega) (by omega);have q:=uW (x:=r.2.1) (m:=1073741824) (by omega) (by omega);have i:=sqr_int hv;have j:AL r.1 r.2.1≤1152921504606846976:=by unfold AL;omega
 have e:bF r.1 r.2.1=(EH r.1 r.2.1/1073741824,-(-AL r.1 r.2.1/1073741824),0):=by
  unfold bF kN;rw [if_pos hv,if_pos (dH (by omega) (by omega) (by omega))]
 rw [e];unfold fJ;dsimp only;exact ⟨rfl,⟨by omega,by omega,by omega,rfl⟩,by omega⟩
theorem sqr_v {r:Int×Int×Int} {e X:Rat} (h:fJ r) (he:0≤e) (he1:e≤1/4) (h':Vl r e X):Vl (bF r.1 r.2.1) (3*e) (X*X):=by
 have k:=iM h;obtain ⟨h1,h2,h3,h4⟩:=h;refine ⟨k.2.1.2.2.2,k.2.1.val,?_⟩;rw [k.1];dsimp only;obtain ⟨Y,y0,y1,y2⟩:=Hs.clamp he h'.2.2 h2;generalize r.1=a at*;generalize r.2.1=b at*;have fl:=ID (EH a b);have fh:=ID (-AL a b);rw [afZ] at fh;have lo:((EH a b:Int):Rat)≤Y*Y:=by
  unfold EH;split
  ·rw [show ((0:Int):Rat)=0 by rfl];exact lK Y
  ·rename_i c;rcases (show 0<a∨b<0 by omega) with g | g
   ·have m:((min (a*a) (b*b):Int):Rat)≤((a*a:Int):Rat):=cQ (by omega);rw [abJ] at m;have a0:0≤(a:Rat):=cQ (a:=0) (by omega);have:=aaZ (show 0≤Y-(a:Rat) by grind) (show 0≤Y+(a:Rat) by grind);grind
   ·have m:((min (a*a) (b*b):Int):Rat)≤((b*b:Int):Rat):=cQ (by omega);rw [abJ] at m;have b0:(b:Rat)≤0:=cQ (b:=0) (by omega);have:=aaZ (show 0≤(b:Rat)-Y by grind) (show 0≤-Y-(b:Rat) by grind);grind
 have hi:Y*Y≤((AL a b:Int):Rat):=by
  unfold AL;have m1:((a*a:Int):Rat)≤((max (a*a) (b*b):Int):Rat):=cQ (by omega);have m2:((b*b:Int):Rat)≤((max (a*a) (b*b):Int):Rat):=cQ (by omega);rw [abJ] at m1 m2;rcases (adJ:0≤Y∨Y≤0) with g | g
  ·have:=aaZ (show 0≤(b:Rat)-Y by grind) (show 0≤(b:Rat)+Y by grind);grind
  ·have:=aaZ (show 0≤Y-(a:Rat) by grind) (show 0≤-(a:Rat)-Y by grind);grind
 have a1:(-1073741824:Rat)≤(a:Rat):=cQ (a:=-1073741824) h1;have b1:(b:Rat)≤1073741824:=cQ (b:=1073741824) h3;have nr:Cl (3*e*1073741824) (1073741824*X*(1073741824*X)) (Y*Y):=by
  unfold Cl at y2 ⊢;generalize 1073741824*X=Z at*;have m1:=aaZ (show 0≤e+(Z-Y) by grind) (show 0≤1073741824-Y by grind);have m2:=aaZ (show 0≤e-(Z-Y) by grind) (show 0≤1073741824-Y by grind);have m3:=aaZ (show 0≤e+(Z-Y) by grind) (show 0≤1073741824+Y by grind);have m4:=aaZ (show 0≤e-(Z-Y) by grind) (show 0≤1073741824+Y by grind);have m5:=aaZ (show 0≤e-(Z-Y) by grind) (show 0≤e+(Z-Y) by grind);have m6:=lK (Z-Y);have m7:=aaZ he (show 0≤1/4-e by grind);constructor<;>grind
 unfold Cl at nr;unfold Hs;rw [afZ];generalize ((EH a b/1073741824:Int):Rat)=p at*;generalize ((-AL a b/1073741824:Int):Rat)=q at*;generalize Y*Y=Y2 at*;constructor<;>grind
theorem sqt_ok {a b:Int} (h0:0≤a) (h1:a≤b) (h2:b≤2147483648):rT a b=(kV (a*1073741824),FG (b*1073741824),0)∧0≤kV (a*1073741824)∧kV (a*1073741824)≤FG (b*1073741824)∧FG (b*1073741824)≤2147483648:=by
 have r:=wC (n:=a*1073741824) (by omega) (by omega);have s:=wC (n:=b*1073741824) (by omega) (by omega);have u:=SH (n:=b*1073741824) (by omega) (by omega);have m:=irt_mono (m:=a*1073741824) (n:=b*1073741824) (by omega) (by omega) (by omega);have c:kV (b*1073741824)<2147483648:=lt_sq s.1 (by omega) (by omega);unfold rT kN;rw [if_pos (dH (by omega) h1 h2),if_neg (by omega),show max 0 a=a by omega,if_pos (dH (by omega) (by omega) (by omega))];exact ⟨rfl,by omega,by omega,by omega⟩
theorem sqt_v {r:Int×Int×Int} {e X τ σ:Rat} (h0:0≤r.1) (h':Vl r e (X*X)) (hX:0≤X) (ht:1073741824*e≤τ) (ht0:0≤τ) (hts:τ≤σ*σ) (hs0:0≤σ) (hs1:τ≤σ):Vl (rT r.1 r.2.1) σ X:=by
 obtain ⟨k1,k2,k3⟩:=h';have v:=fR k2;have q:=sqt_ok h0 v.2.1 v.2.2;refine ⟨by rw [q.1],by rw [q.1];exact dH (by dsimp only;omega) q.2.2.1 q.2.2.2,?_⟩;rw [q.1];dsimp only;generalize r.1=a at*;generalize r.2.1=b at*;have r1:=wC (n:=a*1073741824) (by omega) (by omega);have u2:=SH (n:=b*1073741824) (by omega) (by omega);have c1:=cQ r1.2.1;have c2:=cQ u2.2.1;rw [abJ,abJ,show ((1073741824:Int):Rat)=1073741824 by rfl] at c1;rw [abJ,abJ,show ((1073741824:Int):Rat)=1073741824 by rfl] at c2;have i1:kV (a*1073741824)=0∨(1:Rat)≤(kV (a*1073741824):Rat):=by
  rcases apZ r1.1 with h | h
  ·right;exact cQ (a:=1) (by omega)
  ·left;omega
 have i2:FG (b*1073741824)=0∨(1:Rat)≤(FG (b*1073741824):Rat):=by
  rcases apZ (show 0≤FG (b*1073741824) by omega) with h | h
  ·right;exact cQ (a:=1) (by omega)
  ·left;omega
 clear r1 u2 q;generalize kV (a*1073741824)=lo at*;generalize FG (b*1073741824)=hi at*;unfold Hs at k3 ⊢;have p0:0≤1073741824*X:=by grind
 have e2:1073741824*(1073741824*(X*X))=1073741824*X*(1073741824*X):=by grind
 generalize 1073741824*(X*X)=W at*;generalize 1073741824*X=ρ at*;constructor
 ·rcases i1 with i1 | i1
  ·rw [i1,show ((0:Int):Rat)=0 by rfl];grind
  ·rcases (adJ:(lo:Rat)≤ρ+τ∨ρ+τ≤(lo:Rat)) with k | k
   ·grind
   ·have m:=aaZ (show 0≤(lo:Rat)-(ρ+τ) by grind) (show 0≤(lo:Rat)+ρ by grind);have m2:=aaZ ht0 (show 0≤(lo:Rat)+ρ-1 by grind);have m3:(lo:Rat)*(lo:Rat)-ρ*ρ≤τ:=by grind
    have m4:((lo:Rat)-(ρ+τ))*((lo:Rat)+ρ)≤0:=by grind
    have m5:((lo:Rat)-(ρ+τ))*((lo:Rat)+ρ)=0:=by grind
    rcases axQ.1 m5 with q | q
    ·grind
    ·grind
 ·rcases i2 with i2 | i2
  ·rw [i2,show ((0:Int):Rat)=0 by rfl] at c2 ⊢;have:=kH (z:=ρ) (f:=σ) (e:=τ) hs0 (by grind) hts;grind
  ·rcases (adJ:ρ≤(hi:Rat)+τ∨(hi:Rat)+τ≤ρ) with k | k
   ·grind
   ·have m:=aaZ (show 0≤ρ-((hi:Rat)+τ) by grind) (show 0≤(hi:Rat)+ρ by grind);have m2:=aaZ ht0 (show 0≤(hi:Rat)+ρ-1 by grind);have m3:ρ*ρ-(hi:Rat)*(hi:Rat)≤τ:=by grind
    have m4:(ρ-((hi:Rat)+τ))*((hi:Rat)+ρ)≤0:=by grind
    have m5:(ρ-((hi:Rat)+τ))*((hi:Rat)+ρ)=0:=by grind
    rcases axQ.1 m5 with q | q
    ·grind
    ·grind
theorem half_v {a b:Int} {e q:Rat} (he:0≤e) (h:Hs e a b (2*q)):Hs e (a/2) (-(-b/2)) q:=by
 unfold Hs at*;have e0:((-1:Int):Rat)=-1:=rfl;have l:((a/2*2:Int):Rat)≤(a:Rat):=cQ (by omega);have u:((-b/2*2:Int):Rat)≤((-b:Int):Rat):=cQ (by omega);rw [abJ,show ((2:Int):Rat)=2 by rfl] at l;rw [abJ,afZ,show ((2:Int):Rat)=2 by rfl] at u;rw [afZ];generalize ((a/2:Int):Rat)=p at*;generalize ((-b/2:Int):Rat)=s at*;constructor<;>grind
theorem sE {a b k l:Int} (hv:aG a b=true) (hk:aG k l=true) (a0:0≤a) (k0:0≤k) (ho:cM a b k l=false):0≤(aQ a b k l).1∧(aQ a b k l).2.1≤5400000:=by
 have v:=fR hv;have w:=fR hk;rcases apZ k0 with h | h
 ·have e:=nH (j:=0) hk hv ho (by omega) (show jD a b k l 0=(a,b,k,l) from rfl) h;have o:=xD (y0:=a) (y1:=b) (x0:=k) (x1:=l) h w.2.1 v.2.1 w.2.2 v.1 v.2.2;have z:0≤yL a k l:=by
   unfold yL;rw [if_pos a0];unfold fl;rw [if_pos a0];omega
  rw [e];dsimp only;omega
 ·have o0:¬(k≤0∧0≤l∧a≤0∧0≤b):=by
   simp only [cM,decide_eq_false_iff_not] at ho;exact ho
  have h2:0<a:=by omega
  have e:=nH (j:=1) hk hv ho (by omega) (show jD a b k l 1=(-l,-k,a,b) from rfl) h2;have o:=xD (y0:=-l) (y1:=-k) (x0:=a) (x1:=b) h2 v.2.1 (by omega) v.2.2 (by omega) (by omega);have z:KN (-k) a b=0:=by
   unfold KN;rw [←h,Int.neg_zero,if_pos (by omega)];have x:=fl_neg (x:=a) (y:=0) ⟨h2,by omega,by omega,by omega⟩;have y:=RZ h2 (show a≤2147483648 by omega);rw [Int.neg_zero,y] at x;omega
  have m:=o.1;have m2:=o.2.1;rw [z] at m2;rw [e,z,show ((1:Nat):Int)=1 from rfl];generalize yL (-l) a b=g at*;dsimp only;omega
end
def FS (n k b:Nat):Prop:=(b=0∧k*k≤n∧n<(k+1)*(k+1))∨∃j,j≤31∧b=2^j∧k+2^(j+1)≤4294967296∧k*k≤n∧n<(k+2^(j+1))*(k+2^(j+1))
theorem fs_start {n:Nat} (hn:n≤2305843009213693952):FS n 0 2147483648:=.inr ⟨31,by omega,by decide,by decide,by omega,by omega⟩
theorem fs_step {n k b:Nat} (hn:n≤2305843009213693952) (h:FS n k b) (hb:0<b):
  b≤2147483648∧k<2147483648∧k+b<3037000499∧((k+b)*(k+b)≤n→FS n (k+b) (b/2))∧(¬(k+b)*(k+b)≤n→FS n k (b/2)):=by
 rcases h with ⟨h,_⟩ | ⟨j,hj,rfl,hk,h1,h2⟩
 ·omega
 have hp:2^j≤2^31:=akX (by omega) hj;have kb:k≤1518500250:=by
  rcases abZ 1518500250 k with q | q
  ·have:=agQ (show 1518500251≤k from q) (show 1518500251≤k from q);omega
  ·exact q
 have e:2^(j+1)=2^j*2:=akJ 2 j;have s:k+2^j<3037000499:=by
  rcases abZ j 31 with q | q
  ·have:2^j≤2^30:=akX (by omega) (by omega);omega
  ·have:j=31:=by omega
   subst this;omega
 refine ⟨hp,by omega,s,fun hx=>?_,fun hx=>?_⟩
 ·cases j with
  | zero=>
   refine .inl ⟨rfl,hx,?_⟩;have:k+2^0+1=k+2^(0+1):=by omega
   rw [this];exact h2
  | succ i=>
   refine .inr ⟨i,by omega,by rw [akJ];omega,by omega,hx,?_⟩;have:k+2^(i+1)+2^(i+1)=k+2^(i+1+1):=by omega
   rw [this];exact h2
 ·cases j with
  | zero=>
   refine .inl ⟨rfl,h1,?_⟩;simpa using hx
  | succ i=>
   refine .inr ⟨i,by omega,by rw [akJ];omega,by omega,h1,by omega⟩
theorem fs_end {n k:Nat} (hn:n≤2305843009213693952) (h:FS n k 0):(k:Int)=kV (n:Int):=by
 have g:k*k≤n∧n<(k+1)*(k+1):=by
  rcases h with ⟨_,h1,h2⟩ | ⟨j,_,h,_⟩
  ·exact ⟨h1,h2⟩
  ·have:=Nat.two_pow_pos j;omega
 have o:=MP n 32 0 4294967296 (by omega) (by decide) (by omega) (by omega);unfold kV;rw [Int.toNat_natCast];generalize sbs n 32 0 4294967296=r at*;rcases Nat.lt_trichotomy k r with q | q | q
 ·have:=agQ (show k+1≤r from q) (show k+1≤r from q);omega
 ·rw [q]
 ·have:=agQ (show r+1≤k from q) (show r+1≤k from q);omega
section
open Go.RowKit Go.Shelf
def RPostF (w:World) (v:Value) (e:Ending) (w':World):Prop:=e=.returned v∧Below w.heap.size w w'
def iOf:Value→Int
 | .int _ x=>x
 | _=>0
theorem fsq_bd {x:Int} (h0:0≤x) (h1:x<3037000499):0≤x*x∧x*x≤9223372036854775807:=by
 have a:=aeZ h0 h0;have b:=aiX (show x≤3037000498 by omega) (show x≤3037000498 by omega) h0 (by omega);omega
theorem froot_any (n:Nat) (hn:n≤2305843009213693952) (w:World):Calls Tryz.prog 196 #[.int .i64 (n:Int)] w (RPostF w (.int .i64 (kV (n:Int)))):=by
 have HS:=aaQ (fs_start hn);have HB:=aaQ (Below.refl w.heap.size w);have HST:=aaQ (fun (k b:Nat) (h:FS n k b) (hb:0<b)=>fs_step hn h hb);obtain ⟨R,hR⟩:∃R:Int,R=kV (n:Int):=⟨_,rfl⟩;have HEN:=aaQ (fun (k:Nat) (h:FS n k 0)=>show (k:Int)=R from (fs_end hn h).trans hR.symm);rw [←hR];clear hR;obtain ⟨N,hN⟩:∃N:Int,N=(n:Int):=⟨_,rfl⟩;have n0:0≤N:=by omega
 have n1:N≤2305843009213693952:=by omega
 rw [←hN];replace hN:=aaQ hN;clear hn;go_enter Tryz.func196,Tryz.ntmps196;go_wp2;go_loopw [3,4] (fun k b wr=>∃k' b':Nat,k=.int .i64 (k':Int)∧b=.int .i64 (b':Int)∧FS n k' b'∧Below w.heap.size w wr) (fun _ b _=>(iOf b).toNat)
 case atStart=>exact ⟨0,2147483648,rfl,rfl,HS.out,HB.out⟩
 case round=>
  clear HS HB;obtain ⟨k,b,rfl,rfl,hs,hb⟩:=hrel;have HB:=aaQ hb;clear hb;rcases Nat.eq_zero_or_pos b with hb | hb
  ·subst hb;have HF:=aaQ (show RPostF w (.int .i64 R) (.returned (.int .i64 (k:Int))) wr from ⟨by rw [HEN.out k hs],HB.out⟩);have z:¬(((0:Nat):Int)>0):=by omega
   clear hs;go_wp2;go_ret;exact HF.out
  ·obtain ⟨s1,s2,s3,s4,s5⟩:=HST.out k b hs hb;have hcm:=aaQ (show ((k:Int)+(b:Int))*((k:Int)+(b:Int))≤N↔(k+b)*(k+b)≤n by rw [hN.out,←aoJ,←aiQ];exact Int.ofNat_le);have hq:=aaQ (show ((b/2:Nat):Int)=(b:Int)/2 by omega);have hx:=aaQ (show (k:Int)+(b:Int)=((k+b:Nat):Int) from (aoJ k b).symm);have hs4:=aaQ s4;have hs5:=aaQ s5;clear s4 s5 hs;obtain ⟨K,hK⟩:∃K:Int,K=(k:Int):=⟨_,rfl⟩;obtain ⟨B,hB⟩:∃B:Int,B=(b:Int):=⟨_,rfl⟩;have i1:0≤K:=by omega
   have i2:K<2147483648:=by omega
   have i3:0<B:=by omega
   have i4:B≤2147483648:=by omega
   have i5:K+B<3037000499:=by omega
   rw [←hK,←hB] at hcm hx;rw [←hB] at hq;rw [←hK,←hB];replace hK:=aaQ hK;replace hB:=aaQ hB;clear s1 s2 s3 hb;have hw:i64.wrap ((K+B)*(K+B))=(K+B)*(K+B):=by
    have:=fsq_bd (x:=K+B) (by omega) i5;exact IntWalk.i64_in _ (by omega)
   have hfd:B.fdiv 2=B/2:=Int.fdiv_eq_ediv_of_nonneg _ (by omega);have ME:=aaQ (show (iOf (.int .i64 (B/2))).toNat<(iOf (.int .i64 B)).toNat by simp only [iOf];omega);by_cases hc:(K+B)*(K+B)≤N
   ·have h4:=aaQ (hs4.out (hcm.out.1 hc));clear hs4 hs5 hcm;go_wp2;go_roundw
    case rel=>exact ⟨k+b,b/2,by rw [hx.out],by rw [hq.out],h4.out,HB.out⟩
    case measure=>exact ME.out
   ·have h5:=aaQ (hs5.out (fun q=>hc (hcm.out.2 q)));clear hs4 hs5 hcm;go_wp2;go_roundw
    case rel=>exact ⟨k,b/2,by rw [hK.out],by rw [hq.out],h5.out,HB.out⟩
    case measure=>exact ME.out
end
section
open Ev
def rO (n:Int):Bool:=decide (0≤n∧n≤2305843009213693952)
theorem XD (n:Int) (h:rO n=true):aH Tryz.prog 196 [.int .i64 n] (.int .i64 (kV n)):=pD fun w=>by
 obtain ⟨h1,h2⟩:=of_decide_eq_true h;have:=froot_any n.toNat (by omega) w;rwa [ahX h1] at this
theorem ediv_bd {x d m:Int} (hd:1≤d) (h1:-m≤x) (h2:x≤m):-m-1≤x/d∧x/d≤m:=by
 have e:iZ x d=x/d:=by
  unfold iZ;rw [if_pos (by omega)]
 rw [←e];exact flD_bd x d (by omega) m h1 h2
theorem tmul_bd {x y:Int} (h1:-1099511627776≤x) (h2:x≤1099511627776) (h3:-1048576≤y) (h4:y≤1048576):-1152921504606846976≤x*y∧x*y≤1152921504606846976:=by
 have h:(x*y).natAbs=x.natAbs*y.natAbs:=Int.natAbs_mul x y;have:x.natAbs*y.natAbs≤1099511627776*1048576:=agQ (by omega) (by omega);omega
def AS (a b:Int):Bool:=decide (0<b∧-4611686018427387904≤a∧a≤4611686018427387904)
def aflD (a b:Int):Int:=a/b
noncomputable def kFs0:aZ:=(58,eP (fun a b=>.bool (aF a b)))::(144,eII (fun a b=>aL (uP a b)))::(152,eP (fun a b=>.bool (aG a b)))::(184,eII (fun a b=>aL (kN a b)))::(185,rB uN (fun a b=>.int .i64 (iZ a b)))::(186,rB uN (fun a b=>.int .i64 (oE a b)))::(196,eIif rO (fun a=>.int .i64 (kV a)))::[]
theorem kFs0_ok:aJ Tryz.prog kFs0:=(aA (cF (fun a b W _=>sQ a b W)) (aA (pB MB) (aA (cF (fun a b W _=>jG a b W)) (aA (pB zO) (aA (jY DM) (aA (jY DF) (aA (RU XD) cO)))))))
theorem aflD_gives (a b:Int) (hp:AS a b=true):aH Tryz.prog 195 [.int .i64 a,.int .i64 b] (.int .i64 (aflD a b)):=by
 refine aE bN kFs0_ok (t:=cond (b==0) (none) (cond (b==0) (none) (cond (decide ((Int.tmod a b)<0)) (some (.v (.int .i64 (i64.wrap ((i64.wrap (apQ a b))-1))))) (some (.v (.int .i64 (i64.wrap (apQ a b)))))))) (by kernel_rfl) ?_;obtain ⟨hb,ha1,ha2⟩:=of_decide_eq_true hp;have t:=qJ a b 4611686018427387904 ha1 ha2;have s:=qK a b;have e0:(b==0)=false:=beq_eq_false_iff_ne.2 (by omega);rw [e0,aX (x:=apQ a b) (by omega),aX (x:=apQ a b-1) (by omega)];simp only [cond_false];unfold aflD;rw [zP a b hb];by_cases h1:a.tmod b<0
 ·rw [decide_eq_true h1,if_pos (by omega)];rfl
 ·rw [decide_eq_false h1,if_neg (by omega)];rfl
def EJ (a b n d:Int):Int×Int×Int:=if aF a b=true then (if -1048576≤n∧n≤1048576∧1≤d∧d≤1048576 then uP (mn (a*n) (b*n)/d) (-(-mx (a*n) (b*n)/d)) else (0,0,2)) else (0,0,1)
noncomputable def kFs1:aZ:=(195,rB AS (fun a b=>.int .i64 (aflD a b)))::kFs0
theorem SL:aJ Tryz.prog kFs1:=(aA (jY aflD_gives) kFs0_ok)
theorem timR_gives (a b c d:Int):aH Tryz.prog 140 [.agg ⟨[.int .i64 a,.int .i64 b]⟩,.int .i64 c,.int .i64 d] (aL (EJ a b c d)):=by
 refine aE bN SL (t:=cond (!(aF a b)) (some (.v (.tuple ⟨[.agg ⟨[.int .i64 0,.int .i64 0]⟩,.int .i64 1]⟩))) (cond (decide (c<(-1048576))) (some (.v (.tuple ⟨[.agg ⟨[.int .i64 0,.int .i64 0]⟩,.int .i64 2]⟩))) (cond (decide (c>1048576)) (some (.v (.tuple ⟨[.agg ⟨[.int .i64 0,.int .i64 0]⟩,.int .i64 2]⟩))) (cond (decide (d<1)) (some (.v (.tuple ⟨[.agg ⟨[.int .i64 0,.int .i64 0]⟩,.int .i64 2]⟩))) (cond (decide (d>1048576)) (some (.v (.tuple ⟨[.agg ⟨[.int .i64 0,.int .i64 0]⟩,.int .i64 2]⟩))) (cond (AS (mn (i64.wrap (a*c)) (i64.wrap (b*c))) d) (cond (AS (i64.wrap (0-(mx (i64.wrap (a*c)) (i64.wrap (b*c))))) d) (lt (uP (aflD (mn (i64.wrap (a*c)) (i64.wrap (b*c))) d) (i64.wrap (0-(aflD (i64.wrap (0-(mx (i64.wrap (a*c)) (i64.wrap (b*c))))) d)))) fun x1=>some (.v (.tuple ⟨[.agg ⟨[.int .i64 x1.1,.int .i64 x1.2.1]⟩,.int .i64 x1.2.2]⟩))) (none)) (none))))))) (by kernel_rfl) ?_;unfold EJ;cases h:aF a b
 ·rfl
 ·have v:=dG h;by_cases c1:c< -1048576
  ·rw [decide_eq_true c1,if_neg (show ¬(-1048576≤c∧c≤1048576∧1≤d∧d≤1048576) by omega)];rfl
  by_cases c2:c>1048576
  ·rw [decide_eq_false c1,decide_eq_true c2,if_neg (show ¬(-1048576≤c∧c≤1048576∧1≤d∧d≤1048576) by omega)];rfl
  by_cases c3:d<1
  ·rw [decide_eq_false c1,decide_eq_false c2,decide_eq_true c3,if_neg (show ¬(-1048576≤c∧c≤1048576∧1≤d∧d≤1048576) by omega)];rfl
  by_cases c4:d>1048576
  ·rw [decide_eq_false c1,decide_eq_false c2,decide_eq_false c3,decide_eq_true c4,if_neg (show ¬(-1048576≤c∧c≤1048576∧1≤d∧d≤1048576) by omega)];rfl
  have p1:=tmul_bd (x:=a) (y:=c) (by omega) (by omega) (by omega) (by omega);have p2:=tmul_bd (x:=b) (y:=c) (by omega) (by omega) (by omega) (by omega);rw [decide_eq_false c1,decide_eq_false c2,decide_eq_false c3,decide_eq_false c4,if_pos (show -1048576≤c∧c≤1048576∧1≤d∧d≤1048576 by omega),aX (x:=a*c) (by omega),aX (x:=b*c) (by omega)];have m1:=wG (a*c) (b*c);have m2:=wJ (a*c) (b*c);generalize mn (a*c) (b*c)=M at*;generalize mx (a*c) (b*c)=N at*;rw [aX (x:=0-N) (by omega),aoX];have q1:AS M d=true:=decide_eq_true ⟨by omega,by omega,by omega⟩;have q2:AS (-N) d=true:=decide_eq_true ⟨by omega,by omega,by omega⟩;have t:=ediv_bd (x:=-N) (d:=d) (m:=1152921504606846976) (by omega) (by omega) (by omega);rw [q1,q2];unfold aflD;rw [aX (x:=0- -N/d) (by omega),aoX];rfl
theorem sqrR_gives (a b:Int):aH Tryz.prog 143 [.agg ⟨[.int .i64 a,.int .i64 b]⟩] (aL (bF a b)):=by
 refine aE bN SL (t:=cond (!(aG a b)) (some (.v (.tuple ⟨[.agg ⟨[.int .i64 0,.int .i64 0]⟩,.int .i64 1]⟩))) (cond (decide (a≤0)) (cond (decide (b≥0)) (cond (uN 0 1073741824) (cond (uN (mx (i64.wrap (a*a)) (i64.wrap (b*b))) 1073741824) (lt (kN (iZ 0 1073741824) (oE (mx (i64.wrap (a*a)) (i64.wrap (b*b))) 1073741824)) fun x1=>some (.v (.tuple ⟨[.agg ⟨[.int .i64 x1.1,.int .i64 x1.2.1]⟩,.int .i64 x1.2.2]⟩))) (none)) (none)) (cond (uN (mn (i64.wrap (a*a)) (i64.wrap (b*b))) 1073741824) (cond (uN (mx (i64.wrap (a*a)) (i64.wrap (b*b))) 1073741824) (lt (kN (iZ (mn (i64.wrap (a*a)) (i64.wrap (b*b))) 1073741824) (oE (mx (i64.wrap (a*a)) (i64.wrap (b*b))) 1073741824)) fun x2=>some (.v (.tuple ⟨[.agg ⟨[.int .i64 x2.1,.int .i64 x2.2.1]⟩,.int .i64 x2.2.2]⟩))) (none)) (none))) (cond (uN (mn (i64.wrap (a*a)) (i64.wrap (b*b))) 1073741824) (cond (uN (mx (i64.wrap (a*a)) (i64.wrap (b*b))) 1073741824) (lt (kN (iZ (mn (i64.wrap (a*a)) (i64.wrap (b*b))) 1073741824) (oE (mx (i64.wrap (a*a)) (i64.wrap (b*b))) 1073741824)) fun x3=>some (.v (.tuple ⟨[.agg ⟨[.int .i64 x3.1,.int .i64 x3.2.1]⟩,.int .i64 x3.2.2]⟩))) (none)) (none)))) (by kernel_rfl) ?_;unfold bF;cases h:aG a b
 ·rfl
 ·have v:=fR h;have p:=uW (x:=a) (m:=2147483648) (by omega) (by omega);have q:=uW (x:=b) (m:=2147483648) (by omega) (by omega);rw [aX (x:=a*a) (by omega),aX (x:=b*b) (by omega)];have e1:mn (a*a) (b*b)=min (a*a) (b*b):=by unfold mn;split<;>omega
  have e2:mx (a*a) (b*b)=max (a*a) (b*b):=by unfold mx;split<;>omega
  rw [e1,e2];have fH:uN (max (a*a) (b*b)) 1073741824=true:=decide_eq_true ⟨by omega,by omega,by omega⟩;have fL:uN (min (a*a) (b*b)) 1073741824=true:=decide_eq_true ⟨by omega,by omega,by omega⟩;have f0:uN 0 1073741824=true:=by decide
  rw [fH,fL,f0];unfold EH AL;by_cases c:a≤0∧0≤b
  ·rw [if_pos c,decide_eq_true c.1,decide_eq_true (show b≥0 from c.2)];rfl
  ·rw [if_neg c];by_cases c1:a≤0
   ·rw [decide_eq_true c1,decide_eq_false (show ¬b≥0 by omega)];rfl
   ·rw [decide_eq_false c1];rfl
theorem sqtR_gives (a b:Int):aH Tryz.prog 142 [.agg ⟨[.int .i64 a,.int .i64 b]⟩] (aL (rT a b)):=by
 refine aE bN SL (t:=cond (!(aG a b)) (some (.v (.tuple ⟨[.agg ⟨[.int .i64 0,.int .i64 0]⟩,.int .i64 1]⟩))) (cond (decide (b<0)) (some (.v (.tuple ⟨[.agg ⟨[.int .i64 0,.int .i64 0]⟩,.int .i64 2]⟩))) (cond (rO (i64.wrap (b*1073741824))) (cond (decide (i64.wrap ((kV (i64.wrap (b*1073741824)))*(kV (i64.wrap (b*1073741824))))<i64.wrap (b*1073741824))) (cond (rO (i64.wrap ((mx 0 a)*1073741824))) (lt (kN (kV (i64.wrap ((mx 0 a)*1073741824))) (i64.wrap ((kV (i64.wrap (b*1073741824)))+1))) fun x1=>some (.v (.tuple ⟨[.agg ⟨[.int .i64 x1.1,.int .i64 x1.2.1]⟩,.int .i64 x1.2.2]⟩))) (none)) (cond (rO (i64.wrap ((mx 0 a)*1073741824))) (lt (kN (kV (i64.wrap ((mx 0 a)*1073741824))) (kV (i64.wrap (b*1073741824)))) fun x2=>some (.v (.tuple ⟨[.agg ⟨[.int .i64 x2.1,.int .i64 x2.2.1]⟩,.int .i64 x2.2.2]⟩))) (none))) (none)))) (by kernel_rfl) ?_;unfold rT;cases h:aG a b
 ·rfl
 ·have v:=fR h;by_cases c:b<0
  ·rw [decide_eq_true c,if_pos c];rfl
  ·have m:mx 0 a=max 0 a:=by unfold mx;split<;>omega
   rw [decide_eq_false c,if_neg c,m,aX (x:=b*1073741824) (by omega),aX (x:=max 0 a*1073741824) (by omega)];have q1:rO (b*1073741824)=true:=decide_eq_true ⟨by omega,by omega⟩;have q2:rO (max 0 a*1073741824)=true:=decide_eq_true ⟨by omega,by omega⟩;have r:=wC (n:=b*1073741824) (by omega) (by omega);have s:=lt_sq (x:=kV (b*1073741824)) (y:=2147483648) r.1 (by omega) (by omega);have z:=aeZ r.1 r.1;rw [q1,q2,aX (x:=kV (b*1073741824)*kV (b*1073741824)) (by omega),aX (x:=kV (b*1073741824)+1) (by omega)];unfold FG;by_cases k:kV (b*1073741824)*kV (b*1073741824)<b*1073741824
   ·rw [decide_eq_true k,if_pos k];rfl
   ·rw [decide_eq_false k,if_neg k];rfl
end
section
open Ev
def wX (a b _e:Int):Int×Int:=(a,b)
def yR (k _a _b e:Int):Int:=bJ k e
noncomputable def kFf0:aZ:=(48,eT (fun a b c d e f=>.bool (cS a b c d e f)))::(61,nX (fun a b c d=>aL (jW a b c d)))::(78,eP (fun a b=>aL (cD a b)))::(85,eP (fun a b=>aL (AT a b)))::(90,nX (fun a b c d=>aL (aQ a b c d)))::(125,nX (fun a b c d=>aL (oY a b c d)))::(127,nX (fun a b c d=>aL (bT a b c d)))::(132,nX (fun a b c d=>aL (fS a b c d)))::(135,eP (fun a b=>aL (aN a b)))::(139,eP (fun a b=>aL (aW a b)))::(140,ePII (fun a b c d=>aL (EJ a b c d)))::(142,eP (fun a b=>aL (rT a b)))::(143,eP (fun a b=>aL (bF a b)))::[]
theorem kFf0_ok:aJ Tryz.prog kFf0:=(aA (gS kI) (aA (cH pX) (aA (cF wW) (aA (cF EU) (aA (cH (fun a b c d W _=>AW a b c d W)) (aA (cH ER) (aA (cH pJ) (aA (cH sB) (aA (cF (fun a b W _=>WK a b W)) (aA (cF (fun a b W _=>sin_r a b W)) (aA (ePII_ok timR_gives) (aA (cF sqtR_gives) (aA (cF sqrR_gives) cO)))))))))))))
theorem wfixV_mods (k a b c:Int):gW Tryz.prog 141 96 k [.agg ⟨[.int .i64 a,.int .i64 b]⟩,.int .i64 c] (aD (wX a b c).1 (wX a b c).2) (yR k a b c):=by
 refine bR bN kFf0_ok (t:=cond (k==0) (some (.v (.agg ⟨[.int .i64 a,.int .i64 b]⟩),⟨[.v (.int .i64 c)],96⟩)) (some (.v (.agg ⟨[.int .i64 a,.int .i64 b]⟩),⟨[.v (.int .i64 k)],96⟩))) (by kernel_rfl) ?_;unfold yR bJ;by_cases h:k=0
 ·simp [h];rfl
 ·have e:(k==0)=false:=beq_eq_false_iff_ne.2 h;rw [e];simp [h];rfl
def EN (a b _e:Int):Int×Int:=(a,b)
def GT (k _a _b e:Int):Int:=bJ k e
noncomputable def kFf1:aZ:=(141,cPI 96 (fun a b c=>aD (wX a b c).1 (wX a b c).2) yR)::kFf0
theorem kFf1_ok:aJ Tryz.prog kFf1:=(aA (sH wfixV_mods) kFf0_ok)
theorem warW_mods (k a b c:Int):gW Tryz.prog 77 96 k [.agg ⟨[.int .i64 a,.int .i64 b]⟩,.int .i64 c] (aD (EN a b c).1 (EN a b c).2) (GT k a b c):=by
 refine bR bN kFf1_ok (t:=cond (k==0) (some (.v (.agg ⟨[.int .i64 a,.int .i64 b]⟩),⟨[.v (.int .i64 c)],96⟩)) (some (.v (.agg ⟨[.int .i64 a,.int .i64 b]⟩),⟨[.v (.int .i64 k)],96⟩))) (by kernel_rfl) ?_;unfold GT bJ;by_cases h:k=0
 ·simp [h];rfl
 ·have e:(k==0)=false:=beq_eq_false_iff_ne.2 h;rw [e];simp [h];rfl
noncomputable def uK (a b:Int):Int×Int:=((aW a b).1,(aW a b).2.1)
noncomputable def yU (k a b:Int):Int:=bJ k (aW a b).2.2
noncomputable def kFf2:aZ:=(77,cPI 96 (fun a b c=>aD (EN a b c).1 (EN a b c).2) GT)::kFf1
theorem kFf2_ok:aJ Tryz.prog kFf2:=(aA (sH warW_mods) kFf1_ok)
theorem wsinV_mods (k a b:Int):gW Tryz.prog 79 96 k [.agg ⟨[.int .i64 a,.int .i64 b]⟩] (aD (uK a b).1 (uK a b).2) (yU k a b):=by
 refine bR bN kFf2_ok (t:=lt (aW a b) fun x1=>lt (wX x1.1 x1.2.1 x1.2.2) fun x3=>lt (yR k x1.1 x1.2.1 x1.2.2) fun x2=>some (.v (.agg ⟨[.int .i64 x3.1,.int .i64 x3.2]⟩),⟨[.v (.int .i64 x2)],96⟩)) (by kernel_rfl) ?_;rfl
noncomputable def uI (a b:Int):Int×Int:=((aN a b).1,(aN a b).2.1)
noncomputable def yQ (k a b:Int):Int:=bJ k (aN a b).2.2
noncomputable def kFf3:aZ:=(79,cP 96 (fun a b=>aD (uK a b).1 (uK a b).2) yU)::kFf2
theorem kFf3_ok:aJ Tryz.prog kFf3:=(aA (uA wsinV_mods) kFf2_ok)
theorem wcosV_mods (k a b:Int):gW Tryz.prog 80 96 k [.agg ⟨[.int .i64 a,.int .i64 b]⟩] (aD (uI a b).1 (uI a b).2) (yQ k a b):=by
 refine bR bN kFf3_ok (t:=lt (aN a b) fun x1=>lt (wX x1.1 x1.2.1 x1.2.2) fun x3=>lt (yR k x1.1 x1.2.1 x1.2.2) fun x2=>some (.v (.agg ⟨[.int .i64 x3.1,.int .i64 x3.2]⟩),⟨[.v (.int .i64 x2)],96⟩)) (by kernel_rfl) ?_;rfl
noncomputable def uJ (a b c d:Int):Int×Int:=((bT a b c d).1,(bT a b c d).2.1)
noncomputable def yT (k a b c d:Int):Int:=bJ k (bT a b c d).2.2
noncomputable def kFf4:aZ:=(80,cP 96 (fun a b=>aD (uI a b).1 (uI a b).2) yQ)::kFf3
theorem kFf4_ok:aJ Tryz.prog kFf4:=(aA (uA wcosV_mods) kFf3_ok)
theorem wmulV_mods (k a b c d:Int):gW Tryz.prog 81 96 k [.agg ⟨[.int .i64 a,.int .i64 b]⟩,.agg ⟨[.int .i64 c,.int .i64 d]⟩] (aD (uJ a b c d).1 (uJ a b c d).2) (yT k a b c d):=by
 refine bR bN kFf4_ok (t:=lt (bT a b c d) fun x1=>lt (wX x1.1 x1.2.1 x1.2.2) fun x3=>lt (yR k x1.1 x1.2.1 x1.2.2) fun x2=>some (.v (.agg ⟨[.int .i64 x3.1,.int .i64 x3.2]⟩),⟨[.v (.int .i64 x2)],96⟩)) (by kernel_rfl) ?_;rfl
noncomputable def qR (a b c d:Int):Int×Int:=((oY a b c d).1,(oY a b c d).2.1)
noncomputable def EO (k a b c d:Int):Int:=bJ k (oY a b c d).2.2
noncomputable def kFf5:aZ:=(81,VZ 96 (fun a b c d=>aD (uJ a b c d).1 (uJ a b c d).2) yT)::kFf4
theorem kFf5_ok:aJ Tryz.prog kFf5:=(aA (lV wmulV_mods) kFf4_ok)
theorem aAW (k a b c d:Int):gW Tryz.prog 76 96 k [.agg ⟨[.int .i64 a,.int .i64 b]⟩,.agg ⟨[.int .i64 c,.int .i64 d]⟩] (aD (qR a b c d).1 (qR a b c d).2) (EO k a b c d):=by
 refine bR bN kFf5_ok (t:=lt (oY a b c d) fun x1=>lt (EN x1.1 x1.2.1 x1.2.2) fun x3=>lt (GT k x1.1 x1.2.1 x1.2.2) fun x2=>some (.v (.agg ⟨[.int .i64 x3.1,.int .i64 x3.2]⟩),⟨[.v (.int .i64 x2)],96⟩)) (by kernel_rfl) ?_;rfl
noncomputable def oI (a b c d:Int):Int×Int:=((jW a b c d).1,(jW a b c d).2.1)
noncomputable def yS (k a b c d:Int):Int:=bJ k (jW a b c d).2.2
noncomputable def kFf6:aZ:=(76,VZ 96 (fun a b c d=>aD (qR a b c d).1 (qR a b c d).2) EO)::kFf5
theorem kFf6_ok:aJ Tryz.prog kFf6:=(aA (lV aAW) kFf5_ok)
theorem wminV_mods (k a b c d:Int):gW Tryz.prog 74 96 k [.agg ⟨[.int .i64 a,.int .i64 b]⟩,.agg ⟨[.int .i64 c,.int .i64 d]⟩] (aD (oI a b c d).1 (oI a b c d).2) (yS k a b c d):=by
 refine bR bN kFf6_ok (t:=lt (jW a b c d) fun x1=>lt (EN x1.1 x1.2.1 x1.2.2) fun x3=>lt (GT k x1.1 x1.2.1 x1.2.2) fun x2=>some (.v (.agg ⟨[.int .i64 x3.1,.int .i64 x3.2]⟩),⟨[.v (.int .i64 x2)],96⟩)) (by kernel_rfl) ?_;rfl
noncomputable def lD (a b c d:Int):Int×Int:=((EJ a b c d).1,(EJ a b c d).2.1)
noncomputable def qQ (k a b c d:Int):Int:=bJ k (EJ a b c d).2.2
noncomputable def kFf7:aZ:=(74,VZ 96 (fun a b c d=>aD (oI a b c d).1 (oI a b c d).2) yS)::kFf6
theorem kFf7_ok:aJ Tryz.prog kFf7:=(aA (lV wminV_mods) kFf6_ok)
theorem aAV (k a b c d:Int):gW Tryz.prog 75 96 k [.agg ⟨[.int .i64 a,.int .i64 b]⟩,.int .i64 c,.int .i64 d] (aD (lD a b c d).1 (lD a b c d).2) (qQ k a b c d):=by
 refine bR bN kFf7_ok (t:=lt (EJ a b c d) fun x1=>lt (EN x1.1 x1.2.1 x1.2.2) fun x3=>lt (GT k x1.1 x1.2.1 x1.2.2) fun x2=>some (.v (.agg ⟨[.int .i64 x3.1,.int .i64 x3.2]⟩),⟨[.v (.int .i64 x2)],96⟩)) (by kernel_rfl) ?_;rfl
noncomputable def yP (a b c d:Int):Int×Int:=((aQ a b c d).1,(aQ a b c d).2.1)
noncomputable def FZ (k a b c d:Int):Int:=bJ k (aQ a b c d).2.2
noncomputable def kFf8:aZ:=(75,cPII 96 (fun a b c d=>aD (lD a b c d).1 (lD a b c d).2) qQ)::kFf7
theorem kFf8_ok:aJ Tryz.prog kFf8:=(aA (cPII_ok aAV) kFf7_ok)
theorem wbeaV_mods (k a b c d:Int):gW Tryz.prog 82 96 k [.agg ⟨[.int .i64 a,.int .i64 b]⟩,.agg ⟨[.int .i64 c,.int .i64 d]⟩] (aD (yP a b c d).1 (yP a b c d).2) (FZ k a b c d):=by
 refine bR bN kFf8_ok (t:=lt (aQ a b c d) fun x1=>lt (EN x1.1 x1.2.1 x1.2.2) fun x3=>lt (GT k x1.1 x1.2.1 x1.2.2) fun x2=>some (.v (.agg ⟨[.int .i64 x3.1,.int .i64 x3.2]⟩),⟨[.v (.int .i64 x2)],96⟩)) (by kernel_rfl) ?_;rfl
noncomputable def GB (a b c d:Int):Int×Int:=((rT (fS (bF a b).1 (bF a b).2.1 (bF c d).1 (bF c d).2.1).1 (fS (bF a b).1 (bF a b).2.1 (bF c d).1 (bF c d).2.1).2.1).1,(rT (fS (bF a b).1 (bF a b).2.1 (bF c d).1 (bF c d).2.1).1 (fS (bF a b).1 (bF a b).2.1 (bF c d).1 (bF c d).2.1).2.1).2.1)
noncomputable def GA (k a b c d:Int):Int:=bJ (bJ (bJ (bJ k (bF a b).2.2) (bF c d).2.2) (fS (bF a b).1 (bF a b).2.1 (bF c d).1 (bF c d).2.1).2.2) (rT (fS (bF a b).1 (bF a b).2.1 (bF c d).1 (bF c d).2.1).1 (fS (bF a b).1 (bF a b).2.1 (bF c d).1 (bF c d).2.1).2.1).2.2
noncomputable def kFf9:aZ:=(82,VZ 96 (fun a b c d=>aD (yP a b c d).1 (yP a b c d).2) FZ)::kFf8
theorem kFf9_ok:aJ Tryz.prog kFf9:=(aA (lV wbeaV_mods) kFf8_ok)
theorem whypV_mods (k a b c d:Int):gW Tryz.prog 83 96 k [.agg ⟨[.int .i64 a,.int .i64 b]⟩,.agg ⟨[.int .i64 c,.int .i64 d]⟩] (aD (GB a b c d).1 (GB a b c d).2) (GA k a b c d):=by
 refine bR bN kFf9_ok (t:=lt (bF a b) fun x1=>lt (wX x1.1 x1.2.1 x1.2.2) fun x3=>lt (yR k x1.1 x1.2.1 x1.2.2) fun x2=>lt (bF c d) fun x4=>lt (wX x4.1 x4.2.1 x4.2.2) fun x6=>lt (yR x2 x4.1 x4.2.1 x4.2.2) fun x5=>lt (fS x3.1 x3.2 x6.1 x6.2) fun x7=>lt (wX x7.1 x7.2.1 x7.2.2) fun x9=>lt (yR x5 x7.1 x7.2.1 x7.2.2) fun x8=>lt (rT x9.1 x9.2) fun x10=>lt (wX x10.1 x10.2.1 x10.2.2) fun x12=>lt (yR x8 x10.1 x10.2.1 x10.2.2) fun x11=>some (.v (.agg ⟨[.int .i64 x12.1,.int .i64 x12.2]⟩),⟨[.v (.int .i64 x11)],96⟩)) (by kernel_rfl) ?_;rfl
noncomputable def NF (a b:Int):Bool:=(decide (i64.wrap (b-a)≥21600000))
noncomputable def kFf10:aZ:=(83,VZ 96 (fun a b c d=>aD (GB a b c d).1 (GB a b c d).2) GA)::kFf9
theorem XV:aJ Tryz.prog kFf10:=(aA (lV whypV_mods) kFf9_ok)
theorem aAT (a b:Int):aH Tryz.prog 84 [.agg ⟨[.int .i64 a,.int .i64 b]⟩] (.bool (NF a b)):=aE bN XV (by kernel_rfl) rfl
noncomputable def XM {α:Type} (K:Int→Int→Int→Int→Int→α) (a b c d e f:Int):α:=cond (!(cS a b c d e f)) (K 0 0 0 0 1) (lt (oI 5400000 5400000 c d) fun x2=>lt (yS 0 5400000 5400000 c d) fun x1=>lt (oI 5400000 5400000 a b) fun x4=>lt (yS x1 5400000 5400000 a b) fun x3=>lt (qR x2.1 x2.2 x4.1 x4.2) fun x6=>lt (EO x3 x2.1 x2.2 x4.1 x4.2) fun x5=>lt (lD x6.1 x6.2 1 2) fun x8=>lt (qQ x5 x6.1 x6.2 1 2) fun x7=>lt (oI x2.1 x2.2 x4.1 x4.2) fun x10=>lt (yS x7 x2.1 x2.2 x4.1 x4.2) fun x9=>lt (lD x10.1 x10.2 1 2) fun x12=>lt (qQ x9 x10.1 x10.2 1 2) fun x11=>lt (cD e f) fun x13=>lt (EN x13.1 x13.2.1 x13.2.2) fun x15=>lt (GT x11 x13.1 x13.2.1 x13.2.2) fun x14=>lt (lD x15.1 x15.2 1 2) fun x17=>lt (qQ x14 x15.1 x15.2 1 2) fun x16=>lt (uI x8.1 x8.2) fun x19=>lt (yQ x16 x8.1 x8.2) fun x18=>lt (uK x17.1 x17.2) fun x21=>lt (yU x18 x17.1 x17.2) fun x20=>lt (uJ x19.1 x19.2 x21.1 x21.2) fun x23=>lt (yT x20 x19.1 x19.2 x21.1 x21.2) fun x22=>lt (uI x12.1 x12.2) fun x25=>lt (yQ x22 x12.1 x12.2) fun x24=>lt (uI x17.1 x17.2) fun x27=>lt (yQ x24 x17.1 x17.2) fun x26=>lt (uJ x25.1 x25.2 x27.1 x27.2) fun x29=>lt (yT x26 x25.1 x25.2 x27.1 x27.2) fun x28=>lt (uK x8.1 x8.2) fun x31=>lt (yU x28 x8.1 x8.2) fun x30=>lt (uK x17.1 x17.2) fun x33=>lt (yU x30 x17.1 x17.2) fun x32=>lt (uJ x31.1 x31.2 x33.1 x33.2) fun x35=>lt (yT x32 x31.1 x31.2 x33.1 x33.2) fun x34=>lt (uK x12.1 x12.2) fun x37=>lt (yU x34 x12.1 x12.2) fun x36=>lt (uI x17.1 x17.2) fun x39=>lt (yQ x36 x17.1 x17.2) fun x38=>lt (uJ x37.1 x37.2 x39.1 x39.2) fun x41=>lt (yT x38 x37.1 x37.2 x39.1 x39.2) fun x40=>lt (GB x35.1 x35.2 x41.1 x41.2) fun x43=>lt (GA x40 x35.1 x35.2 x41.1 x41.2) fun x42=>lt (GB x23.1 x23.2 x29.1 x29.2) fun x45=>lt (GA x42 x23.1 x23.2 x29.1 x29.2) fun x44=>lt (yP x43.1 x43.2 x45.1 x45.2) fun x47=>lt (FZ x44 x43.1 x43.2 x45.1 x45.2) fun x46=>cond (x46 != 0) (K 0 0 0 0 x46) (cond (NF x47.1 x47.2) (K 0 0 0 0 24) (lt (lD x47.1 x47.2 2 1) fun x49=>lt (qQ x46 x47.1 x47.2 2 1) fun x48=>lt (oI 5400000 5400000 x49.1 x49.2) fun x51=>lt (yS x48 5400000 5400000 x49.1 x49.2) fun x50=>lt (yP x29.1 x29.2 x23.1 x23.2) fun x53=>lt (FZ x50 x29.1 x29.2 x23.1 x23.2) fun x52=>lt (yP x41.1 x41.2 x35.1 x35.2) fun x55=>lt (FZ x52 x41.1 x41.2 x35.1 x35.2) fun x54=>cond (!(NF x53.1 x53.2)) (cond (!(NF x55.1 x55.2)) (lt (qR x53.1 x53.2 x55.1 x55.2) fun x57=>lt (EO x54 x53.1 x53.2 x55.1 x55.2) fun x56=>lt (AT x57.1 x57.2) fun x58=>lt (EN x58.1 x58.2.1 x58.2.2) fun x60=>lt (GT x56 x58.1 x58.2.1 x58.2.2) fun x59=>lt (cD x60.1 x60.2) fun x61=>lt (EN x61.1 x61.2.1 x61.2.2) fun x63=>lt (GT x59 x61.1 x61.2.1 x61.2.2) fun x62=>cond (x62 != 0) (K 0 0 0 0 x62) (K x51.1 x51.2 x63.1 x63.2 0)) (cond (x54 != 0) (K 0 0 0 0 x54) (K x51.1 x51.2 0 21600000 0))) (cond (x54 != 0) (K 0 0 0 0 x54) (K x51.1 x51.2 0 21600000 0)))))
noncomputable def sU (a b c d e f:Int):Int×Int×Int×Int×Int:=XM (fun p0 p1 p2 p3 p4=>(p0,p1,p2,p3,p4)) a b c d e f
noncomputable def kFf11:aZ:=(84,eP (fun a b=>.bool (NF a b)))::kFf10
theorem kFf11_ok:aJ Tryz.prog kFf11:=(aA (cF aAT) XV)
theorem hslM_gives (a b c d e f:Int):aH Tryz.prog 40 [.agg ⟨[.int .i64 a,.int .i64 b,.int .i64 c,.int .i64 d,.int .i64 e,.int .i64 f]⟩] (dV (sU a b c d e f)):=by
 refine aE bN kFf11_ok (t:=XM (fun p0 p1 p2 p3 p4=>some (.v (dV ((p0,p1,p2,p3,p4))))) a b c d e f) (by kernel_rfl) ?_;unfold sU XM;repeat' first | (with_reducible refine aT (fun r:Int×Int×Int×Int×Int=>AV.v (dV (r))) ?_ ?_) | (with_reducible refine cG (fun r:Int×Int×Int×Int×Int=>AV.v (dV (r))) fun _=>?_) | rfl
end
end Go.Proofs.YtmididlfnajhiaaGreatDoor
