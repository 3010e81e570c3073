/-
  Bearing's arc holds the direction of every point of its box, for rational points and angles. No program here. Operations without error, and what their results hold; the true altitude and azimuth of a.
-/
import Derived.Test.YtajpgkpdhcbngaaGreatDoorU7
import Derived.Test.YtajpgkpdhcbngaaGreatDoorU10
import Derived.Test.YtajpgkpdhcbngaaGreatDoorU6
import Derived.Test.YtajpgkpdhcbngaaGreatDoorU2
import Derived.LoopN
import Derived.WalkSpells
import Derived.StillTactics
import Derived.Deep.RegionWith
set_option maxRecDepth 100000
set_option maxHeartbeats 4000000
open _root_.Int renaming le_refl→abJ,le_total→asX,lt_or_eq_of_le→aoX,lt_or_le→aiJ,mul_le_mul→anJ,mul_nonneg→aeJ,natCast_mul→ajX,tdiv→arZ,toNat_of_nonneg→ajQ,zero_sub→axQ
open Go.Lib renaming hid→aaX
open _root_.Nat renaming lt_or_ge→adZ,mul_le_mul→aiX,pow_le_pow_right→akJ,pow_succ→apQ,zero_le→afX
open _root_.Rat renaming intCast_add→acQ,intCast_mul→acX,intCast_neg→afQ,intCast_sub→abZ,le_total→abX,mul_eq_zero→anZ,mul_nonneg→aaQ,natCast_le_natCast→acZ
open Go.Proofs.Tryz renaming prog→aaZ
open Go.IntKind (i64 u64)
namespace Go.Proofs.YtajpgkpdhcbngaaGreatDoor
noncomputable section
section
namespace TB
open SM TA
theorem thF_near:-(1/2^120)≤(tb-jE)*2700000∧(tb-jE)*2700000≤1/2^120:=by decide+kernel
theorem tail_B1:En 652 (4/5)-En 100 (4/5)≤1/2^200:=by decide+kernel
theorem tail_B0:En 100 (1/2^120)-En 0 (1/2^120)≤1/2^119:=by decide+kernel
theorem rest_B8:rest 100 (4/5)≤1/2^118:=by decide+kernel
theorem near_V (k:Nat) (h:k≤2700000):Cl (1/2^110) (si (k:Rat)) (sV k)∧Cl (1/2^110) (co (k:Rat)) (cV k):=by
 have k0:(0:Rat)≤(k:Rat):=by exact_mod_cast afX k
 have k1:(k:Rat)≤2700000:=by
  have:(k:Rat)≤((2700000:Nat):Rat):=by exact_mod_cast h
  exact this
 have es:si (k:Rat)=Sn 652 (tb*(k:Rat))∧co (k:Rat)=Cn 652 (tb*(k:Rat)):=by
  unfold si co;rw [qG (by grind) (by grind)];exact ⟨rfl,rfl⟩
 have t:=jY;have x:0≤tb*(k:Rat)∧tb*(k:Rat)≤4/5:=by
  have:=pF (p:=(k:Rat)) (c:=2700000) (d:=4/5) (by grind) k1 (by grind);exact ⟨aaQ (by grind) k0,this.2⟩
 have a:=OT 100 552 652 rfl (x:=tb*(k:Rat)) (X:=4/5) (by grind) x.2 tail_B1;have a':=ZZ 100 552 652 rfl (x:=tb*(k:Rat)) (X:=4/5) (by grind) x.2 tail_B1;have tn:=thF_near;have d:-(1/2^120)≤(tb-jE)*(k:Rat)∧(tb-jE)*(k:Rat)≤1/2^120:=by
  have z:(0:Rat)≤1/2^120:=by decide+kernel
  have e:(tb-jE)*(k:Rat)*2700000=(tb-jE)*2700000*(k:Rat):=by grind
  have m1:=aaQ (show 0≤1/2^120-(tb-jE)*2700000 by grind) k0;have m2:=aaQ (show 0≤1/2^120+(tb-jE)*2700000 by grind) k0;have m3:=aaQ z (show 0≤2700000-(k:Rat) by grind);generalize (tb-jE)*(k:Rat)=y at*;constructor<;>grind
 have hx:=ED k h;have b:=v_bd k h;have ad:=addition 100 (x:=jE*(k:Rat)) (y:=(tb-jE)*(k:Rat)) (X:=4/5) (by grind) (by grind) (by grind) (by grind);have r:=rest_B8;have c:=ZZ 0 100 100 rfl (x:=(tb-jE)*(k:Rat)) (X:=1/2^120) d.1 d.2 tail_B0;have s:=OT 0 100 100 rfl (x:=(tb-jE)*(k:Rat)) (X:=1/2^120) d.1 d.2 tail_B0;have c0:Cn 0 ((tb-jE)*(k:Rat))=1:=by simp [Cn,sm,sc,P];grind
 have s0:Sn 0 ((tb-jE)*(k:Rat))=0:=by simp [Sn,sm,ss,P];grind
 rw [c0] at c;rw [s0] at s;rw [show jE*(k:Rat)+(tb-jE)*(k:Rat)=tb*(k:Rat) by grind] at ad;have eV:sV k=Sn 100 (jE*(k:Rat)):=rfl;have eC:cV k=Cn 100 (jE*(k:Rat)):=rfl;rw [←eV,←eC] at ad;have m1:=gU (z:=sV k) (c:=Cn 100 ((tb-jE)*(k:Rat))-1) (k:=1/2^119) ⟨by grind,by grind⟩ ⟨by grind,by grind⟩;have m2:=gU (z:=cV k) (c:=Sn 100 ((tb-jE)*(k:Rat))-0) (k:=1/2^119) ⟨by grind,by grind⟩ ⟨by grind,by grind⟩;have m3:=gU (z:=cV k) (c:=Cn 100 ((tb-jE)*(k:Rat))-1) (k:=1/2^119) ⟨by grind,by grind⟩ ⟨by grind,by grind⟩;have m4:=gU (z:=sV k) (c:=Sn 100 ((tb-jE)*(k:Rat))-0) (k:=1/2^119) ⟨by grind,by grind⟩ ⟨by grind,by grind⟩;rw [es.1,es.2];unfold Cl;clear b c s d hx x t tn eV eC c0 s0;generalize sV k=A at*;generalize cV k=B at*;generalize Cn 100 ((tb-jE)*(k:Rat))=D at*;generalize Sn 100 ((tb-jE)*(k:Rat))=E at*;generalize Sn 100 (tb*(k:Rat))=F at*;generalize Cn 100 (tb*(k:Rat))=F' at*;generalize Sn 652 (tb*(k:Rat))=G at*;generalize Cn 652 (tb*(k:Rat))=G' at*;generalize rest 100 (4/5)=R at*;refine ⟨⟨?_,?_⟩,?_,?_⟩<;>grind
theorem near_K (k:Nat) (h:k≤5400000):Cl (1/2^105) (si (k:Rat)) (sK k)∧Cl (1/2^105) (co (k:Rat)) (cK k):=by
 have u:=aY;unfold sK cK;by_cases c:k≤2700000
 ·rw [if_pos c,if_pos c];have:=near_V k c;exact ⟨this.1.wide (by grind),this.2.wide (by grind)⟩
 ·rw [if_neg c,if_neg c];have n:=near_V (5400000-k) (by omega);have e:((5400000-k:Nat):Rat)=5400000-(k:Rat):=by
   have:((5400000-k+k:Nat):Rat)=((5400000:Nat):Rat):=by rw [Nat.sub_add_cancel h]
   rw [Rat.natCast_add] at this;have z:((5400000:Nat):Rat)=5400000:=rfl;rw [z] at this;grind
  rw [e] at n;have q:=yY (k:Rat);exact ⟨(q.2.symm.trans n.2).wide (by grind),(q.1.symm.trans n.1).wide (by grind)⟩
theorem SI {x:Nat} (h:x≤2147483648):0≤(x:Rat)∧(x:Rat)≤2147483648:=by
 have a:(0:Rat)≤(x:Rat):=by exact_mod_cast afX x
 have b:(x:Rat)≤((2147483648:Nat):Rat):=by exact_mod_cast h
 exact ⟨a,b⟩
theorem nN {x a b e:Rat} (hx:0≤x∧x≤2147483648) (h:Cl e a b):Cl (2147483648*e) (x*a) (x*b):=by
 have m:=aB (a:=x) (b:=a-b) (A:=2147483648) (B:=e) (by grind) hx.2 h.1 h.2;unfold Cl;rw [show x*a-x*b=x*(a-b) by grind];exact m
theorem rea_B {k x y:Nat} (hk:k<5400000) (hx:x≤2147483648) (hy:y≤2147483648) (hxy:0<x+y):
  (kD x y k=true→(x:Rat)*si (k:Rat)≤(y:Rat)*co (k:Rat)+e1)∧(kD x y k=false→(y:Rat)*co (k:Rat)≤(x:Rat)*si (k:Rat)+e1):=by
 have eb:=iL;have be:=sT;have u:=aY;have ee:e0=1048576*u0:=rfl;have X:=SI hx;have Y:=SI hy;by_cases h0:k=0
 ·subst h0;rw [show ((0:Nat):Rat)=0 by rfl,si_0,co_0];refine ⟨fun _=>by grind,fun h=>?_⟩;rw [CK] at h;cases h
 by_cases h1:k=2700000
 ·subst h1;have q:=(yY 2700000).1;rw [show (5400000:Rat)-2700000=2700000 by grind] at q;rw [show ((2700000:Nat):Rat)=2700000 by rfl];have s:=gG (q:=2700000) (by grind) (by grind);have m:=nN Y q;have p:=mE x y;unfold Cl at m;constructor
  ·intro h;have:=acZ.2 (p.1 h);have g:=aaQ (show 0≤(y:Rat)-(x:Rat) by grind) s;generalize (y:Rat)*co 2700000=w at*;generalize si 2700000=z at*;grind
  ·intro h;have h2:¬x≤y:=fun c=>by rw [p.2 c] at h;cases h
   have:=acZ.2 (show y≤x by omega);have g:=aaQ (show 0≤(x:Rat)-(y:Rat) by grind) s;generalize (y:Rat)*co 2700000=w at*;generalize si 2700000=z at*;grind
 have r:=AN (by omega) h1 hk hx hy hxy;have n:=near_K k (by omega);have m1:=nN X n.1;have m2:=nN Y n.2;unfold Cl at m1 m2;have z:(2147483648:Rat)*(1/2^105)≤1/2^70:=by decide+kernel
 generalize (x:Rat)*si (k:Rat)=a at*;generalize (y:Rat)*co (k:Rat)=b at*;generalize (x:Rat)*sK k=c at*;generalize (y:Rat)*cK k=d at*;clear n X Y;constructor
 ·intro h;rcases r with ⟨_,r⟩ | ⟨r0,r⟩
  ·grind
  ·rw [h] at r0;cases r0
 ·intro h;rcases r with ⟨r0,r⟩ | ⟨_,r⟩
  ·rw [h] at r0;cases r0
  ·grind
theorem F_B {x y:Nat} (hx:x≤2147483648) (hy:y≤2147483648) (hx0:0<x):
  (x:Rat)*si (F x y:Rat)≤(y:Rat)*co (F x y:Rat)+e1∧(y:Rat)*co (C x y:Rat)≤(x:Rat)*si (C x y:Rat)+e1:=by
 have eb:=iL;have be:=sT;have u:=aY;have ee:e0=1048576*u0:=rfl;have X:=SI hx;have Y:=SI hy;obtain ⟨f1,f2,f3⟩:=mP x y;refine ⟨(rea_B f1 hx hy (by omega)).1 f2,?_⟩;unfold C;cases hex:UD x y with
 | true=>
  rw [if_pos rfl,Nat.add_zero];unfold UD at hex;simp only [Bool.or_eq_true,Bool.and_eq_true,beq_iff_eq] at hex;rcases hex with ⟨h1,h2⟩ | ⟨h1,h2⟩
  ·rw [h1,h2,show ((0:Nat):Rat)=0 by rfl,si_0];grind
  ·rw [h1,←h2,show ((2700000:Nat):Rat)=2700000 by rfl];have q:=(yY 2700000).1;rw [show (5400000:Rat)-2700000=2700000 by grind] at q;have m:=nN X q;unfold Cl at m;generalize (x:Rat)*co 2700000=w at*;generalize (x:Rat)*si 2700000=z at*;grind
 | false=>
  simp only [Bool.false_eq_true,if_false];rcases f3 with h | h
  ·rw [h,show ((5400000:Nat):Rat)=5400000 by rfl];have q:=KG;have m1:=nN X q.2;have m2:=nN Y q.1;unfold Cl at m1 m2;generalize (x:Rat)*si 5400000=w at*;generalize (y:Rat)*co 5400000=z at*;grind
  ·by_cases hk:F x y+1<5400000
   ·exact (rea_B hk hx hy (by omega)).2 h
   ·rw [show F x y+1=5400000 by omega,show ((5400000:Nat):Rat)=5400000 by rfl];have q:=KG;have m1:=nN X q.2;have m2:=nN Y q.1;unfold Cl at m1 m2;generalize (x:Rat)*si 5400000=w at*;generalize (y:Rat)*co 5400000=z at*;grind
theorem BX {a:Int} (h:-2147483648≤a∧a≤2147483648):-2147483648≤(a:Rat)∧(a:Rat)≤2147483648:=
 ⟨aV (a:=-2147483648) h.1,aV (b:=2147483648) h.2⟩
theorem backq (q:Rat):Cl (10000*u0) (si (q-5400000)) (-co q)∧Cl (10000*u0) (co (q-5400000)) (si q):=by
 have a:=yY q;have n:=vK (5400000-q);have u:=aY;rw [show -(5400000-q)=q-5400000 by grind] at n;exact ⟨(n.2.trans a.1.neg).wide (by grind),(n.1.trans a.2).wide (by grind)⟩
theorem wY {x p q:Rat} (hx:-2147483648≤x∧x≤2147483648) (h:Cl (40000*u0) p q):Cl (e1/4) (x*p) (x*q):=by
 have be:=sT;have u:=aY.1;have ee:e0=1048576*u0:=rfl;have m:=aB (a:=x) (b:=p-q) (A:=2147483648) (B:=40000*u0) hx.1 hx.2 h.1 h.2;have k:2147483648*(40000*u0)≤e1/4:=by grind
 clear h be;unfold Cl;rw [show x*p-x*q=x*(p-q) by grind];generalize x*(p-q)=w at*;generalize 2147483648*(40000*u0)=v at*;constructor<;>grind
theorem fl_B {a b:Int} (h:EO a b):(a:Rat)*si (fl a b:Rat)≤(b:Rat)*co (fl a b:Rat)+2*e1∧(b:Rat)*co (ce a b:Rat)≤(a:Rat)*si (ce a b:Rat)+2*e1:=by
 obtain ⟨h0,h1,h2,h3⟩:=h;have eb:=iL;have be:=sT;have u:=aY;have ee:e0=1048576*u0:=rfl;have cast:∀m:Int,0≤m→((m.toNat:Nat):Rat)=(m:Rat):=fun m h=>by
  have:((m.toNat:Nat):Int)=m:=ajQ h;have e:((m.toNat:Nat):Rat)=(((m.toNat:Nat):Int):Rat):=rfl;rw [e,this]
 have icast:∀n:Nat,(((n:Nat):Int):Rat)=(n:Rat):=fun n=>rfl;rw [NA];unfold fl;by_cases hb:0≤b
 ·rw [if_pos hb,if_pos hb,icast,icast];have f:=F_B (x:=a.toNat) (y:=b.toNat) (by omega) (by omega) (by omega);rw [cast a (by omega),cast b hb] at f;obtain ⟨f1,f2⟩:=f;clear cast icast be u ee;generalize (a:Rat)*si (F a.toNat b.toNat:Rat)=x1 at*;generalize (b:Rat)*co (F a.toNat b.toNat:Rat)=x2 at*;generalize (b:Rat)*co (C a.toNat b.toNat:Rat)=x3 at*;generalize (a:Rat)*si (C a.toNat b.toNat:Rat)=x4 at*;constructor<;>grind
 ·rw [if_neg hb,if_neg hb];have f:=F_B (x:=(-b).toNat) (y:=a.toNat) (by omega) (by omega) (by omega);rw [cast a (by omega),cast (-b) (by omega),afQ] at f;have z:((5400000:Int):Rat)=5400000:=rfl;rw [abZ,abZ,z,icast,icast];have q1:=backq (F (-b).toNat a.toNat:Rat);have q2:=backq (C (-b).toNat a.toNat:Rat);have A:=BX (a:=a) (by omega);have B:=BX (a:=b) (by omega);have m1:=wY A (q1.1.wide (f:=40000*u0) (by grind));have m2:=wY B (q1.2.wide (f:=40000*u0) (by grind));have m3:=wY A (q2.1.wide (f:=40000*u0) (by grind));have m4:=wY B (q2.2.wide (f:=40000*u0) (by grind));rw [show (a:Rat)*-co (F (-b).toNat a.toNat:Rat)=-((a:Rat)*co (F (-b).toNat a.toNat:Rat)) by grind] at m1;rw [show (a:Rat)*-co (C (-b).toNat a.toNat:Rat)=-((a:Rat)*co (C (-b).toNat a.toNat:Rat)) by grind] at m3;rw [show -(b:Rat)*si (F (-b).toNat a.toNat:Rat)=-((b:Rat)*si (F (-b).toNat a.toNat:Rat)) by grind,show -(b:Rat)*si (C (-b).toNat a.toNat:Rat)=-((b:Rat)*si (C (-b).toNat a.toNat:Rat)) by grind] at f;clear q1 q2 A B be u ee;unfold Cl at*;generalize (a:Rat)*si ((F (-b).toNat a.toNat:Rat)-5400000)=x1 at*;generalize (b:Rat)*co ((F (-b).toNat a.toNat:Rat)-5400000)=x2 at*;generalize (a:Rat)*si ((C (-b).toNat a.toNat:Rat)-5400000)=x3 at*;generalize (b:Rat)*co ((C (-b).toNat a.toNat:Rat)-5400000)=x4 at*;generalize (a:Rat)*co (F (-b).toNat a.toNat:Rat)=x5 at*;generalize (b:Rat)*si (F (-b).toNat a.toNat:Rat)=x6 at*;generalize (a:Rat)*co (C (-b).toNat a.toNat:Rat)=x7 at*;generalize (b:Rat)*si (C (-b).toNat a.toNat:Rat)=x8 at*;constructor<;>grind
theorem AU {z t:Rat} (h0:0≤z) (h1:z≤10800000-1/2^13) (ht:t≤1/2^40) (h:si z≤t):z≤8000000*(t+e0):=by
 have b:=jY;have u:=aY;have ee:e0=1048576*u0:=rfl;have eb:=dY;rcases (abX:z≤5400000∨5400000≤z) with c | c
 ·have p:=(iW h0 c).1;have m:z/3437750≤tb*z:=by
   have:=aaQ (show 0≤tb-1/3437750 by grind) h0;grind
  generalize si z=s at*;generalize tb*z=w at*;grind
 ·exfalso;have p:=(iW (q:=10800000-z) (by grind) (by grind)).1;have r:=EB z;have m:=aaQ (show 0≤tb-1/3437750 by grind) (show 0≤10800000-z by grind);unfold Cl at r;generalize si (10800000-z)=s' at*;generalize si z=s at*;generalize tb=w at*;grind
theorem pos_co {p ρ:Rat} (h0:-10800000≤p) (h1:p≤10800000) (hr0:0≤ρ) (hr1:ρ≤8589934592) (h:1/2≤ρ*co p):-5400000+1/2^13≤p∧p≤5400000-1/2^13:=by
 have u:=aY;have ee:e0=1048576*u0:=rfl;have eb:=dY;have b:=jY;have key:∀q:Rat,0≤q→q≤10800000→1/2≤ρ*co q→q≤5400000-1/2^13:=fun q g0 g1 g=>by
  rcases (abX:q≤5400000-1/2^13∨5400000-1/2^13≤q) with c | c
  ·exact c
  ·exfalso;have r:=(yY q).1;have k:co q≤1/2^34-1/2^36:=by
    unfold Cl at r;rcases (abX:q≤5400000∨5400000≤q) with e | e
    ·have s:=(iW (q:=5400000-q) (by grind) (by grind)).2;have m:=aaQ (show 0≤1/3437740-tb by grind) (show 0≤5400000-q by grind);generalize si (5400000-q)=s' at*;generalize co q=s at*;generalize tb=w at*;grind
    ·have s:=gG (q:=q-5400000) (by grind) (by grind);have n:=(gL (q:=q-5400000) (by grind) (by grind)).1;rw [show -(q-5400000)=5400000-q by grind] at n;rw [n] at r;generalize si (q-5400000)=s' at*;generalize co q=s at*;grind
   have m:=aaQ hr0 (show 0≤1/2^34-1/2^36-co q by grind);generalize co q=s at*;grind
 rcases (abX:0≤p∨p≤0) with c | c
 ·have:=key p c h1 h;exact ⟨by grind,this⟩
 ·have n:=vK p;by_cases hp:p=-10800000
  ·exfalso;have r:=(yY p).1;have o:=(yY (-p)).1;subst hp;have k:=key 10800000 (by grind) (by grind) ?_
   ·grind
   ·have t:=(eQ (-10800000) 1).1;rw [show ((1:Int):Rat)=1 by rfl,show (-10800000:Rat)+21600000*1=10800000 by grind] at t;rw [t];exact h
  ·have e:=(gL (q:=p) (by grind) (by grind)).2;have:=key (-p) (by grind) (by grind) (by rw [e];exact h);exact ⟨by grind,by grind⟩
theorem fin_x {a ρ X t w:Rat} (ha:1≤a) (hρ:1/4≤ρ) (ht:0≤t) (hw:0≤w) (h:a*(ρ*X)≤t*(2+2*ρ)+w):X≤10*t+4*w:=by
 rcases (abX:X≤10*t+4*w∨10*t+4*w≤X) with c | c
 ·exact c
 ·have x0:0≤X:=by grind
  have m1:=aaQ (show 0≤a-1 by grind) (aaQ (show 0≤ρ by grind) x0);have m2:=aaQ (show 0≤ρ-1/4 by grind) (show 0≤X-2*t by grind);grind
theorem big_f:2^100*e0≤e1:=by decide+kernel
theorem cross_B {a b:Rat} {k p ρ t:Rat} (ha:1≤a) (hb:-2147483648≤b∧b≤2147483648) (hk0:-5400000≤k) (hk1:k≤5400000) (hp:-5400000+1/2^13≤p∧p≤5400000-1/2^13) (hr0:0≤ρ) (hr:1/2≤ρ*co p) (ht:0≤t) (ht1:t≤1/2^50) (ha1:a≤2147483648) (hr1:ρ≤8589934592):
  (a*si k≤b*co k+t→b*(ρ*co p)≤a*(ρ*si p)+t→k≤p+8000000*(16*t+e1))∧
  (b*co k≤a*si k+t→a*(ρ*si p)≤b*(ρ*co p)+t→p≤k+8000000*(16*t+e1)):=by
 have u:=aY;have ee:e0=1048576*u0:=rfl;have eb:=dY;have e1b:=iL;have be:=big_f;have ck:=IE (q:=k) (d:=0) hk0 hk1 (by grind) (by grind) (by grind);rw [show tb*0/2-e0=-e0 by grind] at ck;have bk:=cL k;have bp:=cL p;have hρ:1/4≤ρ:=by
  have m:=aaQ hr0 (show 0≤2-co p by grind);generalize co p=c at*;grind
 have hc2:ρ*co p≤2*ρ:=by
  have m:=aaQ hr0 (show 0≤2-co p by grind);grind
 have q1:=aB (a:=ρ) (b:=co p) (A:=8589934592) (B:=2) (by grind) hr1 bp.1.1 bp.1.2;have q2:=aB (a:=ρ) (b:=si p) (A:=8589934592) (B:=2) (by grind) hr1 bp.2.1 bp.2.2;have q3:=aB (a:=b) (b:=ρ*co p) (A:=2147483648) (B:=8589934592*2) hb.1 hb.2 q1.1 q1.2;have q4:=aB (a:=a) (b:=ρ*si p) (A:=2147483648) (B:=8589934592*2) (by grind) ha1 q2.1 q2.2;have q5:=aB (a:=e0) (b:=b*(ρ*co p)-a*(ρ*si p)) (A:=e0) (B:=2^70) (by grind) (by grind) (by grind) (by grind);have s1:=(qH k p).2;have s2:=(qH p k).2;have f1:=fin_x (X:=si k*co p-co k*si p) ha hρ ht (w:=e1/2^20);have f2:=fin_x (X:=si p*co k-co p*si k) ha hρ ht (w:=e1/2^20);have i1:a*(ρ*(si k*co p-co k*si p))=a*si k*(ρ*co p)-a*(ρ*si p)*co k:=by grind
 have i2:a*(ρ*(si p*co k-co p*si k))=a*(ρ*si p)*co k-a*si k*(ρ*co p):=by grind
 rw [i1] at f1;rw [i2] at f2;unfold Cl at s1 s2;have tc:=aaQ ht (show 0≤2*ρ-ρ*co p by grind);have tk:=aaQ ht (show 0≤2-co k by grind);have te:=aaQ ht (show 0≤e0 by grind);have te2:=aaQ (show 0≤1-t by grind) (show 0≤e0 by grind);have w0:0≤e1/2^20:=by grind
 clear q1 q2 q3 q4 i1 i2 bk;constructor
 ·intro g1 g2;rcases (abX:k≤p∨p≤k) with c | c
  ·grind
  ·have w:=AU (z:=k-p) (t:=16*t+e1/2) (by grind) (by grind) (by grind) ?_
   ·grind
   ·have m1:=aaQ (show 0≤b*co k+t-a*si k by grind) (show 0≤ρ*co p by grind);have m2:=aaQ (show 0≤a*(ρ*si p)+t-b*(ρ*co p) by grind) (show 0≤co k+e0 by grind);have:=f1 (by grind) ?_
    ·generalize si k*co p-co k*si p=X at*;generalize si (k-p)=s at*;grind
    ·generalize a*(ρ*si p)=A at*;generalize a*si k=B at*;generalize ρ*co p=P at*;generalize co k=c at*;grind
 ·intro g1 g2;rcases (abX:p≤k∨k≤p) with c | c
  ·grind
  ·have w:=AU (z:=p-k) (t:=16*t+e1/2) (by grind) (by grind) (by grind) ?_
   ·grind
   ·have m1:=aaQ (show 0≤a*si k+t-b*co k by grind) (show 0≤ρ*co p by grind);have m2:=aaQ (show 0≤b*(ρ*co p)+t-a*(ρ*si p) by grind) (show 0≤co k+e0 by grind);have:=f2 (by grind) ?_
    ·generalize si p*co k-co p*si k=X at*;generalize si (p-k)=s at*;grind
    ·generalize a*(ρ*si p)=A at*;generalize a*si k=B at*;generalize ρ*co p=P at*;generalize co k=c at*;grind
theorem half_B {y0 y1 x0 x1:Int} {p ρ e:Rat} (hx0:0<x0) (hx:x0≤x1) (hy:y0≤y1) (b0:x1≤2147483648) (b1:-2147483648≤y0) (b2:y1≤2147483648)
  (hp0:-10800000≤p) (hp1:p≤10800000) (hr0:0≤ρ) (hr1:ρ≤8589934592) (he:0≤e) (he1:e≤1/2^90)
  (hX:Hs e x0 x1 (ρ*co p)) (hY:Hs e y0 y1 (ρ*si p)):Hs (2^64*(e+e1)) (AG y0 x0 x1) (LP y1 x0 x1) p:=by
 have u:=aY;have ee:e0=1048576*u0:=rfl;have eb:=dY;have e1b:=iL;have X0:=xD hx0;have z0:((0:Int):Rat)=0:=rfl;rw [z0] at X0;have X01:=aV hx;have Y01:=aV hy;have X1:=aV b0;have Y0:=aV b1;have Y1:=aV b2;have zb:((2147483648:Int):Rat)=2147483648:=rfl;have zc:((-2147483648:Int):Rat)=-2147483648:=rfl;rw [zb] at X1 Y1;rw [zc] at Y0;have hr:1/2≤ρ*co p:=by unfold Hs at hX;grind
 have hp:=pos_co hp0 hp1 hr0 hr1 hr;have t0:0≤8589934592*e+2*e1:=by grind
 have t1:8589934592*e+2*e1≤1/2^50:=by grind
 obtain ⟨X,xa,xb,xc⟩:=hX.clamp he hx;obtain ⟨Y,ya,yb,yc⟩:=hY.clamp he hy;have err:∀a b:Rat,(-2147483648≤a∧a≤2147483648)→(-2147483648≤b∧b≤2147483648)→-(8589934592*e)≤(a*(ρ*si p)-b*(ρ*co p))-(a*Y-b*X)∧(a*(ρ*si p)-b*(ρ*co p))-(a*Y-b*X)≤8589934592*e:=fun a b ha hb=>by
  have m1:=aB ha.1 ha.2 yc.1 yc.2;have m2:=aB hb.1 hb.2 xc.1 xc.2;rw [show (a*(ρ*si p)-b*(ρ*co p))-(a*Y-b*X)=a*(ρ*si p-Y)-b*(ρ*co p-X) by grind];generalize a*(ρ*si p-Y)=v at*;generalize b*(ρ*co p-X)=w at*;constructor<;>grind
 have fin:8000000*(16*(8589934592*e+2*e1)+e1)≤2^64*(e+e1):=by grind
 have lowK:∀a b:Int,EO a b→1≤(a:Rat)→(0≤(a:Rat)*Y-(b:Rat)*X)→(fl a b:Rat)≤p+2^64*(e+e1):=fun a b h ha hc=>by
  have f:=fl_B h;have fb:=uK a b;have A:=BX (a:=a) (by have:=h;unfold EO at this;omega);have B:=BX (a:=b) (by have:=h;unfold EO at this;omega);have k0:=aV fb.1;have k1:=aV (show fl a b≤5400000 by omega);have z5:((5400000:Int):Rat)=5400000:=rfl;have z6:((-5400000:Int):Rat)=-5400000:=rfl;rw [z5] at k1;rw [z6] at k0;have er:=err a b A B;have c:=(cross_B (a:=(a:Rat)) (b:=(b:Rat)) (k:=(fl a b:Rat)) ha B k0 k1 hp hr0 hr t0 t1 A.2 hr1).1 (by grind) (by grind);grind
 have highK:∀a b:Int,EO a b→1≤(a:Rat)→((a:Rat)*Y-(b:Rat)*X≤0)→p≤(ce a b:Rat)+2^64*(e+e1):=fun a b h ha hc=>by
  have f:=fl_B h;have fb:=uK a b;have A:=BX (a:=a) (by have:=h;unfold EO at this;omega);have B:=BX (a:=b) (by have:=h;unfold EO at this;omega);have k0:=aV (show -5400000≤ce a b by omega);have k1:=aV fb.2.2.1;have z5:((5400000:Int):Rat)=5400000:=rfl;have z6:((-5400000:Int):Rat)=-5400000:=rfl;rw [z5] at k1;rw [z6] at k0;have er:=err a b A B;have c:=(cross_B (a:=(a:Rat)) (b:=(b:Rat)) (k:=(ce a b:Rat)) ha B k0 k1 hp hr0 hr t0 t1 A.2 hr1).2 (by grind) (by grind);grind
 clear err fin hX hY;unfold Hs;constructor
 ·have:(AG y0 x0 x1:Rat)≤p+2^64*(e+e1):=by
   unfold AG;by_cases h:0≤y0
   ·rw [if_pos h];have h':=aV h;rw [z0] at h';refine lowK x1 y0 ⟨by omega,b0,by omega,by omega⟩ (by grind) ?_;have m1:=aaQ (show 0≤(x1:Rat) by grind) (show 0≤Y-(y0:Rat) by grind);have m2:=aaQ h' (show 0≤(x1:Rat)-X by grind);grind
   ·rw [if_neg h];have h':=aV (show y0≤0 by omega);rw [z0] at h';refine lowK x0 y0 ⟨by omega,by omega,by omega,by omega⟩ (by grind) ?_;have m1:=aaQ (show 0≤(x0:Rat) by grind) (show 0≤Y-(y0:Rat) by grind);have m2:=aaQ (show 0≤-(y0:Rat) by grind) (show 0≤X-(x0:Rat) by grind);grind
  grind
 ·unfold LP;by_cases h:0≤y1
  ·rw [if_pos h];have h':=aV h;rw [z0] at h';refine highK x0 y1 ⟨by omega,by omega,by omega,by omega⟩ (by grind) ?_;have m1:=aaQ (show 0≤(x0:Rat) by grind) (show 0≤(y1:Rat)-Y by grind);have m2:=aaQ h' (show 0≤X-(x0:Rat) by grind);grind
  ·rw [if_neg h];have h':=aV (show y1≤0 by omega);rw [z0] at h';refine highK x1 y1 ⟨by omega,by omega,by omega,by omega⟩ (by grind) ?_;have m1:=aaQ (show 0≤(x1:Rat) by grind) (show 0≤(y1:Rat)-Y by grind);have m2:=aaQ (show 0≤-(y1:Rat) by grind) (show 0≤(x1:Rat)-X by grind);grind
def Dr (d:Rat) (lo hi:Int) (q:Rat):Prop:=∃m:Int,Hs d lo hi (q+21600000*(m:Rat))
theorem Dr.all {d:Rat} (hd:0≤d) (q:Rat):Dr d 0 21600000 q:=by
 have a:=Rat.floor_le (q/21600000);have b:=Rat.lt_floor_add_one (q/21600000);rw [BV,show ((1:Int):Rat)=1 by rfl] at b;refine ⟨-(q/21600000).floor,?_⟩;rw [afQ];unfold Hs;rw [show ((0:Int):Rat)=0 by rfl,show ((21600000:Int):Rat)=21600000 by rfl];generalize ((q/21600000).floor:Rat)=f at*;constructor<;>grind
theorem bear_B {yl yh xl xh:Int} {q ρ e:Rat} (hvy:aN yl yh=true) (hvx:aN xl xh=true) (hr0:0≤ρ) (hr1:ρ≤8589934592) (he:0≤e) (he1:e≤1/2^91)
  (hY:Hs e yl yh (ρ*si q)) (hX:Hs e xl xh (ρ*co q)):(aX yl yh xl xh).2.2=0∧Dr (2^64*(e+2*e1)) (aX yl yh xl xh).1 (aX yl yh xl xh).2.1 q:=by
 have u:=aY;have ee:e0=1048576*u0:=rfl;have eb:=dY;have e1b:=iL;have be:=big_f;cases ho:dI yl yh xl xh with
 | true=>
  have ev:aX yl yh xl xh=(0,21600000,0):=by
   unfold aX;rw [hvy,hvx,ho];simp
  rw [ev];exact ⟨rfl,Dr.all (by grind) q⟩
 | false=>
  obtain ⟨j,hj,hx0⟩:=RL ho;obtain ⟨y0,y1,x0,x1,hr⟩:∃y0 y1 x0 x1,lT yl yh xl xh j=(y0,y1,x0,x1):=⟨_,_,_,_,rfl⟩;rw [hr] at hx0;dsimp only at hx0;have ev:=nJ hvx hvy ho hj hr hx0;have vx:=iP hvx;have vy:=iP hvy;have mF:Hs (e+e1) x0 x1 (ρ*co (jB (q-5400000*(j:Rat))))∧Hs (e+e1) y0 y1 (ρ*si (jB (q-5400000*(j:Rat)))):=by
   have t:=eQ (q-5400000*(j:Rat)) (-tm (q-5400000*(j:Rat)));have er:(q-5400000*(j:Rat))+21600000*((-tm (q-5400000*(j:Rat)):Int):Rat)=jB (q-5400000*(j:Rat)):=by
    unfold jB;rw [afQ];grind
   rw [er] at t;rw [t.1,t.2];have sc:∀{p r:Rat},Cl (40000*u0) p r→Cl e1 (ρ*p) (ρ*r):=fun {p r} h=>by
    have m:=aB (a:=ρ) (b:=p-r) (A:=8589934592) (B:=40000*u0) (by grind) hr1 h.1 h.2;unfold Cl;rw [show ρ*p-ρ*r=ρ*(p-r) by grind];generalize ρ*(p-r)=w at*;constructor<;>grind
   rcases (show j=0∨j=1∨j=2∨j=3 by omega) with rfl | rfl | rfl | rfl<;>simp only [lT,Prod.mk.injEq] at hr<;>obtain ⟨rfl,rfl,rfl,rfl⟩:=hr
   ·rw [show ((0:Nat):Rat)=0 by rfl,show q-5400000*0=q by grind];exact ⟨hX.wide (by grind) (abJ _) (abJ _),hY.wide (by grind) (abJ _) (abJ _)⟩
   ·rw [show ((1:Nat):Rat)=1 by rfl,show q-5400000*1=q-5400000 by grind];have b:=backq q;have s1:=sc (b.1.wide (f:=40000*u0) (by grind));have s2:=sc (b.2.wide (f:=40000*u0) (by grind));rw [show ρ*-co q=-(ρ*co q) by grind] at s1;exact ⟨hY.near s2,hX.neg.near s1⟩
   ·rw [show ((2:Nat):Rat)=2 by rfl,show q-5400000*2=q-10800000 by grind];have o:=oppq (q-10800000);rw [show q-10800000+10800000=q by grind] at o;have s1:=(sc (o.1.wide (f:=40000*u0) (by grind))).neg.symm;have s2:=(sc (o.2.wide (f:=40000*u0) (by grind))).neg.symm;rw [show -(ρ*-co (q-10800000))=ρ*co (q-10800000) by grind] at s1;rw [show -(ρ*-si (q-10800000))=ρ*si (q-10800000) by grind] at s2;exact ⟨hX.neg.near s1,hY.neg.near s2⟩
   ·have b:=yY (-q);have n:=vK q;rw [show 5400000- -q=q+5400000 by grind] at b;have t2:=eQ (q-5400000*((3:Nat):Rat)) 1;rw [show ((1:Int):Rat)=1 by rfl,show ((3:Nat):Rat)=3 by rfl,show q-5400000*3+21600000*1=q+5400000 by grind] at t2;rw [show ((3:Nat):Rat)=3 by rfl,←t2.1,←t2.2];have s1:=sc ((b.1.trans n.1).wide (f:=40000*u0) (by grind));have s2:=sc ((b.2.trans n.2).wide (f:=40000*u0) (by grind));rw [show ρ*-si q=-(ρ*si q) by grind] at s2;exact ⟨hY.neg.near s2,hX.near s1⟩
  have hbd:x0≤x1∧y0≤y1∧x1≤2147483648∧-2147483648≤y0∧y1≤2147483648:=by
   rcases (show j=0∨j=1∨j=2∨j=3 by omega) with rfl | rfl | rfl | rfl<;>simp only [lT,Prod.mk.injEq] at hr<;>omega
  have rb:=qF (q-5400000*(j:Rat));have h:=half_B hx0 hbd.1 hbd.2.1 hbd.2.2.1 hbd.2.2.2.1 hbd.2.2.2.2 rb.1 (by grind) hr0 hr1 (e:=e+e1) (by grind) (by grind) mF.1 mF.2;rw [ev];refine ⟨rfl,?_⟩;obtain ⟨k,hk⟩:∃k:Int,(AG y0 x0 x1+5400000*(j:Int))%21600000=AG y0 x0 x1+5400000*(j:Int)-21600000*k:=⟨(AG y0 x0 x1+5400000*(j:Int))/21600000,by omega⟩;refine ⟨-tm (q-5400000*(j:Rat))-k,?_⟩;dsimp only;rw [hk];unfold Hs at h ⊢;have ej:((j:Int):Rat)=(j:Rat):=rfl;rw [acQ,abZ,acQ,acX,acX,ej,abZ,abZ,afQ,show ((5400000:Int):Rat)=5400000 by rfl,show ((21600000:Int):Rat)=21600000 by rfl];have er:jB (q-5400000*(j:Rat))=q-5400000*(j:Rat)-21600000*(tm (q-5400000*(j:Rat)):Rat):=rfl;rw [er] at h;generalize (tm (q-5400000*(j:Rat)):Rat)=M at*;generalize (AG y0 x0 x1:Rat)=A at*;generalize (LP y1 x0 x1:Rat)=B at*;clear mF ev rb;constructor<;>grind
end TB
end
section
open SM Ev TB TA
theorem AC (e:Int):bG 0 e=e:=rfl
theorem bW {a b:Int} (h:gK a b=true):aE a b=true∧-5400000≤a∧a≤b∧b≤5400000:=by
 unfold gK at h;simp only [Bool.and_eq_true,decide_eq_true_eq] at h;have:=cG h.1;exact ⟨h.1,by omega,by omega,by omega⟩
theorem gA {a b c d e f:Int} (h:dV a b c d e f=true):gK a b=true∧gK c d=true∧aE e f=true:=by
 unfold dV at h;simp only [Bool.and_eq_true] at h;exact ⟨h.1,h.2.1,h.2.2⟩
theorem CA {a b:Int} (h1:-5400000≤a) (h2:a≤b) (h3:b≤5400000):gK a b=true:=by
 unfold gK;rw [aR (by omega) h2 (by omega)];simp;omega
theorem wH {a b c d e f:Int} (h1:gK a b=true) (h2:gK c d=true) (h3:aE e f=true):dV a b c d e f=true:=by
 unfold dV;rw [h1,h2,h3];rfl
theorem pP {a b c d:Int} (h1:-100000000≤a) (h2:a≤b) (h3:b≤100000000) (h4:-100000000≤c) (h5:c≤d) (h6:d≤100000000):
  kK a b c d=(a-d,b-c,0):=by
 unfold kK;rw [if_pos ⟨aR (by omega) h2 (by omega),aR (by omega) h5 (by omega)⟩];unfold tU pS;simp;omega
def fJ (r:Int×Int×Int):Prop:=-1073741824≤r.1∧r.1≤r.2.1∧r.2.1≤1073741824∧r.2.2=0
theorem fJ.val {r:Int×Int×Int} (h:fJ r):aN r.1 r.2.1=true:=fF (by have:=h.1;omega) h.2.1 (by have:=h.2.2.1;omega)
theorem aU {a b:Int} (h:aE a b=true):fJ (aK a b):=(qE h).1
theorem aW {a b:Int} (h:aE a b=true):fJ (aI a b):=(qE h).2.1
theorem iX {a b:Int} (h:aE a b=true):fJ (dT a b):=by
 have:=(qE h).2.2;exact ⟨by omega,this.2.1,this.2.2.1,this.2.2.2⟩
theorem aM {r s:Int×Int×Int} (h:fJ r) (k:fJ s):fJ (bF r.1 r.2.1 s.1 s.2.1):=by
 have m:=mul_one h.1 h.2.1 h.2.2.1 k.1 k.2.1 k.2.2.1;exact ⟨m.2.1,m.2.2.1,m.2.2.2,m.1⟩
theorem wV {r:Int×Int×Int} (h:fJ r):mM r.1 r.2.1=(-r.2.1,-r.1,0)∧fJ (mM r.1 r.2.1):=by
 have e:mM r.1 r.2.1=(-r.2.1,-r.1,0):=by unfold mM;rw [if_pos h.val]
 refine ⟨e,?_⟩;rw [e];obtain ⟨h1,h2,h3,h4⟩:=h;exact ⟨by dsimp only;omega,by dsimp only;omega,by dsimp only;omega,rfl⟩
theorem qP {r s:Int×Int×Int} (h:fJ r) (k:fJ s):gB r.1 r.2.1 s.1 s.2.1=(r.1+s.1,r.2.1+s.2.1,0)∧aN (r.1+s.1) (r.2.1+s.2.1)=true:=by
 have hv:=h.val;have kv:=k.val;obtain ⟨h1,h2,h3,h4⟩:=h;obtain ⟨k1,k2,k3,k4⟩:=k;have v:aN (r.1+s.1) (r.2.1+s.2.1)=true:=fF (by omega) (by omega) (by omega);refine ⟨?_,v⟩;unfold gB;rw [if_pos (oC hv kv)];exact BT v
theorem wG {r s:Int×Int×Int} (h:fJ r) (k:fJ s):lJ r.1 r.2.1 s.1 s.2.1=(r.1-s.2.1,r.2.1-s.1,0)∧aN (r.1-s.2.1) (r.2.1-s.1)=true:=by
 have hv:=h.val;have kv:=k.val;obtain ⟨h1,h2,h3,h4⟩:=h;obtain ⟨k1,k2,k3,k4⟩:=k;have v:aN (r.1-s.2.1) (r.2.1-s.1)=true:=fF (by omega) (by omega) (by omega);refine ⟨?_,v⟩;unfold lJ;rw [if_pos (oC hv kv)];exact BT v
def qO (r:Int×Int×Int):Prop:=-5400000≤r.1∧r.1≤r.2.1∧r.2.1≤5400000∧r.2.2=0
theorem qO.val {r:Int×Int×Int} (h:qO r):aE r.1 r.2.1=true:=aR (by have:=h.1;omega) h.2.1 (by have:=h.2.2.1;omega)
theorem UX {r:Int×Int×Int} (hv:aN r.1 r.2.1=true) (e:(bE r.1 r.2.1).2.2=0):qO (bE r.1 r.2.1):=by
 have b:=UW r.1 r.2.1;obtain ⟨_,_,w1,w2,w3⟩:=asin_grow (c:=r.1) (d:=r.2.1) hv e (abJ _) (abJ _);exact ⟨by omega,w2,by omega,e⟩
theorem UY {r:Int×Int×Int} (h:fJ r):qO (bE r.1 r.2.1):=by
 refine UX h.val ?_;obtain ⟨h1,h2,h3,h4⟩:=h;unfold bE;rw [fF (by omega) h2 (by omega)];simp only [Bool.true_eq_false,if_false];rw [if_pos (by omega)]
def oB (r:Int×Int×Int):Prop:=0≤r.1∧r.1≤r.2.1∧r.1<21600000∧r.2.1≤r.1+21600000∧r.2.2=0
theorem lW {a b c d:Int} (h:aN a b=true) (k:aN c d=true):oB (aX a b c d):=by
 obtain ⟨p,q,e,h1,h2,h3,h4⟩:=bear_fit h k;rw [e];exact ⟨h1,h3,h2,h4,rfl⟩
theorem wL {a b c d:Int} (h:aN a b=true) (k:aN c d=true):((aX a b c d).1=0∧(aX a b c d).2.1=21600000)∨(aX a b c d).2.1<(aX a b c d).1+21600000:=by
 cases ho:dI a b c d with
 | true=>
  left;rw [VG k h ho];exact ⟨rfl,rfl⟩
 | false=>
  right;obtain ⟨j,hj,hx0⟩:=RL ho;obtain ⟨A,B,_,_,e,b1,b2,b3⟩:=VE k h ho hj hx0;rw [e];dsimp only;omega
theorem oB.val {r:Int×Int×Int} (h:oB r):aE r.1 r.2.1=true:=by
 obtain ⟨h1,h2,h3,h4,h5⟩:=h;exact aR (by omega) h2 (by omega)
def Vl (r:Int×Int×Int) (e:Rat) (X:Rat):Prop:=r.2.2=0∧aN r.1 r.2.1=true∧Hs e r.1 r.2.1 (1073741824*X)
theorem Vl.wide {r:Int×Int×Int} {e f X:Rat} (h:Vl r e X) (k:e≤f):Vl r f X:=⟨h.1,h.2.1,h.2.2.wide k (abJ _) (abJ _)⟩
theorem Vl.near {r:Int×Int×Int} {e t X Y:Rat} (h:Vl r e X) (k:Cl t Y X):Vl r (e+1073741824*t) Y:=by
 refine ⟨h.1,h.2.1,h.2.2.near ?_⟩;unfold Cl at*;constructor<;>grind
theorem OO {a b:Int} {d q:Rat} (hv:aE a b=true) (hd:0≤d) (hd1:d≤1) (h:Hs d a b q):Vl (aK a b) (2000*d+5*e1) (si q):=
 ⟨(aU hv).2.2.2,(aU hv).val,(sin_B hv hd hd1 h).wide (by have:=iL;grind) (abJ _) (abJ _)⟩
theorem DM {a b:Int} {d q:Rat} (hv:aE a b=true) (hd:0≤d) (hd1:d≤1) (h:Hs d a b q):Vl (aI a b) (2000*d+5*e1) (co q):=
 ⟨(aW hv).2.2.2,(aW hv).val,cos_B hv hd hd1 h⟩
theorem fX {r s:Int×Int×Int} {e X Y:Rat} (h:fJ r) (k:fJ s) (he:0≤e) (he1:e≤1/4) (h':Vl r e X) (k':Vl s e Y):Vl (bF r.1 r.2.1 s.1 s.2.1) (3*e) (X*Y):=by
 have m:=aM h k;have b:=mul_B he he1 h'.2.2 k'.2.2 h.2.1 k.2.1 h.1 h.2.2.1 k.1 k.2.2.1;rw [show 1073741824*X*(1073741824*Y)/1073741824=1073741824*(X*Y) by grind] at b;exact ⟨m.2.2.2,m.val,b⟩
theorem MO {r s:Int×Int×Int} {e f X Y:Rat} (h:fJ r) (k:fJ s) (h':Vl r e X) (k':Vl s f Y):Vl (gB r.1 r.2.1 s.1 s.2.1) (e+f) (X+Y):=by
 obtain ⟨ev,v⟩:=qP h k;have b:=h'.2.2.add k'.2.2;rw [ev];exact ⟨rfl,v,by rw [show 1073741824*(X+Y)=1073741824*X+1073741824*Y by grind];exact b⟩
theorem ZW {r s:Int×Int×Int} {e f X Y:Rat} (h:fJ r) (k:fJ s) (h':Vl r e X) (k':Vl s f Y):Vl (lJ r.1 r.2.1 s.1 s.2.1) (e+f) (X-Y):=by
 obtain ⟨ev,v⟩:=wG h k;have b:=h'.2.2.sub k'.2.2;rw [ev];exact ⟨rfl,v,by rw [show 1073741824*(X-Y)=1073741824*X-1073741824*Y by grind];exact b⟩
theorem neg_v {r:Int×Int×Int} {e X:Rat} (h:fJ r) (h':Vl r e X):Vl (mM r.1 r.2.1) e (-X):=by
 have n:=wV h;rw [n.1];rw [n.1] at n;refine ⟨rfl,n.2.val,?_⟩;rw [show 1073741824*-X=-(1073741824*X) by grind];exact h'.2.2.neg
theorem BE {r:Int×Int×Int} {e t d q X:Rat} (h:Vl r e X) (hq:Cl t (si q) X) (q0:-5400000≤q) (q1:q≤5400000) (he:0≤e) (ht:0≤t) (hd0:0≤d) (hs:e+1073741824*t≤1/4) (hd:100000*(e+1073741824*t+4*e1)≤d*d):
  qO (bE r.1 r.2.1)∧Hs d (bE r.1 r.2.1).1 (bE r.1 r.2.1).2.1 q:=by
 have k:=(h.near hq).2.2;have z:1073741824*si q=Sq q:=rfl;rw [z] at k;have ok:=asin_has h.2.1 (show 0≤e+1073741824*t by grind) hs k;exact ⟨UX h.2.1 ok,asin_B h.2.1 ok q0 q1 (by grind) k hd0 hd⟩
theorem xZ {r s:Int×Int×Int} {e t q ρ X Y:Rat} (h:Vl r e Y) (k:Vl s e X) (hy:Cl t (ρ*si q) Y) (hx:Cl t (ρ*co q) X) (hr0:0≤ρ) (hr1:ρ≤4) (he:0≤e) (ht:0≤t) (hs:e+1073741824*t≤1/2^91):
  oB (aX r.1 r.2.1 s.1 s.2.1)∧Dr (2^64*(e+1073741824*t+2*e1)) (aX r.1 r.2.1 s.1 s.2.1).1 (aX r.1 r.2.1 s.1 s.2.1).2.1 q:=by
 have h1:=(h.near hy).2.2;have k1:=(k.near hx).2.2;rw [show 1073741824*(ρ*si q)=1073741824*ρ*si q by grind] at h1;rw [show 1073741824*(ρ*co q)=1073741824*ρ*co q by grind] at k1;exact ⟨lW h.2.1 k.2.1,(bear_B (ρ:=1073741824*ρ) h.2.1 k.2.1 (by grind) (by grind) (by grind) hs h1 k1).2⟩
theorem TB.Dr.wide {d d':Rat} {lo hi:Int} {q:Rat} (h:Dr d lo hi q) (hd:d≤d'):Dr d' lo hi q:=by
 obtain ⟨m,h⟩:=h;exact ⟨m,h.wide hd (abJ _) (abJ _)⟩
theorem TB.Dr.agree {d e:Rat} {a b c f:Int} {q:Rat} (h:Dr d a b q) (k:Dr e c f q) (he:d+e<1) (hab:a≤b) (hcf:c≤f):(c-a)%21600000≤b-a∨(a-c)%21600000≤f-c:=by
 obtain ⟨m,h⟩:=h;obtain ⟨n,k⟩:=k;have k':Hs e (c+21600000*(m-n)) (f+21600000*(m-n)) (q+21600000*(m:Rat)):=by
  unfold Hs at*;rw [acQ,acQ,acX,abZ,show ((21600000:Int):Rat)=21600000 by rfl];generalize (m:Rat)=m' at*;generalize (n:Rat)=n' at*;constructor<;>grind
 have g:=h.meet k' he;generalize m-n=j at*;rcases asX a (c+21600000*j) with q1 | q1
 ·left;omega
 ·right;omega
namespace TB
def gJ (x y t:Rat):Rat:=si x*si y+co x*co y*co t
def gS (x y t:Rat):Rat:=si y*co x-co y*co t*si x
def iQ (y t:Rat):Rat:=-(co y*si t)
theorem LD (x y t:Rat):Cl (e0/2) (gJ x y t*gJ x y t+(gS x y t*gS x y t+iQ y t*iQ y t)) 1:=by
 have ee:e0=1048576*u0:=rfl;have u:=aY;have a:=nE x;have b:=nE y;have c:=nE t;have by2:=cL y;have bt2:=cL t;have i:gJ x y t*gJ x y t+gS x y t*gS x y t=(co x*co x+si x*si x)*(si y*si y+co y*co t*(co y*co t)):=by unfold gJ gS;grind
 have m0:=aB by2.1.1 by2.1.2 bt2.1.1 bt2.1.2;have m1:=aB by2.2.1 by2.2.2 by2.2.1 by2.2.2;have m2:=aB m0.1 m0.2 m0.1 m0.2;have m5:=aB by2.1.1 by2.1.2 by2.1.1 by2.1.2;generalize hA:co x*co x+si x*si x=A at*;have j:iQ y t*iQ y t=co y*co y*(co t*co t+si t*si t)-co y*co t*(co y*co t):=by unfold iQ;grind
 generalize hC:co t*co t+si t*si t=C at*;have p1:=aB (a:=A-1) (b:=si y*si y+co y*co t*(co y*co t)) (A:=8192*u0) (B:=32) a.1 a.2 (by grind) (by grind);have p2:=aB (a:=C-1) (b:=co y*co y) (A:=8192*u0) (B:=4) c.1 c.2 (by grind) (by grind);unfold Cl at*;have s:gJ x y t*gJ x y t+(gS x y t*gS x y t+iQ y t*iQ y t)-1=(A-1)*(si y*si y+co y*co t*(co y*co t))+(C-1)*(co y*co y)+(co y*co y+si y*si y-1):=by
  rw [show gJ x y t*gJ x y t+(gS x y t*gS x y t+iQ y t*iQ y t)-1=(gJ x y t*gJ x y t+gS x y t*gS x y t)+iQ y t*iQ y t-1 by grind,i,j];grind
 rw [s];generalize (A-1)*(si y*si y+co y*co t*(co y*co t))=v1 at*;generalize (C-1)*(co y*co y)=v2 at*;generalize co y*co y+si y*si y=v3 at*;constructor<;>grind
def eT:Rat:=pw 606
def eF:Rat:=pw 1245
def eG:Rat:=pw 618
def eC:Rat:=pw 612
def cC:Rat:=((2^612:Nat):Rat)
theorem e_tab:e0≤eF∧eF≤1/1000∧eF≤eG∧100*eF≤eG*eG∧40*e0*(cC*cC)≤2*eF∧8*eG≤eT∧32*eF≤eT∧0<eC∧eC*cC=1∧16*eC≤eT∧40*e0≤eC*eC∧100*e0≤eT∧0≤cC∧e0≤eC:=by decide+kernel
theorem aim {ρ X Y:Rat} (h0:-e0≤ρ) (h1:ρ≤2) (h:Cl (40*e0) (X*X+Y*Y) (ρ*ρ)):∃z:Rat,-10800000≤z∧z≤16200000∧Cl eT (ρ*co z) X∧Cl eT (ρ*si z) Y:=by
 obtain ⟨t1,t2,t3,t4,t5,t6,t7,t8,t9,t10,t11,t12,t13,t14⟩:=e_tab;have eb:=dY;rcases (abX:eC≤ρ∨ρ≤eC) with c | c
 ·obtain ⟨i,hi⟩:∃i:Rat,i*ρ=1:=⟨ρ⁻¹,Rat.inv_mul_cancel ρ (by grind)⟩;have i0:0≤i:=by
   rcases (abX:0≤i∨i≤0) with q | q
   ·exact q
   ·have:=aaQ (show 0≤-i by grind) (show 0≤ρ by grind);grind
  have i1:i≤cC:=by
   have m:=aaQ i0 (show 0≤ρ-eC by grind);have m2:i*eC≤1:=by grind
   have m3:=aaQ (show (0:Rat)≤cC by exact t13) (show 0≤1-i*eC by grind);have m4:cC*(1-i*eC)=cC-i*(eC*cC):=by grind
   rw [t9] at m4;clear t5;grind
  have hu:Cl (2*eF) (i*X*(i*X)+i*Y*(i*Y)) 1:=by
   have m:=aB (a:=i) (b:=i) (A:=cC) (B:=cC) (by grind) i1 (by grind) i1;have m2:=aB (a:=X*X+Y*Y-ρ*ρ) (b:=i*i) (A:=40*e0) (B:=cC*cC) h.1 h.2 m.1 m.2;have e:i*X*(i*X)+i*Y*(i*Y)-1=(X*X+Y*Y-ρ*ρ)*(i*i):=by
    have:i*i*(ρ*ρ)=1:=by
     rw [show i*i*(ρ*ρ)=(i*ρ)*(i*ρ) by grind,hi];grind
    grind
   unfold Cl;rw [e];generalize (X*X+Y*Y-ρ*ρ)*(i*i)=v at*;generalize cC*cC=w at*;constructor<;>grind
  obtain ⟨z,z0,z1,zc,zs⟩:=dir t1 t2 t3 t4 hu;refine ⟨z,z0,z1,?_,?_⟩
  ·have m:=aB (a:=ρ) (b:=co z-i*X) (A:=2) (B:=2*eG) (by grind) h1 zc.1 zc.2;have e:ρ*co z-X=ρ*(co z-i*X):=by
    have:ρ*(i*X)=X:=by rw [show ρ*(i*X)=(i*ρ)*X by grind,hi];grind
    grind
   unfold Cl;rw [e];generalize ρ*(co z-i*X)=v at*;constructor<;>grind
  ·have m:=aB (a:=ρ) (b:=si z-i*Y) (A:=2) (B:=8*eF) (by grind) h1 zs.1 zs.2;have e:ρ*si z-Y=ρ*(si z-i*Y):=by
    have:ρ*(i*Y)=Y:=by rw [show ρ*(i*Y)=(i*ρ)*Y by grind,hi];grind
    grind
   unfold Cl;rw [e];generalize ρ*(si z-i*Y)=v at*;constructor<;>grind
 ·have sX:=fC X;have sY:=fC Y;have r2:ρ*ρ≤eC*eC:=by
   have:=aaQ (show 0≤eC-ρ by grind) (show 0≤eC+ρ by grind);grind
  unfold Cl at h;have bX:=gX (z:=X) (f:=2*eC) (e:=4*(eC*eC)) (by grind) (by grind) (by grind);have bY:=gX (z:=Y) (f:=2*eC) (e:=4*(eC*eC)) (by grind) (by grind) (by grind);refine ⟨0,by grind,by grind,?_,?_⟩
  ·rw [co_0];unfold Cl;constructor<;>grind
  ·rw [si_0];unfold Cl;constructor<;>grind
theorem tri3 {A N E:Rat} (s:Cl (e0/2) (A*A+(N*N+E*E)) 1):∃h z:Rat,-5400000≤h∧h≤5400000∧-10800000≤z∧z≤16200000∧Cl (5*e0) (si h) A∧Cl eT (co h*co z) N∧Cl eT (co h*si z) E:=by
 have eb:=dY;have ee:e0=1048576*u0:=rfl;have u:=aY;have n2:=fC N;have e2:=fC E;have hy:=FX (z:=A) (e:=e0/2) (by grind) (by unfold Cl at s;grind);obtain ⟨y',y0,y1,yc⟩:∃y':Rat,-1≤y'∧y'≤1∧Cl (e0/2) y' A:=by
  rcases (abX:A≤1∨1≤A) with h | h
  ·rcases (abX:-1≤A∨A≤-1) with k | k
   ·exact ⟨A,k,h,Cl.refl _ (by grind)⟩
   ·exact ⟨-1,by grind,by grind,by unfold Cl;constructor<;>grind⟩
  ·exact ⟨1,by grind,by grind,by unfold Cl;constructor<;>grind⟩
 obtain ⟨h,h0,h1,hs⟩:=inv y0 y1;have qy:Cl (5*e0) (si h) A:=(hs.trans yc).wide (by grind);have c:=IE (q:=h) (d:=0) h0 h1 (by grind) (by grind) (by grind);rw [show tb*0/2-e0=-e0 by grind] at c;have b:=cL h;have un:=nE h;have m:=Cl.mul 2 3 qy qy b.2 (by constructor<;>grind);have d:Cl (40*e0) (N*N+E*E) (co h*co h):=by
  unfold Cl at*;generalize co h*co h=z1 at*;generalize si h*si h=z2 at*;generalize A*A=z3 at*;generalize N*N=z4 at*;generalize E*E=z5 at*;constructor<;>grind
 obtain ⟨z,z0,z1,zc,zs⟩:=aim c b.1.2 d;exact ⟨h,z,h0,h1,z0,z1,qy,zc,zs⟩
theorem LF (x y t:Rat):∃h z:Rat,-5400000≤h∧h≤5400000∧-10800000≤z∧z≤16200000∧Cl (5*e0) (si h) (gJ x y t)∧Cl eT (co h*co z) (gS x y t)∧Cl eT (co h*si z) (iQ y t):=tri3 (LD x y t)
theorem qU (y t:Rat):∃r k:Rat,-5400000≤r∧r≤5400000∧-10800000≤k∧k≤16200000∧Cl (5*e0) (si r) (co y*si t)∧Cl eT (co r*co k) (co y*co t)∧Cl eT (co r*si k) (si y):=by
 refine tri3 ?_;have ee:e0=1048576*u0:=rfl;have u:=aY;have b:=nE y;have c:=nE t;have by2:=cL y;have m5:=aB by2.1.1 by2.1.2 by2.1.1 by2.1.2;have p:=aB (a:=co t*co t+si t*si t-1) (b:=co y*co y) (A:=8192*u0) (B:=4) c.1 c.2 (by grind) (by grind);unfold Cl at*;rw [show co y*si t*(co y*si t)+(co y*co t*(co y*co t)+si y*si y)-1=(co t*co t+si t*si t-1)*(co y*co y)+(co y*co y+si y*si y-1) by grind];generalize (co t*co t+si t*si t-1)*(co y*co y)=v at*;generalize co y*co y+si y*si y=w at*;constructor<;>grind
end TB
end
section
open SM TB TA
open Ev (lt bG)
def dE (x y t h z:Rat):Prop:=-5400000≤h∧h≤5400000∧-10800000≤z∧z≤16200000∧Cl (5*e0) (si h) (gJ x y t)∧Cl eT (co h*co z) (gS x y t)∧Cl eT (co h*si z) (iQ y t)
def dS:Rat:=pw 230
theorem lv:0<e1∧0<eT∧0<dS∧1000*e1+1073741824*(100*eT)≤1/2^91∧100000*(1000*e1+1073741824*(100*eT)+4*e1)≤pw 275*pw 275∧0≤pw 275∧pw 275≤dS∧2^64*(1000*e1+1073741824*(100*eT)+2*e1)≤dS∧1000*e1+1073741824*(100*eT)≤1/4∧5*e0≤eT∧1000*e1≤1/4:=by decide+kernel
theorem TB.Hs.at {a b x:Int} (h1:a≤x) (h2:x≤b):Hs 0 a b (x:Rat):=Hs.int (by grind) h1 h2
theorem kG {a b:Int} {x:Rat} (hv:aE a b=true) (h:Hs 0 a b x):Vl (aK a b) (5*e1) (si x):=(OO hv (by grind) (by grind) h).wide (by grind)
theorem jI {a b:Int} {x:Rat} (hv:aE a b=true) (h:Hs 0 a b x):Vl (aI a b) (5*e1) (co x):=(DM hv (by grind) (by grind) h).wide (by grind)
structure Hold (a b c d e f:Int) (H Z:Int×Int×Int):Prop where
 lat:qO H
 dir:oB Z
 form:(Z.1=0∧Z.2.1=21600000)∨Z.2.1<Z.1+21600000
 up:∀x y t:Rat,Hs 0 a b x→Hs 0 c d y→Hs 0 e f t→∀h z:Rat,dE x y t h z→Hs dS H.1 H.2.1 h
 az:∀x y t:Rat,Hs 0 a b x→Hs 0 c d y→Hs 0 e f t→∀h z:Rat,dE x y t h z→Dr dS Z.1 Z.2.1 z
theorem vW (x y t:Rat):∃h z,dE x y t h z:=LF x y t
theorem mT {h:Rat} (h0:-5400000≤h) (h1:h≤5400000):-e0≤co h∧co h≤2:=by
 have c:=IE (q:=h) (d:=0) h0 h1 (by grind) (by grind) (by grind);rw [show tb*0/2-e0=-e0 by grind] at c;exact ⟨c,(cL h).1.2⟩
theorem AF {ρ z N E:Rat} (h0:-e0≤ρ) (h1:ρ≤2) (hn:Cl eT (ρ*co z) N) (he:Cl eT (ρ*si z) E):∃r:Rat,0≤r∧r≤2∧Cl (2*eT) (r*co z) N∧Cl (2*eT) (r*si z) E:=by
 have b:=cL z;have w:=lv.2.2.2.2.2.2.2.2.2.1;have eb:=dY;rcases (abX:0≤ρ∨ρ≤0) with c | c
 ·exact ⟨ρ,c,h1,hn.wide (by grind),he.wide (by grind)⟩
 ·refine ⟨0,by grind,by grind,?_,?_⟩
  ·have m:=aB (a:=ρ) (b:=co z) (A:=e0) (B:=2) h0 (by grind) b.1.1 b.1.2;unfold Cl at*;constructor<;>grind
  ·have m:=aB (a:=ρ) (b:=si z) (A:=e0) (B:=2) h0 (by grind) b.2.1 b.2.2;unfold Cl at*;constructor<;>grind
theorem up_v {r:Int×Int×Int} {x y t h z:Rat} (v:Vl r (1000*e1) (gJ x y t)) (s:dE x y t h z):qO (bE r.1 r.2.1)∧Hs dS (bE r.1 r.2.1).1 (bE r.1 r.2.1).2.1 h:=by
 obtain ⟨w1,w2,w3,w4,w5,w6,w7,w8,w9,w10,w11⟩:=lv;obtain ⟨h0,h1,z0,z1,k1,k2,k3⟩:=s;have eb:=dY;have k:=BE v (k1.wide (f:=100*eT) (by grind)) h0 h1 (by grind) (by grind) w6 w9 w5;exact ⟨k.1,k.2.wide w7 (abJ _) (abJ _)⟩
theorem az_v {r s:Int×Int×Int} {x y t h z:Rat} (v:Vl r (1000*e1) (iQ y t)) (w:Vl s (1000*e1) (gS x y t)) (se:dE x y t h z):oB (aX r.1 r.2.1 s.1 s.2.1)∧Dr dS (aX r.1 r.2.1 s.1 s.2.1).1 (aX r.1 r.2.1 s.1 s.2.1).2.1 z:=by
 obtain ⟨w1,w2,w3,w4,w5,w6,w7,w8,w9,w10,w11⟩:=lv;obtain ⟨h0,h1,z0,z1,k1,k2,k3⟩:=se;have cl:=mT h0 h1;obtain ⟨r',r0,r1,rn,re⟩:=AF cl.1 cl.2 k2 k3;have k:=xZ v w (re.wide (f:=100*eT) (by grind)) (rn.wide (f:=100*eT) (by grind)) r0 (by grind) (by grind) (by grind) w4;exact ⟨k.1,k.2.wide w8⟩
theorem Hold.meets {a b c d e f a' b' c' d' e' f':Int} {H Z H' Z':Int×Int×Int} {x y t:Rat} (h:Hold a b c d e f H Z) (k:Hold a' b' c' d' e' f' H' Z') (hx:Hs 0 a b x) (hy:Hs 0 c d y) (ht:Hs 0 e f t) (hx':Hs 0 a' b' x) (hy':Hs 0 c' d' y) (ht':Hs 0 e' f' t):
  H.1≤H'.2.1∧H'.1≤H.2.1∧oP Z.1 Z.2.1 Z'.1 Z'.2.1=(true,0)∧(cR H.1 H.2.1 H'.1 H'.2.1).2.2=0:=by
 obtain ⟨h',z',s⟩:=vW x y t;have ds:dS+dS<1:=by decide+kernel
 have m:=(h.up x y t hx hy ht h' z' s).meet (k.up x y t hx' hy' ht' h' z' s) ds;have n:=(h.az x y t hx hy ht h' z' s).agree (k.az x y t hx' hy' ht' h' z' s) ds h.dir.2.1 k.dir.2.1;refine ⟨m.1,m.2,?_,?_⟩
 ·unfold oP;rw [if_pos ⟨h.dir.val,k.dir.val⟩,decide_eq_true n]
 ·unfold cR;rw [if_pos ⟨h.lat.val,k.lat.val⟩,if_neg];have p:=h.lat.2.1;have q:=k.lat.2.1;unfold mx mn;split<;>split<;>omega
theorem OW {a b c d e f:Int} (h:dV a b c d e f=true):Hs 0 a b (a:Rat)∧Hs 0 c d (c:Rat)∧Hs 0 e f (e:Rat):=by
 obtain ⟨h1,h2,h3⟩:=gA h;have l1:=bW h1;have l2:=bW h2;have l3:=cG h3;exact ⟨Hs.at (abJ a) (by omega),Hs.at (abJ c) (by omega),Hs.at (abJ e) (by omega)⟩
end
section
open SM TB TA
def sbs (n:Nat):Nat→Nat→Nat→Nat
 | 0,low,_=>low
 | k+1,low,high=>if high-low≤1 then low else if ((low+high)/2)*((low+high)/2)≤n then sbs n k ((low+high)/2) high else sbs n k low ((low+high)/2)
theorem TQ (n:Nat):∀k l h,l<h→h-l≤2^k→l*l≤n→n<h*h→sbs n k l h*sbs n k l h≤n∧n<(sbs n k l h+1)*(sbs n k l h+1)
 | 0,l,h,h1,h2,h3,h4=>by
  have:h=l+1:=by omega
  subst this;exact ⟨h3,h4⟩
 | k+1,l,h,h1,h2,h3,h4=>by
  rw [apQ] at h2;unfold sbs;split
  ·rename_i c;have:h=l+1:=by omega
   subst this;exact ⟨h3,h4⟩
  ·split
   ·rename_i c d;exact TQ n k _ h (by omega) (by omega) d h4
   ·rename_i c d;exact TQ n k l _ (by omega) (by omega) h3 (by omega)
def nW (n:Int):Int:=((sbs n.toNat 32 0 4294967296:Nat):Int)
def JJ (n:Int):Int:=if nW n*nW n<n then nW n+1 else nW n
theorem yM {n:Int} (h0:0≤n) (h1:n<18446744073709551616):0≤nW n∧nW n*nW n≤n∧n<(nW n+1)*(nW n+1):=by
 have k:=TQ n.toNat 32 0 4294967296 (by omega) (by decide) (by omega) (by omega);have a:=Int.ofNat_le.2 k.1;have b:=Int.ofNat_lt.2 k.2;have e:((n.toNat:Nat):Int)=n:=ajQ h0;rw [e,ajX] at a;rw [e,ajX] at b;unfold nW;exact ⟨by omega,a,by simpa using b⟩
theorem RP {n:Int} (h0:0≤n) (h1:n<18446744073709551616):nW n≤JJ n∧n≤JJ n*JJ n∧(JJ n=nW n∨JJ n=nW n+1):=by
 have r:=yM h0 h1;unfold JJ;split
 ·exact ⟨by omega,by omega,.inr rfl⟩
 ·exact ⟨by omega,by omega,.inl rfl⟩
theorem sq_le {x m:Int} (h0:0≤x) (h1:x≤m):0≤x*x∧x*x≤m*m:=⟨aeJ h0 h0,anJ h1 h1 h0 (by omega)⟩
theorem lt_sq {x y:Int} (_hx:0≤x) (h:x*x<y*y) (hy:0≤y):x<y:=by
 rcases aiJ x y with q | q
 ·exact q
 ·have:=sq_le hy q;omega
theorem irt_mono {m n:Int} (h0:0≤m) (h:m≤n) (h1:n<18446744073709551616):nW m≤nW n∧JJ m≤JJ n:=by
 have a:=yM h0 (by omega);have b:=yM (n:=n) (by omega) h1;have c:=RP h0 (by omega);have d:=RP (n:=n) (by omega) h1;have le:nW m≤nW n:=by
  have:=lt_sq (x:=nW m) (y:=nW n+1) a.1 (by omega) (by omega);omega
 refine ⟨le,?_⟩;rcases aiJ (JJ n) (JJ m) with q | q
 ·exfalso;rcases c.2.2 with k | k
  ·omega
  ·have:JJ n≤nW m:=by omega
   have s:=sq_le (x:=JJ n) (m:=nW m) (by omega) this;have:nW m*nW m=m:=by omega
   unfold JJ at k;rw [if_neg (by omega)] at k;omega
 ·exact q
def LE (a b:Int):Int:=if a≤0∧0≤b then 0 else min (a*a) (b*b)
def CQ (a b:Int):Int:=max (a*a) (b*b)
def dN (a b:Int):Int×Int×Int:=if aN a b=true then lZ (LE a b/1073741824) (-(-CQ a b/1073741824)) else (0,0,1)
def CR (a b:Int):Int×Int×Int:=if aN a b=true then if b<0 then (0,0,2) else lZ (nW (max 0 a*1073741824)) (JJ (b*1073741824)) else (0,0,1)
theorem BD {x m:Int} (h0:-m≤x) (h1:x≤m):0≤x*x∧x*x≤m*m:=by
 rcases asX 0 x with h | h
 ·exact sq_le h h1
 ·have:=sq_le (x:=-x) (m:=m) (by omega) (by omega);rw [Int.neg_mul_neg] at this;exact this
theorem sqr_int {a b:Int} (h:aN a b=true):0≤LE a b∧LE a b≤CQ a b∧CQ a b≤4611686018427387904:=by
 have v:=iP h;have p:=BD (x:=a) (m:=2147483648) (by omega) (by omega);have q:=BD (x:=b) (m:=2147483648) (by omega) (by omega);unfold LE CQ;split<;>omega
theorem mG {r:Int×Int×Int} (h:fJ r):dN r.1 r.2.1=(LE r.1 r.2.1/1073741824,-(-CQ r.1 r.2.1/1073741824),0)∧fJ (dN r.1 r.2.1)∧0≤(dN r.1 r.2.1).1:=by
 obtain ⟨h1,h2,h3,h4⟩:=h;have hv:aN r.1 r.2.1=true:=fF (by omega) h2 (by omega);have p:=BD (x:=r.1) (m:=1073741824) (by omega) (by omega);have q:=BD (x:=r.2.1) (m:=1073741824) (by omega) (by omega);have i:=sqr_int hv;have j:CQ r.1 r.2.1≤1152921504606846976:=by unfold CQ;omega
 have e:dN r.1 r.2.1=(LE r.1 r.2.1/1073741824,-(-CQ r.1 r.2.1/1073741824),0):=by
  unfold dN lZ;rw [if_pos hv,if_pos (fF (by omega) (by omega) (by omega))]
 rw [e];unfold fJ;dsimp only;exact ⟨rfl,⟨by omega,by omega,by omega,rfl⟩,by omega⟩
theorem sqr_v {r:Int×Int×Int} {e X:Rat} (h:fJ r) (he:0≤e) (he1:e≤1/4) (h':Vl r e X):Vl (dN r.1 r.2.1) (3*e) (X*X):=by
 have k:=mG h;obtain ⟨h1,h2,h3,h4⟩:=h;refine ⟨k.2.1.2.2.2,k.2.1.val,?_⟩;rw [k.1];dsimp only;obtain ⟨Y,y0,y1,y2⟩:=Hs.clamp he h'.2.2 h2;generalize r.1=a at*;generalize r.2.1=b at*;have fl:=FN (LE a b);have fh:=FN (-CQ a b);rw [afQ] at fh;have lo:((LE a b:Int):Rat)≤Y*Y:=by
  unfold LE;split
  ·rw [show ((0:Int):Rat)=0 by rfl];exact fC Y
  ·rename_i c;rcases (show 0<a∨b<0 by omega) with g | g
   ·have m:((min (a*a) (b*b):Int):Rat)≤((a*a:Int):Rat):=aV (by omega);rw [acX] at m;have a0:0≤(a:Rat):=aV (a:=0) (by omega);have:=aaQ (show 0≤Y-(a:Rat) by grind) (show 0≤Y+(a:Rat) by grind);grind
   ·have m:((min (a*a) (b*b):Int):Rat)≤((b*b:Int):Rat):=aV (by omega);rw [acX] at m;have b0:(b:Rat)≤0:=aV (b:=0) (by omega);have:=aaQ (show 0≤(b:Rat)-Y by grind) (show 0≤-Y-(b:Rat) by grind);grind
 have hi:Y*Y≤((CQ a b:Int):Rat):=by
  unfold CQ;have m1:((a*a:Int):Rat)≤((max (a*a) (b*b):Int):Rat):=aV (by omega);have m2:((b*b:Int):Rat)≤((max (a*a) (b*b):Int):Rat):=aV (by omega);rw [acX] at m1 m2;rcases (abX:0≤Y∨Y≤0) with g | g
  ·have:=aaQ (show 0≤(b:Rat)-Y by grind) (show 0≤(b:Rat)+Y by grind);grind
  ·have:=aaQ (show 0≤Y-(a:Rat) by grind) (show 0≤-(a:Rat)-Y by grind);grind
 have a1:(-1073741824:Rat)≤(a:Rat):=aV (a:=-1073741824) h1;have b1:(b:Rat)≤1073741824:=aV (b:=1073741824) h3;have nr:Cl (3*e*1073741824) (1073741824*X*(1073741824*X)) (Y*Y):=by
  unfold Cl at y2 ⊢;generalize 1073741824*X=Z at*;have m1:=aaQ (show 0≤e+(Z-Y) by grind) (show 0≤1073741824-Y by grind);have m2:=aaQ (show 0≤e-(Z-Y) by grind) (show 0≤1073741824-Y by grind);have m3:=aaQ (show 0≤e+(Z-Y) by grind) (show 0≤1073741824+Y by grind);have m4:=aaQ (show 0≤e-(Z-Y) by grind) (show 0≤1073741824+Y by grind);have m5:=aaQ (show 0≤e-(Z-Y) by grind) (show 0≤e+(Z-Y) by grind);have m6:=fC (Z-Y);have m7:=aaQ he (show 0≤1/4-e by grind);constructor<;>grind
 unfold Cl at nr;unfold Hs;rw [afQ];generalize ((LE a b/1073741824:Int):Rat)=p at*;generalize ((-CQ a b/1073741824:Int):Rat)=q at*;generalize Y*Y=Y2 at*;constructor<;>grind
theorem sqt_ok {a b:Int} (h0:0≤a) (h1:a≤b) (h2:b≤2147483648):CR a b=(nW (a*1073741824),JJ (b*1073741824),0)∧0≤nW (a*1073741824)∧nW (a*1073741824)≤JJ (b*1073741824)∧JJ (b*1073741824)≤2147483648:=by
 have r:=yM (n:=a*1073741824) (by omega) (by omega);have s:=yM (n:=b*1073741824) (by omega) (by omega);have u:=RP (n:=b*1073741824) (by omega) (by omega);have m:=irt_mono (m:=a*1073741824) (n:=b*1073741824) (by omega) (by omega) (by omega);have c:nW (b*1073741824)<2147483648:=lt_sq s.1 (by omega) (by omega);unfold CR lZ;rw [if_pos (fF (by omega) h1 h2),if_neg (by omega),show max 0 a=a by omega,if_pos (fF (by omega) (by omega) (by omega))];exact ⟨rfl,by omega,by omega,by omega⟩
theorem sqt_v {r:Int×Int×Int} {e X τ σ:Rat} (h0:0≤r.1) (h':Vl r e (X*X)) (hX:0≤X) (ht:1073741824*e≤τ) (ht0:0≤τ) (hts:τ≤σ*σ) (hs0:0≤σ) (hs1:τ≤σ):Vl (CR r.1 r.2.1) σ X:=by
 obtain ⟨k1,k2,k3⟩:=h';have v:=iP k2;have q:=sqt_ok h0 v.2.1 v.2.2;refine ⟨by rw [q.1],by rw [q.1];exact fF (by dsimp only;omega) q.2.2.1 q.2.2.2,?_⟩;rw [q.1];dsimp only;generalize r.1=a at*;generalize r.2.1=b at*;have r1:=yM (n:=a*1073741824) (by omega) (by omega);have u2:=RP (n:=b*1073741824) (by omega) (by omega);have c1:=aV r1.2.1;have c2:=aV u2.2.1;rw [acX,acX,show ((1073741824:Int):Rat)=1073741824 by rfl] at c1;rw [acX,acX,show ((1073741824:Int):Rat)=1073741824 by rfl] at c2;have i1:nW (a*1073741824)=0∨(1:Rat)≤(nW (a*1073741824):Rat):=by
  rcases aoX r1.1 with h | h
  ·right;exact aV (a:=1) (by omega)
  ·left;omega
 have i2:JJ (b*1073741824)=0∨(1:Rat)≤(JJ (b*1073741824):Rat):=by
  rcases aoX (show 0≤JJ (b*1073741824) by omega) with h | h
  ·right;exact aV (a:=1) (by omega)
  ·left;omega
 clear r1 u2 q;generalize nW (a*1073741824)=lo at*;generalize JJ (b*1073741824)=hi at*;unfold Hs at k3 ⊢;have p0:0≤1073741824*X:=by grind
 have e2:1073741824*(1073741824*(X*X))=1073741824*X*(1073741824*X):=by grind
 generalize 1073741824*(X*X)=W at*;generalize 1073741824*X=ρ at*;constructor
 ·rcases i1 with i1 | i1
  ·rw [i1,show ((0:Int):Rat)=0 by rfl];grind
  ·rcases (abX:(lo:Rat)≤ρ+τ∨ρ+τ≤(lo:Rat)) with k | k
   ·grind
   ·have m:=aaQ (show 0≤(lo:Rat)-(ρ+τ) by grind) (show 0≤(lo:Rat)+ρ by grind);have m2:=aaQ ht0 (show 0≤(lo:Rat)+ρ-1 by grind);have m3:(lo:Rat)*(lo:Rat)-ρ*ρ≤τ:=by grind
    have m4:((lo:Rat)-(ρ+τ))*((lo:Rat)+ρ)≤0:=by grind
    have m5:((lo:Rat)-(ρ+τ))*((lo:Rat)+ρ)=0:=by grind
    rcases anZ.1 m5 with q | q
    ·grind
    ·grind
 ·rcases i2 with i2 | i2
  ·rw [i2,show ((0:Int):Rat)=0 by rfl] at c2 ⊢;have:=gX (z:=ρ) (f:=σ) (e:=τ) hs0 (by grind) hts;grind
  ·rcases (abX:ρ≤(hi:Rat)+τ∨(hi:Rat)+τ≤ρ) with k | k
   ·grind
   ·have m:=aaQ (show 0≤ρ-((hi:Rat)+τ) by grind) (show 0≤(hi:Rat)+ρ by grind);have m2:=aaQ ht0 (show 0≤(hi:Rat)+ρ-1 by grind);have m3:ρ*ρ-(hi:Rat)*(hi:Rat)≤τ:=by grind
    have m4:(ρ-((hi:Rat)+τ))*((hi:Rat)+ρ)≤0:=by grind
    have m5:(ρ-((hi:Rat)+τ))*((hi:Rat)+ρ)=0:=by grind
    rcases anZ.1 m5 with q | q
    ·grind
    ·grind
theorem half_v {a b:Int} {e q:Rat} (he:0≤e) (h:Hs e a b (2*q)):Hs e (a/2) (-(-b/2)) q:=by
 unfold Hs at*;have e0:((-1:Int):Rat)=-1:=rfl;have l:((a/2*2:Int):Rat)≤(a:Rat):=aV (by omega);have u:((-b/2*2:Int):Rat)≤((-b:Int):Rat):=aV (by omega);rw [acX,show ((2:Int):Rat)=2 by rfl] at l;rw [acX,afQ,show ((2:Int):Rat)=2 by rfl] at u;rw [afQ];generalize ((a/2:Int):Rat)=p at*;generalize ((-b/2:Int):Rat)=s at*;constructor<;>grind
theorem xY {a b k l:Int} (hv:aN a b=true) (hk:aN k l=true) (a0:0≤a) (k0:0≤k) (ho:dI a b k l=false):0≤(aX a b k l).1∧(aX a b k l).2.1≤5400000:=by
 have v:=iP hv;have w:=iP hk;rcases aoX k0 with h | h
 ·have e:=nJ (j:=0) hk hv ho (by omega) (show lT a b k l 0=(a,b,k,l) from rfl) h;have o:=rO (y0:=a) (y1:=b) (x0:=k) (x1:=l) h w.2.1 v.2.1 w.2.2 v.1 v.2.2;have z:0≤AG a k l:=by
   unfold AG;rw [if_pos a0];unfold fl;rw [if_pos a0];omega
  rw [e];dsimp only;omega
 ·have o0:¬(k≤0∧0≤l∧a≤0∧0≤b):=by
   simp only [dI,decide_eq_false_iff_not] at ho;exact ho
  have h2:0<a:=by omega
  have e:=nJ (j:=1) hk hv ho (by omega) (show lT a b k l 1=(-l,-k,a,b) from rfl) h2;have o:=rO (y0:=-l) (y1:=-k) (x0:=a) (x1:=b) h2 v.2.1 (by omega) v.2.2 (by omega) (by omega);have z:LP (-k) a b=0:=by
   unfold LP;rw [←h,Int.neg_zero,if_pos (by omega)];have x:=fl_neg (x:=a) (y:=0) ⟨h2,by omega,by omega,by omega⟩;have y:=RE h2 (show a≤2147483648 by omega);rw [Int.neg_zero,y] at x;omega
  have m:=o.1;have m2:=o.2.1;rw [z] at m2;rw [e,z,show ((1:Nat):Int)=1 from rfl];generalize AG (-l) a b=g at*;dsimp only;omega
end
def FS (n k b:Nat):Prop:=(b=0∧k*k≤n∧n<(k+1)*(k+1))∨∃j,j≤31∧b=2^j∧k+2^(j+1)≤4294967296∧k*k≤n∧n<(k+2^(j+1))*(k+2^(j+1))
theorem fs_start {n:Nat} (hn:n≤2305843009213693952):FS n 0 2147483648:=.inr ⟨31,by omega,by decide,by decide,by omega,by omega⟩
theorem fs_step {n k b:Nat} (hn:n≤2305843009213693952) (h:FS n k b) (hb:0<b):
  b≤2147483648∧k<2147483648∧k+b<3037000499∧((k+b)*(k+b)≤n→FS n (k+b) (b/2))∧(¬(k+b)*(k+b)≤n→FS n k (b/2)):=by
 rcases h with ⟨h,_⟩ | ⟨j,hj,rfl,hk,h1,h2⟩
 ·omega
 have hp:2^j≤2^31:=akJ (by omega) hj;have kb:k≤1518500250:=by
  rcases adZ 1518500250 k with q | q
  ·have:=aiX (show 1518500251≤k from q) (show 1518500251≤k from q);omega
  ·exact q
 have e:2^(j+1)=2^j*2:=apQ 2 j;have s:k+2^j<3037000499:=by
  rcases adZ j 31 with q | q
  ·have:2^j≤2^30:=akJ (by omega) (by omega);omega
  ·have:j=31:=by omega
   subst this;omega
 refine ⟨hp,by omega,s,fun hx=>?_,fun hx=>?_⟩
 ·cases j with
  | zero=>
   refine .inl ⟨rfl,hx,?_⟩;have:k+2^0+1=k+2^(0+1):=by omega
   rw [this];exact h2
  | succ i=>
   refine .inr ⟨i,by omega,by rw [apQ];omega,by omega,hx,?_⟩;have:k+2^(i+1)+2^(i+1)=k+2^(i+1+1):=by omega
   rw [this];exact h2
 ·cases j with
  | zero=>
   refine .inl ⟨rfl,h1,?_⟩;simpa using hx
  | succ i=>
   refine .inr ⟨i,by omega,by rw [apQ];omega,by omega,h1,by omega⟩
theorem fs_end {n k:Nat} (hn:n≤2305843009213693952) (h:FS n k 0):(k:Int)=nW (n:Int):=by
 have g:k*k≤n∧n<(k+1)*(k+1):=by
  rcases h with ⟨_,h1,h2⟩ | ⟨j,_,h,_⟩
  ·exact ⟨h1,h2⟩
  ·have:=Nat.two_pow_pos j;omega
 have o:=TQ n 32 0 4294967296 (by omega) (by decide) (by omega) (by omega);unfold nW;rw [Int.toNat_natCast];generalize sbs n 32 0 4294967296=r at*;rcases Nat.lt_trichotomy k r with q | q | q
 ·have:=aiX (show k+1≤r from q) (show k+1≤r from q);omega
 ·rw [q]
 ·have:=aiX (show r+1≤k from q) (show r+1≤k from q);omega
section
open Go.RowKit Go.Shelf
def RPostF (w:World) (v:Value) (e:Ending) (w':World):Prop:=e=.returned v∧Below w.heap.size w w'
def iOf:Value→Int
 | .int _ x=>x
 | _=>0
theorem fsq_bd {x:Int} (h0:0≤x) (h1:x<3037000499):0≤x*x∧x*x≤9223372036854775807:=by
 have a:=aeJ h0 h0;have b:=anJ (show x≤3037000498 by omega) (show x≤3037000498 by omega) h0 (by omega);omega
theorem froot_any (n:Nat) (hn:n≤2305843009213693952) (w:World):Calls aaZ 182 #[.int .i64 (n:Int)] w (RPostF w (.int .i64 (nW (n:Int)))):=by
 have HS:=aaX (fs_start hn);have HB:=aaX (Below.refl w.heap.size w);have HST:=aaX (fun (k b:Nat) (h:FS n k b) (hb:0<b)=>fs_step hn h hb);obtain ⟨R,hR⟩:∃R:Int,R=nW (n:Int):=⟨_,rfl⟩;have HEN:=aaX (fun (k:Nat) (h:FS n k 0)=>show (k:Int)=R from (fs_end hn h).trans hR.symm);rw [←hR];clear hR;obtain ⟨N,hN⟩:∃N:Int,N=(n:Int):=⟨_,rfl⟩;have n0:0≤N:=by omega
 have n1:N≤2305843009213693952:=by omega
 rw [←hN];replace hN:=aaX hN;clear hn;go_enter Tryz.func182,Tryz.ntmps182;go_wp2;go_loopw [3,4] (fun k b wr=>∃k' b':Nat,k=.int .i64 (k':Int)∧b=.int .i64 (b':Int)∧FS n k' b'∧Below w.heap.size w wr) (fun _ b _=>(iOf b).toNat)
 case atStart=>exact ⟨0,2147483648,rfl,rfl,HS.out,HB.out⟩
 case round=>
  clear HS HB;obtain ⟨k,b,rfl,rfl,hs,hb⟩:=hrel;have HB:=aaX hb;clear hb;rcases Nat.eq_zero_or_pos b with hb | hb
  ·subst hb;have HF:=aaX (show RPostF w (.int .i64 R) (.returned (.int .i64 (k:Int))) wr from ⟨by rw [HEN.out k hs],HB.out⟩);have z:¬(((0:Nat):Int)>0):=by omega
   clear hs;go_wp2;go_ret;exact HF.out
  ·obtain ⟨s1,s2,s3,s4,s5⟩:=HST.out k b hs hb;have hcm:=aaX (show ((k:Int)+(b:Int))*((k:Int)+(b:Int))≤N↔(k+b)*(k+b)≤n by rw [hN.out,←Int.natCast_add,←ajX];exact Int.ofNat_le);have hq:=aaX (show ((b/2:Nat):Int)=(b:Int)/2 by omega);have hx:=aaX (show (k:Int)+(b:Int)=((k+b:Nat):Int) from (Int.natCast_add k b).symm);have hs4:=aaX s4;have hs5:=aaX s5;clear s4 s5 hs;obtain ⟨K,hK⟩:∃K:Int,K=(k:Int):=⟨_,rfl⟩;obtain ⟨B,hB⟩:∃B:Int,B=(b:Int):=⟨_,rfl⟩;have i1:0≤K:=by omega
   have i2:K<2147483648:=by omega
   have i3:0<B:=by omega
   have i4:B≤2147483648:=by omega
   have i5:K+B<3037000499:=by omega
   rw [←hK,←hB] at hcm hx;rw [←hB] at hq;rw [←hK,←hB];replace hK:=aaX hK;replace hB:=aaX hB;clear s1 s2 s3 hb;have hw:i64.wrap ((K+B)*(K+B))=(K+B)*(K+B):=by
    have:=fsq_bd (x:=K+B) (by omega) i5;exact IntWalk.i64_in _ (by omega)
   have hfd:B.fdiv 2=B/2:=Int.fdiv_eq_ediv_of_nonneg _ (by omega);have ME:=aaX (show (iOf (.int .i64 (B/2))).toNat<(iOf (.int .i64 B)).toNat by simp only [iOf];omega);by_cases hc:(K+B)*(K+B)≤N
   ·have h4:=aaX (hs4.out (hcm.out.1 hc));clear hs4 hs5 hcm;go_wp2;go_roundw
    case rel=>exact ⟨k+b,b/2,by rw [hx.out],by rw [hq.out],h4.out,HB.out⟩
    case measure=>exact ME.out
   ·have h5:=aaX (hs5.out (fun q=>hc (hcm.out.2 q)));clear hs4 hs5 hcm;go_wp2;go_roundw
    case rel=>exact ⟨k,b/2,by rw [hK.out],by rw [hq.out],h5.out,HB.out⟩
    case measure=>exact ME.out
end
section
open Ev
def KN (n:Int):Bool:=decide (0≤n∧n≤2305843009213693952)
theorem WU (n:Int) (h:KN n=true):aH aaZ 182 [.int .i64 n] (.int .i64 (nW n)):=WZ fun w=>by
 obtain ⟨h1,h2⟩:=of_decide_eq_true h;have:=froot_any n.toNat (by omega) w;rwa [ajQ h1] at this
theorem ediv_bd {x d m:Int} (hd:1≤d) (h1:-m≤x) (h2:x≤m):-m-1≤x/d∧x/d≤m:=by
 have e:mU x d=x/d:=by
  unfold mU;rw [if_pos (by omega)]
 rw [←e];exact flD_bd x d (by omega) m h1 h2
theorem tmul_bd {x y:Int} (h1:-1099511627776≤x) (h2:x≤1099511627776) (h3:-1048576≤y) (h4:y≤1048576):-1152921504606846976≤x*y∧x*y≤1152921504606846976:=by
 have h:(x*y).natAbs=x.natAbs*y.natAbs:=Int.natAbs_mul x y;have:x.natAbs*y.natAbs≤1099511627776*1048576:=aiX (by omega) (by omega);omega
def aflP (a b:Int):Bool:=decide (0<b∧-4611686018427387904≤a∧a≤4611686018427387904)
def aflD (a b:Int):Int:=a/b
def kFs0:bJ:=(24,eP (fun a b=>.bool (aE a b)))::(70,eP (fun a b=>.bool (aN a b)))::(87,eII (fun a b=>aP (lZ a b)))::(121,tE tT (fun a b=>.int .i64 (mU a b)))::(122,tE tT (fun a b=>.int .i64 (zM a b)))::(154,eII (fun a b=>aP (tU a b)))::(182,eIif KN (fun a=>.int .i64 (nW a)))::[]
theorem kFs0_ok:aJ aaZ kFs0:=(aA (dD (fun a b W _=>lE a b W)) (aA (dD (fun a b W _=>iU a b W)) (aA (yG yK) (aA (kM BU) (aA (kM BK) (aA (yG KM) (aA (eIif_ok WU) fE)))))))
theorem aflD_gives (a b:Int) (hp:aflP a b=true):aH aaZ 181 [.int .i64 a,.int .i64 b] (.int .i64 (aflD a b)):=by
 refine aF bK kFs0_ok (t:=cond (b==0) (none) (cond (b==0) (none) (cond (decide ((Int.tmod a b)<0)) (some (.v (.int .i64 (i64.wrap ((i64.wrap (arZ a b))-1))))) (some (.v (.int .i64 (i64.wrap (arZ a b)))))))) (by kernel_rfl) ?_;obtain ⟨hb,ha1,ha2⟩:=of_decide_eq_true hp;have t:=GD a b 4611686018427387904 ha1 ha2;have s:=AW a b;have e0:(b==0)=false:=beq_eq_false_iff_ne.2 (by omega);rw [e0,bR (x:=arZ a b) (by omega),bR (x:=arZ a b-1) (by omega)];simp only [cond_false];unfold aflD;rw [RD a b hb];by_cases h1:a.tmod b<0
 ·rw [decide_eq_true h1,if_pos (by omega)];rfl
 ·rw [decide_eq_false h1,if_neg (by omega)];rfl
def CS (a b n d:Int):Int×Int×Int:=if aE a b=true then (if -1048576≤n∧n≤1048576∧1≤d∧d≤1048576 then tU (mn (a*n) (b*n)/d) (-(-mx (a*n) (b*n)/d)) else (0,0,2)) else (0,0,1)
def kFs1:bJ:=(181,tE aflP (fun a b=>.int .i64 (aflD a b)))::kFs0
theorem RR:aJ aaZ kFs1:=(aA (kM aflD_gives) kFs0_ok)
theorem timR_gives (a b c d:Int):aH aaZ 151 [.agg ⟨[.int .i64 a,.int .i64 b]⟩,.int .i64 c,.int .i64 d] (aP (CS a b c d)):=by
 refine aF bK RR (t:=cond (!(aE a b)) (some (.v (.tuple ⟨[.agg ⟨[.int .i64 0,.int .i64 0]⟩,.int .i64 1]⟩))) (cond (decide (c<(-1048576))) (some (.v (.tuple ⟨[.agg ⟨[.int .i64 0,.int .i64 0]⟩,.int .i64 2]⟩))) (cond (decide (c>1048576)) (some (.v (.tuple ⟨[.agg ⟨[.int .i64 0,.int .i64 0]⟩,.int .i64 2]⟩))) (cond (decide (d<1)) (some (.v (.tuple ⟨[.agg ⟨[.int .i64 0,.int .i64 0]⟩,.int .i64 2]⟩))) (cond (decide (d>1048576)) (some (.v (.tuple ⟨[.agg ⟨[.int .i64 0,.int .i64 0]⟩,.int .i64 2]⟩))) (cond (aflP (mn (i64.wrap (a*c)) (i64.wrap (b*c))) d) (cond (aflP (i64.wrap (0-(mx (i64.wrap (a*c)) (i64.wrap (b*c))))) d) (lt (tU (aflD (mn (i64.wrap (a*c)) (i64.wrap (b*c))) d) (i64.wrap (0-(aflD (i64.wrap (0-(mx (i64.wrap (a*c)) (i64.wrap (b*c))))) d)))) fun x1=>some (.v (.tuple ⟨[.agg ⟨[.int .i64 x1.1,.int .i64 x1.2.1]⟩,.int .i64 x1.2.2]⟩))) (none)) (none))))))) (by kernel_rfl) ?_;unfold CS;cases h:aE a b
 ·rfl
 ·have v:=cG h;by_cases c1:c< -1048576
  ·rw [decide_eq_true c1,if_neg (show ¬(-1048576≤c∧c≤1048576∧1≤d∧d≤1048576) by omega)];rfl
  by_cases c2:c>1048576
  ·rw [decide_eq_false c1,decide_eq_true c2,if_neg (show ¬(-1048576≤c∧c≤1048576∧1≤d∧d≤1048576) by omega)];rfl
  by_cases c3:d<1
  ·rw [decide_eq_false c1,decide_eq_false c2,decide_eq_true c3,if_neg (show ¬(-1048576≤c∧c≤1048576∧1≤d∧d≤1048576) by omega)];rfl
  by_cases c4:d>1048576
  ·rw [decide_eq_false c1,decide_eq_false c2,decide_eq_false c3,decide_eq_true c4,if_neg (show ¬(-1048576≤c∧c≤1048576∧1≤d∧d≤1048576) by omega)];rfl
  have p1:=tmul_bd (x:=a) (y:=c) (by omega) (by omega) (by omega) (by omega);have p2:=tmul_bd (x:=b) (y:=c) (by omega) (by omega) (by omega) (by omega);rw [decide_eq_false c1,decide_eq_false c2,decide_eq_false c3,decide_eq_false c4,if_pos (show -1048576≤c∧c≤1048576∧1≤d∧d≤1048576 by omega),bR (x:=a*c) (by omega),bR (x:=b*c) (by omega)];have m1:=vC (a*c) (b*c);have m2:=vJ (a*c) (b*c);generalize mn (a*c) (b*c)=M at*;generalize mx (a*c) (b*c)=N at*;rw [bR (x:=0-N) (by omega),axQ];have q1:aflP M d=true:=decide_eq_true ⟨by omega,by omega,by omega⟩;have q2:aflP (-N) d=true:=decide_eq_true ⟨by omega,by omega,by omega⟩;have t:=ediv_bd (x:=-N) (d:=d) (m:=1152921504606846976) (by omega) (by omega) (by omega);rw [q1,q2];unfold aflD;rw [bR (x:=0- -N/d) (by omega),axQ];rfl
theorem sqrR_gives (a b:Int):aH aaZ 153 [.agg ⟨[.int .i64 a,.int .i64 b]⟩] (aP (dN a b)):=by
 refine aF bK RR (t:=cond (!(aN a b)) (some (.v (.tuple ⟨[.agg ⟨[.int .i64 0,.int .i64 0]⟩,.int .i64 1]⟩))) (cond (decide (a≤0)) (cond (decide (b≥0)) (cond (tT 0 1073741824) (cond (tT (mx (i64.wrap (a*a)) (i64.wrap (b*b))) 1073741824) (lt (lZ (mU 0 1073741824) (zM (mx (i64.wrap (a*a)) (i64.wrap (b*b))) 1073741824)) fun x1=>some (.v (.tuple ⟨[.agg ⟨[.int .i64 x1.1,.int .i64 x1.2.1]⟩,.int .i64 x1.2.2]⟩))) (none)) (none)) (cond (tT (mn (i64.wrap (a*a)) (i64.wrap (b*b))) 1073741824) (cond (tT (mx (i64.wrap (a*a)) (i64.wrap (b*b))) 1073741824) (lt (lZ (mU (mn (i64.wrap (a*a)) (i64.wrap (b*b))) 1073741824) (zM (mx (i64.wrap (a*a)) (i64.wrap (b*b))) 1073741824)) fun x2=>some (.v (.tuple ⟨[.agg ⟨[.int .i64 x2.1,.int .i64 x2.2.1]⟩,.int .i64 x2.2.2]⟩))) (none)) (none))) (cond (tT (mn (i64.wrap (a*a)) (i64.wrap (b*b))) 1073741824) (cond (tT (mx (i64.wrap (a*a)) (i64.wrap (b*b))) 1073741824) (lt (lZ (mU (mn (i64.wrap (a*a)) (i64.wrap (b*b))) 1073741824) (zM (mx (i64.wrap (a*a)) (i64.wrap (b*b))) 1073741824)) fun x3=>some (.v (.tuple ⟨[.agg ⟨[.int .i64 x3.1,.int .i64 x3.2.1]⟩,.int .i64 x3.2.2]⟩))) (none)) (none)))) (by kernel_rfl) ?_;unfold dN;cases h:aN a b
 ·rfl
 ·have v:=iP h;have p:=BD (x:=a) (m:=2147483648) (by omega) (by omega);have q:=BD (x:=b) (m:=2147483648) (by omega) (by omega);rw [bR (x:=a*a) (by omega),bR (x:=b*b) (by omega)];have e1:mn (a*a) (b*b)=min (a*a) (b*b):=by unfold mn;split<;>omega
  have e2:mx (a*a) (b*b)=max (a*a) (b*b):=by unfold mx;split<;>omega
  rw [e1,e2];have fH:tT (max (a*a) (b*b)) 1073741824=true:=decide_eq_true ⟨by omega,by omega,by omega⟩;have fL:tT (min (a*a) (b*b)) 1073741824=true:=decide_eq_true ⟨by omega,by omega,by omega⟩;have f0:tT 0 1073741824=true:=by decide
  rw [fH,fL,f0];unfold LE CQ;by_cases c:a≤0∧0≤b
  ·rw [if_pos c,decide_eq_true c.1,decide_eq_true (show b≥0 from c.2)];rfl
  ·rw [if_neg c];by_cases c1:a≤0
   ·rw [decide_eq_true c1,decide_eq_false (show ¬b≥0 by omega)];rfl
   ·rw [decide_eq_false c1];rfl
theorem sqtR_gives (a b:Int):aH aaZ 152 [.agg ⟨[.int .i64 a,.int .i64 b]⟩] (aP (CR a b)):=by
 refine aF bK RR (t:=cond (!(aN a b)) (some (.v (.tuple ⟨[.agg ⟨[.int .i64 0,.int .i64 0]⟩,.int .i64 1]⟩))) (cond (decide (b<0)) (some (.v (.tuple ⟨[.agg ⟨[.int .i64 0,.int .i64 0]⟩,.int .i64 2]⟩))) (cond (KN (i64.wrap (b*1073741824))) (cond (decide (i64.wrap ((nW (i64.wrap (b*1073741824)))*(nW (i64.wrap (b*1073741824))))<i64.wrap (b*1073741824))) (cond (KN (i64.wrap ((mx 0 a)*1073741824))) (lt (lZ (nW (i64.wrap ((mx 0 a)*1073741824))) (i64.wrap ((nW (i64.wrap (b*1073741824)))+1))) fun x1=>some (.v (.tuple ⟨[.agg ⟨[.int .i64 x1.1,.int .i64 x1.2.1]⟩,.int .i64 x1.2.2]⟩))) (none)) (cond (KN (i64.wrap ((mx 0 a)*1073741824))) (lt (lZ (nW (i64.wrap ((mx 0 a)*1073741824))) (nW (i64.wrap (b*1073741824)))) fun x2=>some (.v (.tuple ⟨[.agg ⟨[.int .i64 x2.1,.int .i64 x2.2.1]⟩,.int .i64 x2.2.2]⟩))) (none))) (none)))) (by kernel_rfl) ?_;unfold CR;cases h:aN a b
 ·rfl
 ·have v:=iP h;by_cases c:b<0
  ·rw [decide_eq_true c,if_pos c];rfl
  ·have m:mx 0 a=max 0 a:=by unfold mx;split<;>omega
   rw [decide_eq_false c,if_neg c,m,bR (x:=b*1073741824) (by omega),bR (x:=max 0 a*1073741824) (by omega)];have q1:KN (b*1073741824)=true:=decide_eq_true ⟨by omega,by omega⟩;have q2:KN (max 0 a*1073741824)=true:=decide_eq_true ⟨by omega,by omega⟩;have r:=yM (n:=b*1073741824) (by omega) (by omega);have s:=lt_sq (x:=nW (b*1073741824)) (y:=2147483648) r.1 (by omega) (by omega);have z:=aeJ r.1 r.1;rw [q1,q2,bR (x:=nW (b*1073741824)*nW (b*1073741824)) (by omega),bR (x:=nW (b*1073741824)+1) (by omega)];unfold JJ;by_cases k:nW (b*1073741824)*nW (b*1073741824)<b*1073741824
   ·rw [decide_eq_true k,if_pos k];rfl
   ·rw [decide_eq_false k,if_neg k];rfl
end
section
open Ev
def pW (a b _e:Int):Int×Int:=(a,b)
def rH (k _a _b e:Int):Int:=bG k e
def kFf0:bJ:=(21,eT (fun a b c d e f=>.bool (dV a b c d e f)))::(24,eP (fun a b=>.bool (aE a b)))::(34,rI (fun a b c d=>aP (aX a b c d)))::(45,rI (fun a b c d=>aP (gB a b c d)))::(51,eP (fun a b=>aP (eY a b)))::(65,eP (fun a b=>aP (aK a b)))::(66,eP (fun a b=>aP (aI a b)))::(67,rI (fun a b c d=>aP (bF a b c d)))::(88,eP (fun a b=>aP (dT a b)))::(89,rI (fun a b c d=>aP (kK a b c d)))::(95,eP (fun a b=>aP (dO a b)))::(113,eP (fun a b=>aP (zG a b)))::(131,rI (fun a b c d=>aP (oO a b c d)))::(151,ePII (fun a b c d=>aP (CS a b c d)))::(152,eP (fun a b=>aP (CR a b)))::(153,eP (fun a b=>aP (dN a b)))::[]
theorem kFf0_ok:aJ aaZ kFf0:=(aA (lO jP) (aA (dD (fun a b W _=>lE a b W)) (aA (dM (fun a b c d W _=>zH a b c d W)) (aA (dM mR) (aA (dD (fun a b W _=>ahav_r a b W)) (aA (dD (fun a b W _=>LB a b W)) (aA (dD (fun a b W _=>DL a b W)) (aA (dM jM) (aA (dD (fun a b W _=>hav_r a b W)) (aA (dM uA) (aA (dD wI) (aA (dD DE) (aA (dM DD) (aA (ePII_ok timR_gives) (aA (dD sqtR_gives) (aA (dD sqrR_gives) fE))))))))))))))))
theorem wfixV_mods (k a b c:Int):gN aaZ 44 86 k [.agg ⟨[.int .i64 a,.int .i64 b]⟩,.int .i64 c] (aG (pW a b c).1 (pW a b c).2) (rH k a b c):=by
 refine bM bK kFf0_ok (t:=cond (k==0) (some (.v (.agg ⟨[.int .i64 a,.int .i64 b]⟩),⟨[.v (.int .i64 c)],86⟩)) (some (.v (.agg ⟨[.int .i64 a,.int .i64 b]⟩),⟨[.v (.int .i64 k)],86⟩))) (by kernel_rfl) ?_;unfold rH bG;by_cases h:k=0
 ·simp [h];rfl
 ·have e:(k==0)=false:=beq_eq_false_iff_ne.2 h;rw [e];simp [h];rfl
def yX (a b _e:Int):Int×Int:=(a,b)
def AX (k _a _b e:Int):Int:=bG k e
def kFf1:bJ:=(44,cPI 86 (fun a b c=>aG (pW a b c).1 (pW a b c).2) rH)::kFf0
theorem kFf1_ok:aJ aaZ kFf1:=(aA (rP wfixV_mods) kFf0_ok)
theorem warW_mods (k a b c:Int):gN aaZ 50 86 k [.agg ⟨[.int .i64 a,.int .i64 b]⟩,.int .i64 c] (aG (yX a b c).1 (yX a b c).2) (AX k a b c):=by
 refine bM bK kFf1_ok (t:=cond (k==0) (some (.v (.agg ⟨[.int .i64 a,.int .i64 b]⟩),⟨[.v (.int .i64 c)],86⟩)) (some (.v (.agg ⟨[.int .i64 a,.int .i64 b]⟩),⟨[.v (.int .i64 k)],86⟩))) (by kernel_rfl) ?_;unfold AX bG;by_cases h:k=0
 ·simp [h];rfl
 ·have e:(k==0)=false:=beq_eq_false_iff_ne.2 h;rw [e];simp [h];rfl
def nY (a b:Int):Int×Int:=((aK a b).1,(aK a b).2.1)
def pY (k a b:Int):Int:=bG k (aK a b).2.2
def kFf2:bJ:=(50,cPI 86 (fun a b c=>aG (yX a b c).1 (yX a b c).2) AX)::kFf1
theorem kFf2_ok:aJ aaZ kFf2:=(aA (rP warW_mods) kFf1_ok)
theorem wsinV_mods (k a b:Int):gN aaZ 49 86 k [.agg ⟨[.int .i64 a,.int .i64 b]⟩] (aG (nY a b).1 (nY a b).2) (pY k a b):=by
 refine bM bK kFf2_ok (t:=lt (aK a b) fun x1=>lt (pW x1.1 x1.2.1 x1.2.2) fun x3=>lt (rH k x1.1 x1.2.1 x1.2.2) fun x2=>some (.v (.agg ⟨[.int .i64 x3.1,.int .i64 x3.2]⟩),⟨[.v (.int .i64 x2)],86⟩)) (by kernel_rfl) ?_;rfl
def tJ (a b:Int):Int×Int:=((aI a b).1,(aI a b).2.1)
def xS (k a b:Int):Int:=bG k (aI a b).2.2
def kFf3:bJ:=(49,cP 86 (fun a b=>aG (nY a b).1 (nY a b).2) pY)::kFf2
theorem kFf3_ok:aJ aaZ kFf3:=(aA (oR wsinV_mods) kFf2_ok)
theorem wcosV_mods (k a b:Int):gN aaZ 109 86 k [.agg ⟨[.int .i64 a,.int .i64 b]⟩] (aG (tJ a b).1 (tJ a b).2) (xS k a b):=by
 refine bM bK kFf3_ok (t:=lt (aI a b) fun x1=>lt (pW x1.1 x1.2.1 x1.2.2) fun x3=>lt (rH k x1.1 x1.2.1 x1.2.2) fun x2=>some (.v (.agg ⟨[.int .i64 x3.1,.int .i64 x3.2]⟩),⟨[.v (.int .i64 x2)],86⟩)) (by kernel_rfl) ?_;rfl
def EG (a b:Int):Int×Int:=((dT a b).1,(dT a b).2.1)
def OY (k a b:Int):Int:=bG k (dT a b).2.2
def kFf4:bJ:=(109,cP 86 (fun a b=>aG (tJ a b).1 (tJ a b).2) xS)::kFf3
theorem kFf4_ok:aJ aaZ kFf4:=(aA (oR wcosV_mods) kFf3_ok)
theorem whavV_mods (k a b:Int):gN aaZ 46 86 k [.agg ⟨[.int .i64 a,.int .i64 b]⟩] (aG (EG a b).1 (EG a b).2) (OY k a b):=by
 refine bM bK kFf4_ok (t:=lt (dT a b) fun x1=>lt (pW x1.1 x1.2.1 x1.2.2) fun x3=>lt (rH k x1.1 x1.2.1 x1.2.2) fun x2=>some (.v (.agg ⟨[.int .i64 x3.1,.int .i64 x3.2]⟩),⟨[.v (.int .i64 x2)],86⟩)) (by kernel_rfl) ?_;rfl
def nX (a b c d:Int):Int×Int:=((bF a b c d).1,(bF a b c d).2.1)
def pX (k a b c d:Int):Int:=bG k (bF a b c d).2.2
def kFf5:bJ:=(46,cP 86 (fun a b=>aG (EG a b).1 (EG a b).2) OY)::kFf4
theorem kFf5_ok:aJ aaZ kFf5:=(aA (oR whavV_mods) kFf4_ok)
theorem wmulV_mods (k a b c d:Int):gN aaZ 48 86 k [.agg ⟨[.int .i64 a,.int .i64 b]⟩,.agg ⟨[.int .i64 c,.int .i64 d]⟩] (aG (nX a b c d).1 (nX a b c d).2) (pX k a b c d):=by
 refine bM bK kFf5_ok (t:=lt (bF a b c d) fun x1=>lt (pW x1.1 x1.2.1 x1.2.2) fun x3=>lt (rH k x1.1 x1.2.1 x1.2.2) fun x2=>some (.v (.agg ⟨[.int .i64 x3.1,.int .i64 x3.2]⟩),⟨[.v (.int .i64 x2)],86⟩)) (by kernel_rfl) ?_;rfl
def qJ (a b c d:Int):Int×Int:=((oO a b c d).1,(oO a b c d).2.1)
def CW (k a b c d:Int):Int:=bG k (oO a b c d).2.2
def kFf6:bJ:=(48,PT 86 (fun a b c d=>aG (nX a b c d).1 (nX a b c d).2) pX)::kFf5
theorem kFf6_ok:aJ aaZ kFf6:=(aA (jH wmulV_mods) kFf5_ok)
theorem wplusV_mods (k a b c d:Int):gN aaZ 108 86 k [.agg ⟨[.int .i64 a,.int .i64 b]⟩,.agg ⟨[.int .i64 c,.int .i64 d]⟩] (aG (qJ a b c d).1 (qJ a b c d).2) (CW k a b c d):=by
 refine bM bK kFf6_ok (t:=lt (oO a b c d) fun x1=>lt (yX x1.1 x1.2.1 x1.2.2) fun x3=>lt (AX k x1.1 x1.2.1 x1.2.2) fun x2=>some (.v (.agg ⟨[.int .i64 x3.1,.int .i64 x3.2]⟩),⟨[.v (.int .i64 x2)],86⟩)) (by kernel_rfl) ?_;rfl
def mH (a b c d:Int):Int×Int:=((kK a b c d).1,(kK a b c d).2.1)
def tK (k a b c d:Int):Int:=bG k (kK a b c d).2.2
def kFf7:bJ:=(108,PT 86 (fun a b c d=>aG (qJ a b c d).1 (qJ a b c d).2) CW)::kFf6
theorem kFf7_ok:aJ aaZ kFf7:=(aA (jH wplusV_mods) kFf6_ok)
theorem wminV_mods (k a b c d:Int):gN aaZ 47 86 k [.agg ⟨[.int .i64 a,.int .i64 b]⟩,.agg ⟨[.int .i64 c,.int .i64 d]⟩] (aG (mH a b c d).1 (mH a b c d).2) (tK k a b c d):=by
 refine bM bK kFf7_ok (t:=lt (kK a b c d) fun x1=>lt (yX x1.1 x1.2.1 x1.2.2) fun x3=>lt (AX k x1.1 x1.2.1 x1.2.2) fun x2=>some (.v (.agg ⟨[.int .i64 x3.1,.int .i64 x3.2]⟩),⟨[.v (.int .i64 x2)],86⟩)) (by kernel_rfl) ?_;rfl
def kI (a b c d:Int):Int×Int:=((CS a b c d).1,(CS a b c d).2.1)
def qI (k a b c d:Int):Int:=bG k (CS a b c d).2.2
def kFf8:bJ:=(47,PT 86 (fun a b c d=>aG (mH a b c d).1 (mH a b c d).2) tK)::kFf7
theorem kFf8_ok:aJ aaZ kFf8:=(aA (jH wminV_mods) kFf7_ok)
theorem wpartV_mods (k a b c d:Int):gN aaZ 107 86 k [.agg ⟨[.int .i64 a,.int .i64 b]⟩,.int .i64 c,.int .i64 d] (aG (kI a b c d).1 (kI a b c d).2) (qI k a b c d):=by
 refine bM bK kFf8_ok (t:=lt (CS a b c d) fun x1=>lt (yX x1.1 x1.2.1 x1.2.2) fun x3=>lt (AX k x1.1 x1.2.1 x1.2.2) fun x2=>some (.v (.agg ⟨[.int .i64 x3.1,.int .i64 x3.2]⟩),⟨[.v (.int .i64 x2)],86⟩)) (by kernel_rfl) ?_;rfl
def xQ (a b c d:Int):Int×Int:=((aX a b c d).1,(aX a b c d).2.1)
def EE (k a b c d:Int):Int:=bG k (aX a b c d).2.2
def kFf9:bJ:=(107,cPII 86 (fun a b c d=>aG (kI a b c d).1 (kI a b c d).2) qI)::kFf8
theorem kFf9_ok:aJ aaZ kFf9:=(aA (cPII_ok wpartV_mods) kFf8_ok)
theorem wbeaV_mods (k a b c d:Int):gN aaZ 110 86 k [.agg ⟨[.int .i64 a,.int .i64 b]⟩,.agg ⟨[.int .i64 c,.int .i64 d]⟩] (aG (xQ a b c d).1 (xQ a b c d).2) (EE k a b c d):=by
 refine bM bK kFf9_ok (t:=lt (aX a b c d) fun x1=>lt (yX x1.1 x1.2.1 x1.2.2) fun x3=>lt (AX k x1.1 x1.2.1 x1.2.2) fun x2=>some (.v (.agg ⟨[.int .i64 x3.1,.int .i64 x3.2]⟩),⟨[.v (.int .i64 x2)],86⟩)) (by kernel_rfl) ?_;rfl
def EJ (a b c d:Int):Int×Int:=((CR (gB (dN a b).1 (dN a b).2.1 (dN c d).1 (dN c d).2.1).1 (gB (dN a b).1 (dN a b).2.1 (dN c d).1 (dN c d).2.1).2.1).1,(CR (gB (dN a b).1 (dN a b).2.1 (dN c d).1 (dN c d).2.1).1 (gB (dN a b).1 (dN a b).2.1 (dN c d).1 (dN c d).2.1).2.1).2.1)
def EI (k a b c d:Int):Int:=bG (bG (bG (bG k (dN a b).2.2) (dN c d).2.2) (gB (dN a b).1 (dN a b).2.1 (dN c d).1 (dN c d).2.1).2.2) (CR (gB (dN a b).1 (dN a b).2.1 (dN c d).1 (dN c d).2.1).1 (gB (dN a b).1 (dN a b).2.1 (dN c d).1 (dN c d).2.1).2.1).2.2
def kFf10:bJ:=(110,PT 86 (fun a b c d=>aG (xQ a b c d).1 (xQ a b c d).2) EE)::kFf9
theorem XK:aJ aaZ kFf10:=(aA (jH wbeaV_mods) kFf9_ok)
theorem whypV_mods (k a b c d:Int):gN aaZ 111 86 k [.agg ⟨[.int .i64 a,.int .i64 b]⟩,.agg ⟨[.int .i64 c,.int .i64 d]⟩] (aG (EJ a b c d).1 (EJ a b c d).2) (EI k a b c d):=by
 refine bM bK XK (t:=lt (dN a b) fun x1=>lt (pW x1.1 x1.2.1 x1.2.2) fun x3=>lt (rH k x1.1 x1.2.1 x1.2.2) fun x2=>lt (dN c d) fun x4=>lt (pW x4.1 x4.2.1 x4.2.2) fun x6=>lt (rH x2 x4.1 x4.2.1 x4.2.2) fun x5=>lt (gB x3.1 x3.2 x6.1 x6.2) fun x7=>lt (pW x7.1 x7.2.1 x7.2.2) fun x9=>lt (rH x5 x7.1 x7.2.1 x7.2.2) fun x8=>lt (CR x9.1 x9.2) fun x10=>lt (pW x10.1 x10.2.1 x10.2.2) fun x12=>lt (rH x8 x10.1 x10.2.1 x10.2.2) fun x11=>some (.v (.agg ⟨[.int .i64 x12.1,.int .i64 x12.2]⟩),⟨[.v (.int .i64 x11)],86⟩)) (by kernel_rfl) ?_;rfl
def LM (a b:Int):Bool:=(decide (i64.wrap (b-a)≥21600000))
def kFf11:bJ:=(111,PT 86 (fun a b c d=>aG (EJ a b c d).1 (EJ a b c d).2) EI)::kFf10
theorem XL:aJ aaZ kFf11:=(aA (jH whypV_mods) XK)
theorem wallM_gives (a b:Int):aH aaZ 112 [.agg ⟨[.int .i64 a,.int .i64 b]⟩] (.bool (LM a b)):=aF bK XL (by kernel_rfl) rfl
def hslMK {α:Type} (K:Int→Int→Int→Int→Int→α) (a b c d e f:Int):α:=cond (!(dV a b c d e f)) (K 0 0 0 0 1) (lt (mH 5400000 5400000 c d) fun x2=>lt (tK 0 5400000 5400000 c d) fun x1=>lt (mH 5400000 5400000 a b) fun x4=>lt (tK x1 5400000 5400000 a b) fun x3=>lt (qJ x2.1 x2.2 x4.1 x4.2) fun x6=>lt (CW x3 x2.1 x2.2 x4.1 x4.2) fun x5=>lt (kI x6.1 x6.2 1 2) fun x8=>lt (qI x5 x6.1 x6.2 1 2) fun x7=>lt (mH x2.1 x2.2 x4.1 x4.2) fun x10=>lt (tK x7 x2.1 x2.2 x4.1 x4.2) fun x9=>lt (kI x10.1 x10.2 1 2) fun x12=>lt (qI x9 x10.1 x10.2 1 2) fun x11=>lt (dO e f) fun x13=>lt (yX x13.1 x13.2.1 x13.2.2) fun x15=>lt (AX x11 x13.1 x13.2.1 x13.2.2) fun x14=>lt (kI x15.1 x15.2 1 2) fun x17=>lt (qI x14 x15.1 x15.2 1 2) fun x16=>lt (tJ x8.1 x8.2) fun x19=>lt (xS x16 x8.1 x8.2) fun x18=>lt (nY x17.1 x17.2) fun x21=>lt (pY x18 x17.1 x17.2) fun x20=>lt (nX x19.1 x19.2 x21.1 x21.2) fun x23=>lt (pX x20 x19.1 x19.2 x21.1 x21.2) fun x22=>lt (tJ x12.1 x12.2) fun x25=>lt (xS x22 x12.1 x12.2) fun x24=>lt (tJ x17.1 x17.2) fun x27=>lt (xS x24 x17.1 x17.2) fun x26=>lt (nX x25.1 x25.2 x27.1 x27.2) fun x29=>lt (pX x26 x25.1 x25.2 x27.1 x27.2) fun x28=>lt (nY x8.1 x8.2) fun x31=>lt (pY x28 x8.1 x8.2) fun x30=>lt (nY x17.1 x17.2) fun x33=>lt (pY x30 x17.1 x17.2) fun x32=>lt (nX x31.1 x31.2 x33.1 x33.2) fun x35=>lt (pX x32 x31.1 x31.2 x33.1 x33.2) fun x34=>lt (nY x12.1 x12.2) fun x37=>lt (pY x34 x12.1 x12.2) fun x36=>lt (tJ x17.1 x17.2) fun x39=>lt (xS x36 x17.1 x17.2) fun x38=>lt (nX x37.1 x37.2 x39.1 x39.2) fun x41=>lt (pX x38 x37.1 x37.2 x39.1 x39.2) fun x40=>lt (EJ x35.1 x35.2 x41.1 x41.2) fun x43=>lt (EI x40 x35.1 x35.2 x41.1 x41.2) fun x42=>lt (EJ x23.1 x23.2 x29.1 x29.2) fun x45=>lt (EI x42 x23.1 x23.2 x29.1 x29.2) fun x44=>lt (xQ x43.1 x43.2 x45.1 x45.2) fun x47=>lt (EE x44 x43.1 x43.2 x45.1 x45.2) fun x46=>cond (x46 != 0) (K 0 0 0 0 x46) (cond (LM x47.1 x47.2) (K 0 0 0 0 24) (lt (kI x47.1 x47.2 2 1) fun x49=>lt (qI x46 x47.1 x47.2 2 1) fun x48=>lt (mH 5400000 5400000 x49.1 x49.2) fun x51=>lt (tK x48 5400000 5400000 x49.1 x49.2) fun x50=>lt (xQ x29.1 x29.2 x23.1 x23.2) fun x53=>lt (EE x50 x29.1 x29.2 x23.1 x23.2) fun x52=>lt (xQ x41.1 x41.2 x35.1 x35.2) fun x55=>lt (EE x52 x41.1 x41.2 x35.1 x35.2) fun x54=>cond (!(LM x53.1 x53.2)) (cond (!(LM x55.1 x55.2)) (lt (qJ x53.1 x53.2 x55.1 x55.2) fun x57=>lt (CW x54 x53.1 x53.2 x55.1 x55.2) fun x56=>lt (zG x57.1 x57.2) fun x58=>lt (yX x58.1 x58.2.1 x58.2.2) fun x60=>lt (AX x56 x58.1 x58.2.1 x58.2.2) fun x59=>lt (dO x60.1 x60.2) fun x61=>lt (yX x61.1 x61.2.1 x61.2.2) fun x63=>lt (AX x59 x61.1 x61.2.1 x61.2.2) fun x62=>cond (x62 != 0) (K 0 0 0 0 x62) (K x51.1 x51.2 x63.1 x63.2 0)) (cond (x54 != 0) (K 0 0 0 0 x54) (K x51.1 x51.2 0 21600000 0))) (cond (x54 != 0) (K 0 0 0 0 x54) (K x51.1 x51.2 0 21600000 0)))))
def JH (a b c d e f:Int):Int×Int×Int×Int×Int:=hslMK (fun p0 p1 p2 p3 p4=>(p0,p1,p2,p3,p4)) a b c d e f
def kFf12:bJ:=(112,eP (fun a b=>.bool (LM a b)))::kFf11
theorem JL:aJ aaZ kFf12:=(aA (dD wallM_gives) XL)
theorem hslM_gives (a b c d e f:Int):aH aaZ 60 [.agg ⟨[.int .i64 a,.int .i64 b,.int .i64 c,.int .i64 d,.int .i64 e,.int .i64 f]⟩] (cU (JH a b c d e f)):=by
 refine aF bK JL (t:=hslMK (fun p0 p1 p2 p3 p4=>some (.v (cU ((p0,p1,p2,p3,p4))))) a b c d e f) (by kernel_rfl) ?_;unfold JH hslMK;repeat' first | (with_reducible refine aO (fun r:Int×Int×Int×Int×Int=>AV.v (cU (r))) ?_ ?_) | (with_reducible refine aT (fun r:Int×Int×Int×Int×Int=>AV.v (cU (r))) fun _=>?_) | rfl
def wD (a b:Int):Bool:=cond (aE a b) (cond (decide (a≥0)) ((decide (b≤10800000))) (false)) (false)
theorem ZP (a b:Int):aH aaZ 43 [.agg ⟨[.int .i64 a,.int .i64 b]⟩] (.bool (wD a b)):=by
 refine aF bK JL (t:=cond (aE a b) (cond (decide (a≥0)) (some (.v (.bool (decide (b≤10800000))))) (some (.v (.bool false)))) (some (.v (.bool false)))) (by kernel_rfl) ?_;unfold wD;repeat' first | (with_reducible refine aO (fun r:Bool=>AV.v (.bool (r))) ?_ ?_) | (with_reducible refine aT (fun r:Bool=>AV.v (.bool (r))) fun _=>?_) | rfl
def RN {α:Type} (K:Int→Int→Int→α) (a b c d e f:Int):α:=cond (!(wD a b)) (K 0 0 1) (cond (!(wD c d)) (K 0 0 1) (cond (!(aE e f)) (K 0 0 1) (lt (mH a b c d) fun x2=>lt (tK 0 a b c d) fun x1=>lt (EG x2.1 x2.2) fun x4=>lt (OY x1 x2.1 x2.2) fun x3=>lt (nY a b) fun x6=>lt (pY x3 a b) fun x5=>lt (nY c d) fun x8=>lt (pY x5 c d) fun x7=>lt (nX x6.1 x6.2 x8.1 x8.2) fun x10=>lt (pX x7 x6.1 x6.2 x8.1 x8.2) fun x9=>lt (EG e f) fun x12=>lt (OY x9 e f) fun x11=>lt (nX x10.1 x10.2 x12.1 x12.2) fun x14=>lt (pX x11 x10.1 x10.2 x12.1 x12.2) fun x13=>lt (gB x4.1 x4.2 x14.1 x14.2) fun x15=>lt (pW x15.1 x15.2.1 x15.2.2) fun x17=>lt (rH x13 x15.1 x15.2.1 x15.2.2) fun x16=>lt (eY x17.1 x17.2) fun x18=>lt (yX x18.1 x18.2.1 x18.2.2) fun x20=>lt (AX x16 x18.1 x18.2.1 x18.2.2) fun x19=>cond (x19 != 0) (K 0 0 x19) (K x20.1 x20.2 0))))
def NV (a b c d e f:Int):Int×Int×Int:=RN (fun p0 p1 p2=>(p0,p1,p2)) a b c d e f
def kFf13:bJ:=(43,eP (fun a b=>.bool (wD a b)))::kFf12
theorem kFf13_ok:aJ aaZ kFf13:=(aA (dD ZP) JL)
theorem XD (a b c d e f:Int):aH aaZ 16 [.agg ⟨[.int .i64 a,.int .i64 b]⟩,.agg ⟨[.int .i64 c,.int .i64 d]⟩,.agg ⟨[.int .i64 e,.int .i64 f]⟩] (aP (NV a b c d e f)):=by
 refine aF bK kFf13_ok (t:=RN (fun p0 p1 p2=>some (.v (aP ((p0,p1,p2))))) a b c d e f) (by kernel_rfl) ?_;unfold NV RN;repeat' first | (with_reducible refine aO (fun r:Int×Int×Int=>AV.v (aP (r))) ?_ ?_) | (with_reducible refine aT (fun r:Int×Int×Int=>AV.v (aP (r))) fun _=>?_) | rfl
end
end
end Go.Proofs.YtajpgkpdhcbngaaGreatDoor
