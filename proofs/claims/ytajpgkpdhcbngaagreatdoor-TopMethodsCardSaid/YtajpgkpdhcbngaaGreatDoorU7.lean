/-
  What the program's enclosures hold: sines, cosines, haversines, sums, products, arcsines of true values. No program here. The reference's quick sine: how far it is from the sine's polynomial. No.
-/
import Derived.Test.YtajpgkpdhcbngaaGreatDoorU6
import Derived.Test.YtajpgkpdhcbngaaGreatDoorU2
set_option maxRecDepth 100000
set_option maxHeartbeats 4000000
open _root_.Int renaming le_refl→abJ,le_total→asX,lt_or_le→aiJ,mul_comm→akZ,mul_le_mul_of_nonneg_left→agX,mul_le_mul_of_nonneg_right→aeZ,mul_nonneg→aeJ,neg_mul→amQ
open _root_.List renaming mem_cons_of_mem→aqX,mem_cons_self→arJ
open _root_.Nat renaming add_assoc→avZ,add_mul→asQ,beq→agJ,ble→aiZ,eq_of_beq_eq_true→adX,land→arQ,le_refl→aaJ,le_trans→ahJ,lt_or_ge→adZ,mul_comm→aoQ,mul_le_mul→aiX,pow_le_pow_right→akJ,rec→azJ,sub_add_cancel→atQ,testBit_two_pow_mul_add→amJ,two_pow_pos→anX,zero_add→apX,zero_le→afX
open _root_.Rat renaming intCast_add→acQ,intCast_le_intCast→ahQ,intCast_mul→acX,intCast_neg→afQ,intCast_sub→abZ,le_total→abX,mul_comm→aqJ,mul_le_mul_of_nonneg_left→adQ,mul_le_mul_of_nonneg_right→acJ,mul_nonneg→aaQ,natCast_add→ahZ,natCast_le_natCast→acZ,natCast_mul→afJ
namespace Go.Proofs.YtajpgkpdhcbngaaGreatDoor
noncomputable section
section
namespace TB
open SM TA
theorem BV (a b:Int):((a+b:Int):Rat)=(a:Rat)+(b:Rat):=acQ a b
theorem aV {a b:Int} (h:a≤b):(a:Rat)≤(b:Rat):=ahQ.2 h
theorem xD {a b:Int} (h:a<b):(a:Rat)+1≤(b:Rat):=by
 have:=aV (show a+1≤b by omega);rw [BV] at this;exact this
theorem c_le {a b:Int} (h:(a:Rat)≤(b:Rat)):a≤b:=ahQ.1 h
theorem vM {a b:Int} {e:Rat} (h:(a:Rat)≤(b:Rat)+e) (he:e<1):a≤b:=by
 rcases aiJ b a with q | q
 ·have:=xD q;grind
 ·exact q
theorem mod_eq (n:Int):si (n:Rat)=si ((n%21600000:Int):Rat)∧co (n:Rat)=co ((n%21600000:Int):Rat):=by
 have e:(n:Rat)=((n%21600000:Int):Rat)+21600000*((n/21600000:Int):Rat):=by
  have h:((n%21600000+21600000*(n/21600000):Int):Rat)=(n:Rat):=by rw [Int.emod_add_mul_ediv]
  rw [BV,acX] at h;exact h.symm
 have t:=eQ ((n%21600000:Int):Rat) (n/21600000);rw [←e] at t;exact ⟨t.2,t.1⟩
theorem EB (q:Rat):Cl (22000*u0) (si (10800000-q)) (si q):=by
 have o:=(oppq (-q)).2;have n:=(vK q).2.neg;have u:=aY;rw [show -q+10800000=10800000-q by grind] at o;rw [show- -si q=si q by grind] at n;exact (o.trans n).wide (by grind)
theorem th_near:-(1/2^80)≤(tb-th)*5400000∧(tb-th)*5400000≤1/2^80:=by decide+kernel
theorem tail_B:En 652 (8/5)-En 100 (8/5)≤1/2^100:=by decide+kernel
theorem tail_0:En 100 (1/2^80)-En 0 (1/2^80)≤1/2^79:=by decide+kernel
theorem near_TB (k:Nat) (h:k≤5400000):Cl (1/2^60) (si (k:Rat)) (T k):=by
 have n:=near_T k h;have k0:(0:Rat)≤(k:Rat):=by exact_mod_cast afX k
 have k1:(k:Rat)≤5400000:=by
  have:(k:Rat)≤((5400000:Nat):Rat):=by exact_mod_cast h
  exact this
 have e:rd (k:Int)=(k:Int):=by unfold rd;omega
 have ek:((k:Int):Rat)=(k:Rat):=rfl;have es:si (k:Rat)=Sn 652 (tb*(k:Rat)):=by
  unfold si;rw [qG (by grind) (by grind)];rfl
 have eq:jO (k:Int)=Sn 100 (th*(k:Rat)):=by
  unfold jO;rw [e,ek]
 have x:=tb_q k0 k1;have a:=OT 100 552 652 rfl (x:=tb*(k:Rat)) (X:=8/5) (by grind) x.2 tail_B;have t:=th_near;have t0:=th_bd;have d:-(1/2^80)≤(tb-th)*(k:Rat)∧(tb-th)*(k:Rat)≤1/2^80:=by
  have z:(0:Rat)≤1/2^80:=by decide+kernel
  have e:(tb-th)*(k:Rat)*5400000=(tb-th)*5400000*(k:Rat):=by grind
  have m1:=aaQ (show 0≤1/2^80-(tb-th)*5400000 by grind) k0;have m2:=aaQ (show 0≤1/2^80+(tb-th)*5400000 by grind) k0;have m3:=aaQ z (show 0≤5400000-(k:Rat) by grind);generalize (tb-th)*(k:Rat)=y at*;constructor<;>grind
 have hy:-(32/5)≤(tb-th)*(k:Rat)∧(tb-th)*(k:Rat)≤32/5:=by constructor<;>grind
 have hx:-(32/5)≤th*(k:Rat)∧th*(k:Rat)≤32/5:=by
  have:th*(k:Rat)=tb*(k:Rat)-(tb-th)*(k:Rat):=by grind
  rw [this];constructor<;>grind
 have ad:=(addition 100 (x:=th*(k:Rat)) (y:=(tb-th)*(k:Rat)) (X:=32/5) hx.1 hx.2 hy.1 hy.2).2;have r:=AP;have b:=SN hx.1 hx.2;have c:=ZZ 0 100 100 rfl (x:=(tb-th)*(k:Rat)) (X:=1/2^80) d.1 d.2 tail_0;have s:=OT 0 100 100 rfl (x:=(tb-th)*(k:Rat)) (X:=1/2^80) d.1 d.2 tail_0;have c0:Cn 0 ((tb-th)*(k:Rat))=1:=by simp [Cn,sm,sc,P];grind
 have s0:Sn 0 ((tb-th)*(k:Rat))=0:=by simp [Sn,sm,ss,P];grind
 rw [c0] at c;rw [s0] at s;rw [show th*(k:Rat)+(tb-th)*(k:Rat)=tb*(k:Rat) by grind] at ad;have m1:=gU b.2 (c:=Cn 100 ((tb-th)*(k:Rat))-1) (k:=1/2^79) ⟨by grind,by grind⟩;have m2:=gU b.1 (c:=Sn 100 ((tb-th)*(k:Rat))-0) (k:=1/2^79) ⟨by grind,by grind⟩;rw [eq] at n;rw [es];unfold Cl;clear b c s d hx hy x t t0;generalize Sn 100 (th*(k:Rat))=A at*;generalize Cn 100 (th*(k:Rat))=B at*;generalize Cn 100 ((tb-th)*(k:Rat))=D at*;generalize Sn 100 ((tb-th)*(k:Rat))=E at*;generalize Sn 100 (tb*(k:Rat))=F at*;generalize Sn 652 (tb*(k:Rat))=G at*;generalize rest 100 (32/5)=R at*;constructor<;>grind
def Sq (q:Rat):Rat:=1073741824*si q
def Cq (q:Rat):Rat:=1073741824*co q
theorem sT:1073741824*1048576*e0≤e1:=by decide+kernel
theorem flo_B (k:Nat) (hk:k≤5400000):(mV k:Rat)-e1≤Sq (k:Rat)∧Sq (k:Rat)≤(LT k:Rat)+e1:=by
 have g:iH=77371252455336267181195264:=rfl;have eb:=iL;unfold Sq;cases hx:DR k with
 | false=>
  have n:=near_TB k hk;have e:((LT k:Int):Rat)=(mV k:Rat)+1:=by
   unfold LT;rw [hx];show (((mV k:Int)+1:Int):Rat)=_;rw [acQ];rfl
  have p:=gap k hk hx;rw [g] at p;rw [e];unfold Cl at n;generalize si (k:Rat)=s at*;generalize T k=t at*;generalize (mV k:Rat)=f at*;constructor<;>grind
 | true=>
  have e:((LT k:Int):Rat)=(mV k:Rat):=by
   unfold LT;rw [hx];rfl
  rw [e];have h0:k=0∨k=1800000∨k=5400000:=by
   unfold DR at hx;simp only [Bool.or_eq_true,beq_iff_eq] at hx;omega
  have f0:((mV 0:Nat):Rat)=0:=rfl;have f1:((mV 1800000:Nat):Rat)=536870912:=rfl;have f2:((mV 5400000:Nat):Rat)=1073741824:=rfl;have u:=aY;have ee:e0=1048576*u0:=rfl;have be:=sT;rcases h0 with rfl | rfl | rfl
  ·rw [f0,show ((0:Nat):Rat)=0 by rfl,si_0];constructor<;>grind
  ·have x:=third_B;have y:si ((1800000:Nat):Rat)=Sn 652 (tb*1800000):=by
    unfold si;rw [show ((1800000:Nat):Rat)=1800000 by rfl,qG (by grind) (by grind)];rfl
   rw [f1,y];generalize Sn 652 (tb*1800000)=s at*;constructor<;>grind
  ·have x:=KG.2;rw [f2,show ((5400000:Nat):Rat)=5400000 by rfl];unfold Cl at x;generalize si 5400000=s at*;constructor<;>grind
theorem red_B (n:Int):(nO n=false→Cl e0 (si (n:Rat)) (si (nT n:Rat)))∧(nO n=true→Cl e0 (si (n:Rat)) (-si (nT n:Rat))):=by
 have ee:e0=1048576*u0:=rfl;have u:=aY;have cast:∀(m:Int) (k:Nat),(k:Int)=m→(k:Rat)=(m:Rat):=fun m k h=>by subst h;rfl
 unfold nO nT;have m0:=Int.emod_nonneg n (show (21600000:Int)≠0 by omega);have m1:=Int.emod_lt_of_pos n (show (0:Int)<21600000 by omega);rw [(mod_eq n).1];generalize n%21600000=m at*;have z1:((10800000:Int):Rat)=10800000:=rfl;have z2:((21600000:Int):Rat)=21600000:=rfl;constructor
 ·intro h;have h:=of_decide_eq_false h;dsimp only;by_cases c:m≤5400000
  ·rw [if_pos c,cast m _ (by omega)];exact Cl.refl _ (by grind)
  ·rw [if_neg c,if_pos (by omega),cast (10800000-m) _ (by omega),abZ,z1];exact (EB _).symm.wide (by grind)
 ·intro h;have h:=of_decide_eq_true h;dsimp only;rw [if_neg (by omega),if_neg (by omega)];by_cases c:m≤16200000
  ·rw [if_pos c,cast (m-10800000) _ (by omega),abZ,z1];have o:=(oppq ((m:Rat)-10800000)).2;rw [show (m:Rat)-10800000+10800000=(m:Rat) by grind] at o;exact o.wide (by grind)
  ·rw [if_neg c,cast (21600000-m) _ (by omega),abZ,z2];have o:=(vK ((21600000:Rat)-m)).2;have t:=eQ (-((21600000:Rat)-m)) 1;rw [show ((1:Int):Rat)=1 by rfl,show -((21600000:Rat)-m)+21600000*1=(m:Rat) by grind] at t;rw [←t.2] at o;exact o.wide (by grind)
theorem lob_B (n:Int):(qD n:Rat)-2*e1≤Sq (n:Rat)∧Sq (n:Rat)≤(nF n:Rat)+2*e1:=by
 have f:=flo_B (nT n) (yR n);have r:=red_B n;have be:=sT;have eb:=dY;unfold qD nF;unfold Sq at*;cases hs:nO n with
 | false=>
  have r:=r.1 hs;simp only [Bool.false_eq_true,if_false];have e:(((mV (nT n):Nat):Int):Rat)=(mV (nT n):Rat):=rfl;rw [e];unfold Cl at r;generalize si (n:Rat)=x at*;generalize si (nT n:Rat)=y at*;generalize (mV (nT n):Rat)=p at*;generalize (LT (nT n):Rat)=q at*;constructor<;>grind
 | true=>
  have r:=r.2 hs;simp only [if_true];have e:(((mV (nT n):Nat):Int):Rat)=(mV (nT n):Rat):=rfl;rw [afQ,afQ,e];unfold Cl at r;generalize si (n:Rat)=x at*;generalize si (nT n:Rat)=y at*;generalize (mV (nT n):Rat)=p at*;generalize (LT (nT n):Rat)=q at*;constructor<;>grind
def Hs (e:Rat) (lo hi:Int) (X:Rat):Prop:=(lo:Rat)-e≤X∧X≤(hi:Rat)+e
theorem Hs.wide {e f:Rat} {lo hi lo' hi':Int} {X:Rat} (h:Hs e lo hi X) (he:e≤f) (h1:lo'≤lo) (h2:hi≤hi'):Hs f lo' hi' X:=by
 have a:=aV h1;have b:=aV h2;unfold Hs at*;constructor<;>grind
theorem Hs.near {e f:Rat} {lo hi:Int} {X Y:Rat} (h:Hs e lo hi X) (k:Cl f Y X):Hs (e+f) lo hi Y:=by
 unfold Hs Cl at*;constructor<;>grind
theorem Hs.int {e:Rat} {lo hi n:Int} (he:0≤e) (h1:lo≤n) (h2:n≤hi):Hs e lo hi (n:Rat):=by
 have a:=aV h1;have b:=aV h2;unfold Hs;constructor<;>grind
theorem Hs.meet {e f:Rat} {a b c d:Int} {X:Rat} (h:Hs e a b X) (k:Hs f c d X) (he:e+f<1):a≤d∧c≤b:=by
 unfold Hs at*;constructor
 ·refine vM (e:=e+f) ?_ he;grind
 ·refine vM (e:=e+f) ?_ he;grind
theorem Hs.clamp {e:Rat} {a b:Int} {X:Rat} (he:0≤e) (h:Hs e a b X) (hab:a≤b):∃X':Rat,(a:Rat)≤X'∧X'≤(b:Rat)∧Cl e X X':=by
 have q:=aV hab;unfold Hs at h;unfold Cl;by_cases c1:X≤(a:Rat)
 ·exact ⟨a,by grind,by grind,by grind,by grind⟩
 ·by_cases c2:(b:Rat)≤X
  ·exact ⟨b,by grind,by grind,by grind,by grind⟩
  ·exact ⟨X,by grind,by grind,by grind,by grind⟩
theorem Hs.neg {e:Rat} {a b:Int} {X:Rat} (h:Hs e a b X):Hs e (-b) (-a) (-X):=by
 unfold Hs at*;rw [afQ,afQ];constructor<;>grind
theorem Hs.add {e f:Rat} {a b c d:Int} {X Y:Rat} (h1:Hs e a b X) (h2:Hs f c d Y):Hs (e+f) (a+c) (b+d) (X+Y):=by
 unfold Hs at*;rw [acQ,acQ];constructor<;>grind
theorem Hs.sub {e f:Rat} {a b c d:Int} {X Y:Rat} (h1:Hs e a b X) (h2:Hs f c d Y):Hs (e+f) (a-d) (b-c) (X-Y):=by
 unfold Hs at*;rw [abZ,abZ];constructor<;>grind
theorem between (q:Rat):(si ((q.floor:Int):Rat)≤si q+9*e0∧si q≤si ((q.floor+1:Int):Rat)+9*e0)∨(si ((q.floor+1:Int):Rat)≤si q+9*e0∧si q≤si ((q.floor:Int):Rat)+9*e0):=by
 have f0:=Rat.floor_le q;have f1:=Rat.lt_floor_add_one q;rw [BV] at f1 ⊢;have z:((1:Int):Rat)=1:=rfl;rw [z] at f1 ⊢;generalize q.floor=n at*;have ee:e0=1048576*u0:=rfl;have u:=aY;obtain ⟨m,hm⟩:∃m:Int,m=(n+5400000)/21600000:=⟨_,rfl⟩;have s0:-5400000≤n-21600000*m:=by omega
 have s1:n-21600000*m<16200000:=by omega
 clear hm;have t1:=(eQ q (-m)).2;have t2:=(eQ (n:Rat) (-m)).2;have t3:=(eQ ((n:Rat)+1) (-m)).2;have c0:-5400000≤(n:Rat)-21600000*(m:Rat):=by
  have:=aV s0;rw [abZ,acX] at this;exact this
 rw [afQ] at t1 t2 t3;rw [←t1,←t2,←t3];have sqa:=fC (q-(n:Rat));have sqb:=fC ((n:Rat)+1-q);by_cases c:n-21600000*m<5400000
 ·left;have c1:(n:Rat)-21600000*(m:Rat)+1≤5400000:=by
   have:=xD c;rw [abZ,acX] at this;exact this
  have g1:=JE (p:=(n:Rat)+21600000*-(m:Rat)) (q:=q+21600000*-(m:Rat)) (by grind) (by grind) (by grind);have g2:=JE (p:=q+21600000*-(m:Rat)) (q:=(n:Rat)+1+21600000*-(m:Rat)) (by grind) (by grind) (by grind);rw [show q+21600000*-(m:Rat)-((n:Rat)+21600000*-(m:Rat))=q-(n:Rat) by grind] at g1;rw [show (n:Rat)+1+21600000*-(m:Rat)-(q+21600000*-(m:Rat))=(n:Rat)+1-q by grind] at g2;generalize si (q+21600000*-(m:Rat))=y at*;generalize si ((n:Rat)+21600000*-(m:Rat))=y1 at*;generalize si ((n:Rat)+1+21600000*-(m:Rat))=y2 at*;generalize (q-(n:Rat))*(q-(n:Rat))=w1 at*;generalize ((n:Rat)+1-q)*((n:Rat)+1-q)=w2 at*;constructor<;>grind
 ·right;have c1:5400000≤(n:Rat)-21600000*(m:Rat):=by
   have:=aV (show 5400000≤n-21600000*m by omega);rw [abZ,acX] at this;exact this
  have c2:(n:Rat)-21600000*(m:Rat)+1≤16200000:=by
   have:=xD s1;rw [abZ,acX] at this;exact this
  have r1:=EB (q+21600000*-(m:Rat));have r2:=EB ((n:Rat)+21600000*-(m:Rat));have r3:=EB ((n:Rat)+1+21600000*-(m:Rat));have g1:=JE (p:=10800000-(q+21600000*-(m:Rat))) (q:=10800000-((n:Rat)+21600000*-(m:Rat))) (by grind) (by grind) (by grind);have g2:=JE (p:=10800000-((n:Rat)+1+21600000*-(m:Rat))) (q:=10800000-(q+21600000*-(m:Rat))) (by grind) (by grind) (by grind);rw [show 10800000-((n:Rat)+21600000*-(m:Rat))-(10800000-(q+21600000*-(m:Rat)))=q-(n:Rat) by grind] at g1;rw [show 10800000-(q+21600000*-(m:Rat))-(10800000-((n:Rat)+1+21600000*-(m:Rat)))=(n:Rat)+1-q by grind] at g2;unfold Cl at r1 r2 r3;generalize si (10800000-(q+21600000*-(m:Rat)))=z at*;generalize si (10800000-((n:Rat)+21600000*-(m:Rat)))=z1 at*;generalize si (10800000-((n:Rat)+1+21600000*-(m:Rat)))=z2 at*;generalize si (q+21600000*-(m:Rat))=y at*;generalize si ((n:Rat)+21600000*-(m:Rat))=y1 at*;generalize si ((n:Rat)+1+21600000*-(m:Rat))=y2 at*;generalize (q-(n:Rat))*(q-(n:Rat))=w1 at*;generalize ((n:Rat)+1-q)*((n:Rat)+1-q)=w2 at*;constructor<;>grind
theorem enc_real {lo hi:Int} {q:Rat} (h1:(lo:Rat)≤q) (h2:q≤(hi:Rat)):Hs (3*e1) (mK lo hi) (mJ lo hi) (Sq q):=by
 have f0:=Rat.floor_le q;have f1:=Rat.lt_floor_add_one q;have be:=sT;have eb:=dY;have b:=between q;have l0:lo≤q.floor:=Rat.le_floor_iff.2 h1;have l1:q.floor≤hi:=c_le (by grind);have a1:=lob_B q.floor;have p1:=aV (IV l0 l1);have p2:=aV (IU l0 l1);by_cases c:q.floor=hi
 ·
  have e:q=((q.floor:Int):Rat):=by rw [c] at f0 ⊢;grind
  rw [←e] at a1;unfold Hs;have:=iL;generalize Sq q=s at*;constructor<;>grind
 ·have a2:=lob_B (q.floor+1);have q1:=aV (IV (lo:=lo) (hi:=hi) (n:=q.floor+1) (by omega) (by omega));have q2:=aV (IU (lo:=lo) (hi:=hi) (n:=q.floor+1) (by omega) (by omega));unfold Sq at*;unfold Hs;generalize si q=s at*;generalize si ((q.floor:Int):Rat)=s1 at*;generalize si ((q.floor+1:Int):Rat)=s2 at*;generalize (qD q.floor:Rat)=x1 at*;generalize (nF q.floor:Rat)=x2 at*;generalize (qD (q.floor+1):Rat)=x3 at*;generalize (nF (q.floor+1):Rat)=x4 at*;generalize (mK lo hi:Rat)=y1 at*;generalize (mJ lo hi:Rat)=y2 at*;clear f0 f1 h1 h2;rcases b with b | b<;>constructor<;>grind
theorem Sq_near {d p q:Rat} (h:Cl d p q) (hd:d≤1):Cl (2000*d+e1) (Sq p) (Sq q)∧Cl (2000*d+e1) (Cq p) (Cq q):=by
 have be:=sT;have eb:=dY;unfold Cl at h;unfold Sq Cq;rcases (abX:p≤q∨q≤p) with c | c
 ·have l:=lip c (by grind);unfold Cl at*;generalize si p=x1 at*;generalize si q=x2 at*;generalize co p=x3 at*;generalize co q=x4 at*;refine ⟨⟨?_,?_⟩,?_,?_⟩<;>grind
 ·have l:=lip c (by grind);unfold Cl at*;generalize si p=x1 at*;generalize si q=x2 at*;generalize co p=x3 at*;generalize co q=x4 at*;refine ⟨⟨?_,?_⟩,?_,?_⟩<;>grind
theorem enc_B {d:Rat} {lo hi:Int} {q:Rat} (hd:0≤d) (hd1:d≤1) (hl:lo≤hi) (h:Hs d lo hi q):Hs (2000*d+4*e1) (mK lo hi) (mJ lo hi) (Sq q):=by
 obtain ⟨q',a,b,c⟩:=h.clamp hd hl;have k:=(enc_real a b).near (Sq_near c hd1).1;exact k.wide (by grind) (abJ _) (abJ _)
theorem Cq_Sq (q:Rat):Cl e1 (Cq q) (Sq (q+5400000)):=by
 have a:=(yY (-q)).1;have n:=(vK q).1;have u:=aY;have ee:e0=1048576*u0:=rfl;have be:=sT;rw [show 5400000- -q=q+5400000 by grind] at a;unfold Cq Sq;unfold Cl at*;generalize si (q+5400000)=x at*;generalize co (-q)=y at*;generalize co q=z at*;constructor<;>grind
theorem aval_le {a b:Int} (h:aE a b=true):a≤b:=by
 have:-1099511627776≤a∧a≤b∧b≤1099511627776:=by simpa [aE] using h
 omega
theorem sin_B {d:Rat} {lo hi:Int} {q:Rat} (hv:aE lo hi=true) (hd:0≤d) (hd1:d≤1) (h:Hs d lo hi q):Hs (2000*d+4*e1) (aK lo hi).1 (aK lo hi).2.1 (Sq q):=by
 have k:=enc_B hd hd1 (aval_le hv) h;have e1:(aK lo hi).1=mK lo hi:=by simp [aK,hv]
 have e2:(aK lo hi).2.1=mJ lo hi:=by simp [aK,hv]
 rw [e1,e2];exact k
theorem cos_B {d:Rat} {lo hi:Int} {q:Rat} (hv:aE lo hi=true) (hd:0≤d) (hd1:d≤1) (h:Hs d lo hi q):Hs (2000*d+5*e1) (aI lo hi).1 (aI lo hi).2.1 (Cq q):=by
 have hq:Hs d (lo+5400000) (hi+5400000) (q+5400000):=by
  unfold Hs at*;rw [BV,BV];have z:((5400000:Int):Rat)=5400000:=rfl;rw [z];constructor<;>grind
 have k:=(enc_B hd hd1 (by have:=aval_le hv;omega) hq).near (Cq_Sq q);have e1:(aI lo hi).1=mK (lo+5400000) (hi+5400000):=by simp [aI,hv]
 have e2:(aI lo hi).2.1=mJ (lo+5400000) (hi+5400000):=by simp [aI,hv]
 rw [e1,e2];exact k.wide (by grind) (abJ _) (abJ _)
theorem YI {a x b:Rat} (y:Rat) (h1:a≤x) (h2:x≤b):(a*y≤x*y∧x*y≤b*y)∨(b*y≤x*y∧x*y≤a*y):=by
 by_cases hy:0≤y
 ·have p:=aaQ (show 0≤x-a by grind) hy;have q:=aaQ (show 0≤b-x by grind) hy;left;constructor<;>grind
 ·have p:=aaQ (show 0≤x-a by grind) (show 0≤-y by grind);have q:=aaQ (show 0≤b-x by grind) (show 0≤-y by grind);right;constructor<;>grind
theorem mul_q {a b c d:Int} {X Y:Rat} (h1:(a:Rat)≤X) (h2:X≤(b:Rat)) (h3:(c:Rat)≤Y) (h4:Y≤(d:Rat)):((pN a b c d:Int):Rat)≤X*Y∧X*Y≤((pM a b c d:Int):Rat):=by
 have l:=mn4 (a*c) (a*d) (b*c) (b*d);have u:=mx4 (a*c) (a*d) (b*c) (b*d);have l1:=aV l.1.1;have l2:=aV l.1.2.1;have l3:=aV l.1.2.2.1;have l4:=aV l.1.2.2.2;have u1:=aV u.1.1;have u2:=aV u.1.2.1;have u3:=aV u.1.2.2.1;have u4:=aV u.1.2.2.2;rw [acX] at l1 l2 l3 l4 u1 u2 u3 u4;have p:=YI Y h1 h2;have q:=YI (a:Rat) h3 h4;have r:=YI (b:Rat) h3 h4;rw [aqJ (c:Rat),aqJ Y,aqJ (d:Rat)] at q r;unfold pN pM;generalize (mn (mn (mn (a*c) (a*d)) (b*c)) (b*d):Rat)=m at*;generalize (mx (mx (mx (a*c) (a*d)) (b*c)) (b*d):Rat)=n at*;generalize X*Y=xy at*;generalize (a:Rat)*Y=ay at*;generalize (b:Rat)*Y=yb at*;generalize (a:Rat)*(c:Rat)=ac at*;generalize (a:Rat)*(d:Rat)=ad at*;generalize (b:Rat)*(c:Rat)=bc at*;generalize (b:Rat)*(d:Rat)=bd at*;constructor<;>grind
theorem FN (x:Int):((x/1073741824:Int):Rat)*1073741824≤(x:Rat):=by
 have h:((x/1073741824*1073741824:Int):Rat)≤(x:Rat):=aV (by omega);rw [acX] at h;exact h
theorem mul_B {a b c d:Int} {e X Y:Rat} (he:0≤e) (he1:e≤1/4) (h1:Hs e a b X) (h2:Hs e c d Y) (ab:a≤b) (cd:c≤d)
  (ha:-1073741824≤a) (hb:b≤1073741824) (hc:-1073741824≤c) (hd:d≤1073741824):
  Hs (3*e) (bF a b c d).1 (bF a b c d).2.1 (X*Y/1073741824):=by
 obtain ⟨x,x1,x2,x3,x4⟩:=h1.clamp he ab;obtain ⟨y,y1,y2,y3,y4⟩:=h2.clamp he cd;have m:=mul_one ha ab hb hc cd hd;have ev:bF a b c d=(pN a b c d/1073741824,-(-pM a b c d/1073741824),0):=by
  have:=m.1;unfold bF at this ⊢;obtain ⟨hb,hf⟩:=FG this;rw [if_pos hb];exact (JA hf).2
 rw [ev];have z:((1073741824:Int):Rat)=1073741824:=rfl;have za:-1073741824≤(a:Rat):=aV (a:=-1073741824) ha;have zb:(b:Rat)≤1073741824:=aV (b:=1073741824) hb;have zc:-1073741824≤(c:Rat):=aV (a:=-1073741824) hc;have zd:(d:Rat)≤1073741824:=aV (b:=1073741824) hd;have r:=mul_q x1 x2 y1 y2;have f:=FN (pN a b c d);have g:=FN (-pM a b c d);rw [afQ] at g;have k1:=aB (a:=X-x) (b:=y) (A:=e) (B:=1073741824) x3 x4 (by grind) (by grind);have k2:=aB (a:=x) (b:=Y-y) (A:=1073741824) (B:=e) (by grind) (by grind) y3 y4;have k3:=aB (a:=X-x) (b:=Y-y) (A:=e) (B:=e) x3 x4 y3 y4;have k4:e*e≤e:=by have:=aaQ he (show 0≤1-e by grind);grind
 have ex:X*Y=x*y+(X-x)*y+x*(Y-y)+(X-x)*(Y-y):=by grind
 unfold Hs;dsimp only;rw [ex,afQ];generalize (pN a b c d:Rat)=L at*;generalize (pM a b c d:Rat)=U at*;generalize ((pN a b c d/1073741824:Int):Rat)=L' at*;generalize ((-pM a b c d/1073741824:Int):Rat)=U' at*;generalize x*y=p0 at*;generalize (X-x)*y=p1 at*;generalize x*(Y-y)=p2 at*;generalize (X-x)*(Y-y)=p3 at*;clear ex;constructor<;>grind
theorem asn_B {v:Int} {q e d:Rat} (he:0≤e) (hv:-1073741824≤v) (q0:-5400000≤q) (_q1:q≤5400000) (h:(v:Rat)≤Sq q+e) (hd0:0≤d) (hd:100000*(e+3*e1)≤d*d):(pK v:Rat)≤q+d:=by
 obtain ⟨a0,a1,a2,a3⟩:=pZ v hv;rcases (abX:(pK v:Rat)≤q∨q≤(pK v:Rat)) with c | c
 ·grind
 ·have p1:(pK v:Rat)≤5400000:=aV (b:=5400000) a1;have g:=JE q0 c p1;have l:=(lob_B (pK v)).2;have m:=aV a2;have be:=sT;have eb:=dY;have e1b:=iL;unfold Sq at*;have k:=gX (z:=(pK v:Rat)-q) (f:=d) (e:=100000*(e+3*e1)) hd0 ?_ hd
  ·have:=k.2;grind
  ·generalize si (pK v:Rat)=s1 at*;generalize si q=s2 at*;generalize (nF (pK v):Rat)=h1 at*;generalize (v:Rat)=v' at*;generalize ((pK v:Rat)-q)*((pK v:Rat)-q)=w at*;grind
theorem Sq_neg {q:Rat} (h0:-10800000<q) (h1:q<10800000):Sq (-q)=-Sq q:=by
 unfold Sq;rw [(gL h0 h1).1];grind
theorem asin_B {lo hi:Int} {q e d:Rat} (_hv:aN lo hi=true) (ok:(bE lo hi).2.2=0) (q0:-5400000≤q) (q1:q≤5400000) (he:0≤e) (h:Hs e lo hi (Sq q)) (hd0:0≤d) (hd:100000*(e+4*e1)≤d*d):Hs d (bE lo hi).1 (bE lo hi).2.1 q:=by
 obtain ⟨_,hm,ev⟩:=asin_ok ok;have be:=sT;have eb:=dY;have e1b:=iL;have u:=aY;have ee:e0=1048576*u0:=rfl;have b:=(LO q).2;have z:((1073741824:Int):Rat)=1073741824:=rfl;have zn:((-1073741824:Int):Rat)=-1073741824:=rfl;have s0:-1073741824-e1≤Sq q∧Sq q≤1073741824+e1:=by
  unfold Sq;generalize si q=s at*;constructor<;>grind
 unfold Hs at h;have x1:((max lo (-1073741824):Int):Rat)≤Sq q+(e+e1):=by
  rcases asX lo (-1073741824) with c | c
  ·rw [Int.max_eq_right c,zn];grind
  ·rw [Int.max_eq_left c];grind
 have x2:((-min hi 1073741824:Int):Rat)≤Sq (-q)+(e+e1):=by
  rw [Sq_neg (by grind) (by grind),afQ];rcases asX hi 1073741824 with c | c
  ·rw [Int.min_eq_left c];grind
  ·rw [Int.min_eq_right c,z];grind
 have y1:=asn_B (v:=max lo (-1073741824)) (show 0≤e+e1 by grind) (by omega) q0 q1 x1 hd0 (by grind);have y2:=asn_B (v:=-min hi 1073741824) (show 0≤e+e1 by grind) (by omega) (q:=-q) (by grind) (by grind) x2 hd0 (by grind);rw [ev];unfold Hs;dsimp only;rw [afQ];constructor<;>grind
theorem asin_has {lo hi:Int} {q e:Rat} (hv:aN lo hi=true) (_he:0≤e) (he1:e≤1/4) (h:Hs e lo hi (Sq q)):(bE lo hi).2.2=0:=by
 have be:=sT;have eb:=dY;have e1b:=iL;have u:=aY;have ee:e0=1048576*u0:=rfl;have b:=(LO q).2;have s0:-1073741824-e1≤Sq q∧Sq q≤1073741824+e1:=by
  unfold Sq;generalize si q=s at*;constructor<;>grind
 have v:=iP hv;unfold Hs at h;have c1:lo≤1073741824:=vM (e:=1/2) (by rw [show ((1073741824:Int):Rat)=1073741824 by rfl];grind) (by grind);have c2:-1073741824≤hi:=vM (e:=1/2) (by rw [show ((-1073741824:Int):Rat)=-1073741824 by rfl];grind) (by grind);unfold bE;rw [hv];simp only [Bool.true_eq_false,if_false];rw [if_pos (by omega)]
end TB
end
namespace SM
def tl (o:Nat) (Y:Rat):Nat→Nat→Rat
 | _,0=>1
 | k,n+1=>1-1/(((2*k+1+o)*(2*k+2+o):Nat):Rat)*(Y*tl o Y (k+1) n)
theorem hR_tl (o:Nat) (Y:Rat):∀k n,1-hR o Y k (1-tl o Y k n)=tl o Y 0 (k+n)
 | 0,n=>by unfold hR;rw [apX];grind
 | k+1,n=>by
  have ih:=hR_tl o Y k (n+1);unfold hR;have e:(1:Rat)-(1-tl o Y (k+1) n)=tl o Y (k+1) n:=by grind
  rw [e];have e2:1/(((2*k+1+o)*(2*k+2+o):Nat):Rat)*(Y*tl o Y (k+1) n)=1-tl o Y k (n+1):=by rw [tl];grind
  rw [e2,ih,show k+1+n=k+(n+1) by omega]
theorem OU (o:Nat) (Y:Rat) (hY:0≤Y∧Y≤1):∀n k,0≤tl o Y k n∧tl o Y k n≤1
 | 0,k=>by unfold tl;constructor<;>grind
 | n+1,k=>by
  have ih:=OU o Y hY n (k+1);have hd:2≤(2*k+1+o)*(2*k+2+o):=by
   have:1*2≤(2*k+1+o)*(2*k+2+o):=aiX (by omega) (by omega);omega
  have i1:=jL hd;have i0:=dQ (((2*k+1+o)*(2*k+2+o):Nat):Rat) (by exact_mod_cast afX _);have y0:=aaQ hY.1 ih.1;have y1:Y*tl o Y (k+1) n≤1:=by
   have:=adQ ih.2 hY.1;grind
  have s0:=aaQ i0 y0;have s1:=adQ y1 i0;unfold tl;constructor<;>grind
def high (a b:Int):Int:=a/2147483648*(b/2147483648)+a/2147483648*(b%2147483648)/2147483648+a%2147483648*(b/2147483648)/2147483648
def rG (o:Nat):Nat→Rat
 | 0=>1
 | k+1=>7/10*(1/(((2*k+1+o)*(2*k+2+o):Nat):Rat))*rG o k
theorem taub0:4611686018427387904*rG 0 10≤1:=by decide+kernel
theorem taub1:4611686018427387904*rG 1 10≤1:=by decide+kernel
theorem dk_ge (o k:Nat):2≤(2*k+1+o)*(2*k+2+o):=by
 have:1*2≤(2*k+1+o)*(2*k+2+o):=aiX (by omega) (by omega);omega
theorem aA1 {o k:Nat} {Y τ:Rat} (hY:0≤Y∧Y≤7/10) (hτ:0≤τ) (h:τ≤rG o k):1/(((2*k+1+o)*(2*k+2+o):Nat):Rat)*(Y*τ)≤rG o (k+1):=by
 have i0:=dQ (((2*k+1+o)*(2*k+2+o):Nat):Rat) (by exact_mod_cast afX _);have a1:=adQ h hY.1;have a2:=acJ hY.2 (show 0≤rG o k by grind);have a3:=adQ (show Y*τ≤7/10*rG o k by grind) i0;unfold rG;generalize 1/(((2*k+1+o)*(2*k+2+o):Nat):Rat)=i at*;grind
end SM
namespace NT
def dL (f:Nat→Nat) (m:Nat):Nat:=azJ (motive:=fun _=>Nat) 0 (fun i acc=>acc+f i*2^(224*i)) m
theorem gW (f:Nat→Nat):dL f 0=0:=rfl
theorem cT (f:Nat→Nat) (m:Nat):dL f (m+1)=dL f m+f m*2^(224*m):=rfl
theorem pB (f:Nat→Nat):∀m,(∀i,i<m→f i<2^224)→dL f m<2^(224*m)
 | 0,_=>by rw [gW];simp
 | m+1,h=>by
  have ih:=pB f m (fun i hi=>h i (by omega));have hm:=h m (by omega);rw [cT,show 224*(m+1)=224+224*m by omega,Nat.pow_add];have:(f m+1)*2^(224*m)≤2^224*2^(224*m):=Nat.mul_le_mul_right _ hm;rw [asQ] at this;omega
theorem yN (k a b x y:Nat) (ha:a<2^k) (hb:b<2^k):(a+x*2^k)&&& (b+y*2^k)=(a&&& b)+(x&&& y)*2^k:=by
 have e:∀u z:Nat,u+z*2^k=2^k*z+u:=fun u z=>by rw [aoQ,Nat.add_comm]
 have hab:a&&& b<2^k:=Nat.and_lt_two_pow _ hb;rw [e,e,e];apply Nat.eq_of_testBit_eq;intro j;rw [Nat.testBit_and,amJ _ ha,amJ _ hb,amJ _ hab];split<;>simp
theorem kO (f g:Nat→Nat):∀m,(∀i,i<m→f i<2^224)→(∀i,i<m→g i<2^224)→dL f m&&& dL g m=dL (fun i=>f i&&& g i) m
 | 0,_,_=>by rw [gW,gW,gW];rfl
 | m+1,hf,hg=>by
  rw [cT,cT,cT,yN _ _ _ _ _ (pB f m fun i hi=>hf i (by omega)) (pB g m fun i hi=>hg i (by omega)),kO f g m (fun i hi=>hf i (by omega)) (fun i hi=>hg i (by omega))]
theorem sE (f g:Nat→Nat):∀m,(∀i,i<m→f i<2^224)→(∀i,i<m→g i<2^224)→dL f m=dL g m→∀i,i<m→f i=g i
 | 0,_,_,_,i,hi=>by omega
 | m+1,hf,hg,h,i,hi=>by
  have h1:=pB f m fun i hi=>hf i (by omega);have h2:=pB g m fun i hi=>hg i (by omega);rw [cT,cT] at h;have hp:0<2^(224*m):=anX _;have e1:f m=g m:=by
   have a1:(dL f m+f m*2^(224*m))/2^(224*m)=f m:=by
    rw [Nat.add_mul_div_right _ _ hp,Nat.div_eq_of_lt h1,apX]
   have a2:(dL g m+g m*2^(224*m))/2^(224*m)=g m:=by
    rw [Nat.add_mul_div_right _ _ hp,Nat.div_eq_of_lt h2,apX]
   rw [←a1,h,a2]
  rw [e1] at h;rcases adZ i m with hlt | hge
  ·exact sE f g m (fun i hi=>hf i (by omega)) (fun i hi=>hg i (by omega)) (by omega) i hlt
  ·have:i=m:=by omega
   rw [this];exact e1
theorem nG (f g:Nat→Nat):∀m,dL f m+dL g m=dL (fun i=>f i+g i) m
 | 0=>rfl
 | m+1=>by rw [cT,cT,cT,←nG f g m,asQ];omega
theorem iC (c:Nat) (f:Nat→Nat):∀m,c*dL f m=dL (fun i=>c*f i) m
 | 0=>rfl
 | m+1=>by rw [cT,cT,←iC c f m,Nat.mul_add,Nat.mul_assoc]
theorem nA (f g:Nat→Nat):∀m,(∀i,i<m→f i=g i)→dL f m=dL g m
 | 0,_=>rfl
 | m+1,h=>by rw [cT,cT,nA f g m (fun i hi=>h i (by omega)),h m (by omega)]
def HH:Nat:=13479973333575319897333507543509815336818572211270286240551805124608
theorem oL:HH=2^223:=by decide
def MH (H E j V U:Nat):Nat:=
 let T:=Nat.shiftLeft V j
 let B:=arQ (U+E-T) H
 U-arQ T (B-Nat.shiftRight B 223)
def DY (e j v u:Nat):Nat:=if v*2^j+e≤u then u-v*2^j else u
theorem FZ (f g:Nat→Nat) (m:Nat) (h:∀i,i<m→g i≤f i):dL f m-dL g m=dL (fun i=>f i-g i) m:=by
 have a:=nG (fun i=>f i-g i) g m;rw [nA (fun i=>f i-g i+g i) f m (fun i hi=>by have:=h i hi;omega)] at a;omega
theorem YC {x:Nat} (h:x<2^224):arQ x (2^223)=if 2^223≤x then 2^223 else 0:=by
 show x&&& 2^223=_;have tb:∀j,(x&&& 2^223).testBit j=(x.testBit j&&decide (223=j)):=fun j=>by rw [Nat.testBit_and,Nat.testBit_two_pow]
 by_cases c:2^223≤x
 ·rw [if_pos c];have hx:x.testBit 223=true:=by
   rw [Nat.testBit_eq_decide_div_mod_eq];have:x/2^223=1:=by omega
   rw [this];rfl
  refine Nat.eq_of_testBit_eq fun j=>?_;rw [tb,Nat.testBit_two_pow];by_cases q:223=j
  ·rw [←q,hx];simp
  ·simp [q]
 ·rw [if_neg c];have hx:x.testBit 223=false:=Nat.testBit_lt_two_pow (by omega);refine Nat.eq_of_testBit_eq fun j=>?_;rw [tb,Nat.zero_testBit];by_cases q:223=j
  ·rw [←q,hx];simp
  ·simp [q]
theorem OR (e j m:Nat) (he:e≤HH) (v u:Nat→Nat) (hv:∀i,i<m→v i*2^j+e<2^223) (hu:∀i,i<m→u i<2^223):
  MH (dL (fun _=>HH) m) (dL (fun _=>HH-e) m) j (dL v m) (dL u m)=dL (fun i=>DY e j (v i) (u i)) m:=by
 unfold MH;dsimp only;have sl:Nat.shiftLeft (dL v m) j=dL (fun i=>2^j*v i) m:=by
  have:dL v m<<<j=dL v m*2^j:=Nat.shiftLeft_eq ..;rw [←iC,aoQ];exact this
 have sr:∀B,Nat.shiftRight B 223=B/HH:=fun B=>by
  rw [oL];exact Nat.shiftRight_eq_div_pow B 223
 rw [sl,sr,nG,FZ _ _ _ (fun i hi=>by have:=hv i hi;rw [oL] at*;rw [aoQ];omega)];have e1:arQ (dL (fun i=>u i+(HH-e)-(2^j*v i)) m) (dL (fun _=>HH) m)=dL (fun i=>if v i*2^j+e≤u i then HH else 0) m:=by
  refine (kO _ _ m (fun i hi=>?_) (fun i hi=>?_)).trans (nA _ _ m fun i hi=>?_)
  ·have:=hu i hi;rw [oL];omega
  ·rw [oL];omega
  ·have h1:=hv i hi;have h2:=hu i hi;rw [oL] at*;refine (YC (by omega)).trans ?_;rw [aoQ (2^j)];generalize v i*2^j=t at*;by_cases c:t+e≤u i
   ·rw [if_pos c,if_pos (by omega)]
   ·rw [if_neg c,if_neg (by omega)]
 rw [e1];have e2:dL (fun i=>if v i*2^j+e≤u i then HH else 0) m/HH=dL (fun i=>if v i*2^j+e≤u i then 1 else 0) m:=by
  have:dL (fun i=>if v i*2^j+e≤u i then HH else 0) m=HH*dL (fun i=>if v i*2^j+e≤u i then 1 else 0) m:=by
   rw [iC];refine nA _ _ m fun i _=>?_;split<;>omega
  rw [this];exact Nat.mul_div_cancel_left _ (by rw [oL];exact anX _)
 rw [e2,FZ _ _ _ (fun i _=>by rw [oL];split<;>omega)];have e3:arQ (dL (fun i=>2^j*v i) m) (dL (fun i=>(if v i*2^j+e≤u i then HH else 0)-(if v i*2^j+e≤u i then 1 else 0)) m)=dL (fun i=>if v i*2^j+e≤u i then v i*2^j else 0) m:=by
  refine (kO _ _ m (fun i hi=>?_) (fun i hi=>?_)).trans (nA _ _ m fun i hi=>?_)
  ·have:=hv i hi;rw [aoQ];omega
  ·rw [oL];split<;>omega
  ·have h1:=hv i hi;rw [oL,aoQ (2^j)];split
   ·rw [Nat.and_two_pow_sub_one_eq_mod,Nat.mod_eq_of_lt (by omega)]
   ·simp
 rw [e3,FZ _ _ _ (fun i _=>by split<;>omega)];refine nA _ _ m fun i _=>?_;unfold DY;split<;>omega
structure Eu (s c u v:Int):Prop where
 ex:∃xu yu xv yv:Int,0≤xu∧0≤yu∧0≤xv∧0≤yv∧u=xu*s-yu*c∧v=yv*c-xv*s∧xu*yv-yu*xv=1
theorem Eu.start (s c:Int):Eu s c s c:=⟨1,0,0,1,by omega,by omega,by omega,by omega,by omega,by omega,by omega⟩
theorem Eu.left {s c u v:Int} (h:Eu s c u v) {q:Int} (hq:0≤q):Eu s c (u-q*v) v:=by
 obtain ⟨xu,yu,xv,yv,h1,h2,h3,h4,e1,e2,d⟩:=h;have p1:=aeJ hq h3;have p2:=aeJ hq h4;exact ⟨xu+q*xv,yu+q*yv,xv,yv,by omega,by omega,h3,h4,by rw [e1,e2];grind,e2,by grind⟩
theorem Eu.right {s c u v:Int} (h:Eu s c u v) {q:Int} (hq:0≤q):Eu s c u (v-q*u):=by
 obtain ⟨xu,yu,xv,yv,h1,h2,h3,h4,e1,e2,d⟩:=h;have p1:=aeJ hq h1;have p2:=aeJ hq h2;exact ⟨xu,yu,xv+q*xu,yv+q*yu,h1,h2,by omega,by omega,e1,by rw [e1,e2];grind,by grind⟩
theorem Eu.done {s c u v e B M:Int} (h:Eu s c u v) (he:0<e) (hu:e≤u) (hv:e≤v) (hu':u<B) (hv':v<B) (hc:M*B≤c) {x y:Int} (hx:0≤x) (hx':x≤M) (hxy:0<x+y):
  e≤x*s-y*c∨x*s-y*c≤-e:=by
 obtain ⟨xu,yu,xv,yv,h1,h2,h3,h4,e1,e2,d⟩:=h;have det:xu*v+xv*u=c:=by
  rw [e1,e2];have:xu*(yv*c-xv*s)+xv*(xu*s-yu*c)=(xu*yv-yu*xv)*c:=by grind
  rw [this,d];omega
 have big:M<xu+xv:=by
  rcases aiJ M (xu+xv) with q | q
  ·exact q
  ·have p1:=agX (show v≤B-1 by omega) h1;have p2:=agX (show u≤B-1 by omega) h3;have p3:=aeZ q (show 0≤B-1 by omega);have p4:(xu+xv)*(B-1)=xu*(B-1)+xv*(B-1):=by grind
   have p5:M*(B-1)=M*B-M:=by grind
   have:0<xu+xv:=by
    rcases aiJ 0 (xu+xv) with r | r
    ·exact r
    ·have z1:xu=0:=by omega
     have z2:xv=0:=by omega
     rw [z1,z2] at d;omega
   omega
 have ha:∃a b:Int,x=a*xu+b*xv∧y=a*yu+b*yv∧x*s-y*c=a*u-b*v:=by
  refine ⟨x*yv-y*xv,y*xu-x*yu,?_,?_,?_⟩
  ·have:(x*yv-y*xv)*xu+(y*xu-x*yu)*xv=x*(xu*yv-yu*xv):=by grind
   rw [this,d];omega
  ·have:(x*yv-y*xv)*yu+(y*xu-x*yu)*yv=y*(xu*yv-yu*xv):=by grind
   rw [this,d];omega
  ·have:(x*yv-y*xv)*u-(y*xu-x*yu)*v=(xu*yv-yu*xv)*(x*s-y*c):=by rw [e1,e2];grind
   rw [this,d];omega
 obtain ⟨a,b,k1,k2,k3⟩:=ha;rw [k3];rcases aiJ 0 a with ha | ha
 ·rcases aiJ 0 b with hb | hb
  ·have p1:=aeZ (show 1≤a by omega) h1;have p2:=aeZ (show 1≤b by omega) h3;omega
  ·have p1:=aeZ (show 1≤a by omega) (show 0≤u by omega);have p2:=aeJ (show 0≤-b by omega) (show 0≤v by omega);rw [amQ] at p2;left;omega
 ·rcases aiJ 0 b with hb | hb
  ·have p1:=aeZ (show 1≤b by omega) (show 0≤v by omega);have p2:=aeJ (show 0≤-a by omega) (show 0≤u by omega);rw [amQ] at p2;right;omega
  ·rcases aiJ a 0 with ha' | ha'
   ·have p1:=aeJ (show 0≤-a by omega) h1;have p2:=aeJ (show 0≤-b by omega) h3;have p3:=aeJ (show 0≤-a by omega) h2;have p4:=aeJ (show 0≤-b by omega) h4;rw [amQ] at p1 p2 p3 p4;omega
   ·have a0:a=0:=by omega
    rcases aiJ b 0 with hb' | hb'
    ·have p1:=aeZ (show 1≤-b by omega) (show 0≤v by omega);rw [amQ] at p1;rw [a0];left;omega
    ·have b0:b=0:=by omega
     rw [a0,b0] at k1 k2;omega
def go (H E Z:Nat) (l:List (Bool×Nat)):Nat→Nat→Bool:=List.rec (motive:=fun _=>Nat→Nat→Bool)
 (fun U V=>agJ (arQ U Z) 0&&(agJ (arQ V Z) 0&&(agJ (arQ (U+E) H) H&&agJ (arQ (V+E) H) H)))
 (fun a _ ih U V=>cond a.1 (cond (aiZ (MH H E a.2 U V) V) (ih U (MH H E a.2 U V)) false) (cond (aiZ (MH H E a.2 V U) U) (ih (MH H E a.2 V U) V) false)) l
theorem go_nil (H E Z U V:Nat):go H E Z [] U V=(agJ (arQ U Z) 0&&(agJ (arQ V Z) 0&&(agJ (arQ (U+E) H) H&&agJ (arQ (V+E) H) H))):=rfl
theorem VW {a b:Bool} (h:cond a b false=true):b=true:=by cases a<;>first | exact h | cases h
theorem go_true (H E Z j U V:Nat) (l:List (Bool×Nat)) (h:go H E Z ((true,j)::l) U V=true):go H E Z l U (MH H E j U V)=true:=
 VW (a:=aiZ (MH H E j U V) V) h
theorem go_false (H E Z j U V:Nat) (l:List (Bool×Nat)) (h:go H E Z ((false,j)::l) U V=true):go H E Z l (MH H E j V U) V=true:=
 VW (a:=aiZ (MH H E j V U) U) h
theorem YD (e j v u:Nat):DY e j v u≤u:=by unfold DY;split<;>omega
theorem lane1_eu {s c:Int} {e j v u:Nat} (h:Eu s c u v):Eu s c (DY e j v u:Nat) v:=by
 unfold DY;split
 ·rename_i q;have:=h.left (q:=2^j) (Int.pow_nonneg (by omega));have e1:((u-v*2^j:Nat):Int)=(u:Int)-2^j*(v:Int):=by
   rw [Int.ofNat_sub (by omega)];push_cast
   rw [akZ]
  rw [e1];exact this
 ·exact h
theorem lane1_eu' {s c:Int} {e j v u:Nat} (h:Eu s c u v):Eu s c u (DY e j u v:Nat):=by
 unfold DY;split
 ·rename_i q;have:=h.right (q:=2^j) (Int.pow_nonneg (by omega));have e1:((v-u*2^j:Nat):Int)=(v:Int)-2^j*(u:Int):=by
   rw [Int.ofNat_sub (by omega)];push_cast
   rw [akZ]
  rw [e1];exact this
 ·exact h
theorem YE {v e j:Nat} (hv:v<2^195) (hj:j≤27) (he:e≤2^136):v*2^j+e<2^223:=by
 have h1:2^j≤2^27:=akJ (by omega) hj;have h2:v*2^j≤2^195*2^27:=aiX (by omega) h1;omega
theorem RK (m:Nat):∀(l:List (Bool×Nat)) (u v:Nat→Nat),(∀a∈l,a.2≤27)→(∀i,i<m→u i<2^195)→(∀i,i<m→v i<2^195)→
  go (dL (fun _=>HH) m) (dL (fun _=>HH-2^136) m) (dL (fun _=>2^224-2^160) m) l (dL u m) (dL v m)=true→
  ∀i,i<m→∀s c:Int,Eu s c (u i) (v i)→∃u' v':Nat,Eu s c u' v'∧2^136≤u'∧u'<2^160∧2^136≤v'∧v'<2^160
 | [],u,v,_,hu,hv,h,i,hi,s,c,he=>by
  rw [go_nil] at h;simp only [Bool.and_eq_true] at h;obtain ⟨h1,h2,h3,h4⟩:=h;have low:∀w:Nat→Nat,(∀i,i<m→w i<2^195)→agJ (arQ (dL w m) (dL (fun _=>2^224-2^160) m)) 0=true→w i<2^160:=fun w hw hb=>by
   have hb:=adX hb;have e0:(0:Nat)=dL (fun _=>0) m:=by
    have:=iC 0 (fun _=>0) m;simpa using this
   have e1:=kO w (fun _=>2^224-2^160) m (fun i hi=>by have:=hw i hi;omega) (fun i hi=>by omega);have e2:dL (fun i=>w i&&& (2^224-2^160)) m=dL (fun _=>0) m:=by rw [←e1,←e0];exact hb
   have e3:=sE _ _ m (fun i hi=>Nat.and_lt_two_pow _ (by omega)) (fun i hi=>by omega) e2 i hi;rcases adZ (w i) (2^160) with q | q
   ·exact q
   ·obtain ⟨k,hk,hb⟩:∃k,160≤k∧(w i).testBit k=true:=Nat.exists_ge_and_testBit_of_ge_two_pow q;have k2:k<195:=by
     rcases adZ k 195 with z | z
     ·exact z
     ·rw [Nat.testBit_lt_two_pow (Nat.lt_of_lt_of_le (hw i hi) (akJ (by omega) z))] at hb;cases hb
    have e4:(2^224-2^160:Nat)=2^160*(2^64-1):=by decide
    have e5:(w i&&& (2^224-2^160)).testBit k=true:=by
     rw [Nat.testBit_and,hb,e4,Nat.testBit_two_pow_mul,Nat.testBit_two_pow_sub_one];simp;omega
    rw [e3] at e5;simp at e5
  have high:∀w:Nat→Nat,(∀i,i<m→w i<2^195)→agJ (arQ (dL w m+dL (fun _=>HH-2^136) m) (dL (fun _=>HH) m)) (dL (fun _=>HH) m)=true→2^136≤w i:=fun w hw hb=>by
   have hb:=adX hb;rw [nG] at hb;have e1:=kO (fun i=>w i+(HH-2^136)) (fun _=>HH) m (fun i hi=>by have:=hw i hi;rw [oL];omega) (fun i hi=>by rw [oL];omega);have e2:dL (fun i=>(w i+(HH-2^136))&&& HH) m=dL (fun _=>HH) m:=by rw [←e1];exact hb
   have e3:=sE _ _ m (fun i hi=>Nat.and_lt_two_pow _ (by rw [oL];omega)) (fun i hi=>by rw [oL];omega) e2 i hi;have hw':=hw i hi;have e4:=YC (x:=w i+(HH-2^136)) (by rw [oL];omega);rw [oL] at e3 e4;have e5:arQ (w i+(2^223-2^136)) (2^223)=2^223:=e3;rw [e5] at e4;split at e4
   ·omega
   ·omega
  exact ⟨u i,v i,he,high u hu h3,low u hu h1,high v hv h4,low v hv h2⟩
 | (true,j)::l,u,v,hl,hu,hv,h,i,hi,s,c,he=>by
  have hj:j≤27:=hl _ (arJ ..);have h:=go_true _ _ _ _ _ _ _ h;rw [OR (2^136) j m (by decide) u v (fun i hi=>YE (hu i hi) hj (aaJ _)) (fun i hi=>by have:=hv i hi;omega)] at h;exact RK m l u _ (fun a ha=>hl a (aqX _ ha)) hu (fun i hi=>Nat.lt_of_le_of_lt (YD ..) (hv i hi)) h i hi s c (lane1_eu' he)
 | (false,j)::l,u,v,hl,hu,hv,h,i,hi,s,c,he=>by
  have hj:j≤27:=hl _ (arJ ..);have h:=go_false _ _ _ _ _ _ _ h;rw [OR (2^136) j m (by decide) v u (fun i hi=>YE (hv i hi) hj (aaJ _)) (fun i hi=>by have:=hu i hi;omega)] at h;exact RK m l _ v (fun a ha=>hl a (aqX _ ha)) (fun i hi=>Nat.lt_of_le_of_lt (YD ..) (hu i hi)) hv h i hi s c (lane1_eu he)
end NT
namespace NT
theorem CE (f:Nat→Nat) (a:Nat):∀b,dL f (a+b)=dL f a+dL (fun t=>f (a+t)) b*2^(224*a)
 | 0=>by rw [gW,Nat.zero_mul];rfl
 | b+1=>by
  rw [←avZ,cT,cT,CE f a b,asQ,Nat.mul_assoc,←Nat.pow_add,show 224*b+224*a=224*(a+b) by omega];omega
def ones (m:Nat):Nat:=(2^(224*m)-1)/(2^224-1)
theorem ones_pk:∀m,dL (fun _=>1) m*(2^224-1)=2^(224*m)-1
 | 0=>by rw [gW]
 | m+1=>by
  have ih:=ones_pk m;have p:0<2^(224*m):=anX _;have e:2^(224*(m+1))=2^(224*m)*2^224:=by rw [←Nat.pow_add];rfl
  rw [cT,asQ,ih,e];generalize 2^(224*m)=P at*;omega
theorem SK (m k:Nat):ones m*k=dL (fun _=>k) m:=by
 have h:ones m=dL (fun _=>1) m:=by
  unfold ones;rw [←ones_pk];exact Nat.mul_div_cancel _ (by decide)
 have:=iC k (fun _=>1) m;rw [h,aoQ,this];exact nA _ _ m fun i _=>by omega
theorem OI (x:Nat):∀m,dL (fun i=>if i=0 then x else 0) (m+1)=x
 | 0=>by rw [cT,gW];simp
 | m+1=>by rw [cT,OI x m];simp
def s1:Nat:=386656750602196061818150062977
def c1:Nat:=1329227995784859635959031469142568601
def S1:Nat:=2087945594618431431837397957646175
def C1:Nat:=1329226355915943401238512989008680485
def rs (c1 s1 c s:Nat):Nat:=(s*c1+c*s1)/2^120
def rc (c1 s1 c s:Nat):Nat:=(c*c1-s*s1)/2^120
def it (c1 s1:Nat) (p:Nat×Nat):Nat→Nat×Nat
 | 0=>p
 | n+1=>(rc c1 s1 (it c1 s1 p n).1 (it c1 s1 p n).2,rs c1 s1 (it c1 s1 p n).1 (it c1 s1 p n).2)
theorem it_add (c1 s1:Nat) (p:Nat×Nat) (a:Nat):∀b,it c1 s1 (it c1 s1 p a) b=it c1 s1 p (a+b)
 | 0=>rfl
 | b+1=>by rw [←avZ,it,it,it_add c1 s1 p a b]
def ln (i:Nat):Nat×Nat:=it c1 s1 (2^120,0) i
def bl (b:Nat):Nat×Nat:=it C1 S1 (2^120,0) b
def uL (b i:Nat):Nat:=(bl b).2/2^20*((ln i).1/2^28)+(bl b).1/2^20*((ln i).2/2^28)
def vL (b i:Nat):Nat:=(bl b).1/2^20*((ln i).1/2^28)-(bl b).2/2^20*((ln i).2/2^28)
def gM (n:Nat) (k:Nat→Bool):Bool:=azJ (motive:=fun _=>Bool) (k 0) (fun p _=>k (Nat.succ p)) n
theorem fZ (n:Nat) (k:Nat→Bool):gM n k=k n:=by cases n<;>rfl
def EU (d:Bool) (n:Nat):List (Bool×Nat):=azJ [] (fun i l=>(d,i)::l) n
def SO:Nat→List (Bool×Nat):=fun n=>azJ [] (fun _ l=>EU false 6++(EU true 6++l)) n
def OM:List (Bool×Nat):=EU true 23++(SO 5++(EU false 28++(EU true 28++(SO 5++(EU false 28++(EU true 28++(SO 5++(EU false 28++(EU true 28++(SO 5++(EU false 28++EU true 28)))))))))))
theorem sched_ok:∀a∈OM,a.2≤27:=by
 have:(OM.all fun a=>aiZ a.2 27)=true:=by decide+kernel
 intro a ha;exact Nat.le_of_ble_eq_true (List.all_eq_true.1 this a ha)
def DJ (n:Nat) (k:Nat→Nat→Nat→Nat→Bool):Nat→Nat→Nat→Nat→Nat→Bool:=azJ (motive:=fun _=>Nat→Nat→Nat→Nat→Nat→Bool)
 (fun _ a b c s=>k a b c s)
 (fun _ ih i a b c s=>gM (a+c/2^28*2^(224*i)) fun a'=>gM (b+s/2^28*2^(224*i)) fun b'=>gM (rc c1 s1 c s) fun c'=>gM (rs c1 s1 c s) fun s'=>gM (i+1) fun i'=>ih i' a' b' c' s') n
theorem chunk_succ (n:Nat) (k:Nat→Nat→Nat→Nat→Bool) (i a b c s:Nat):DJ (n+1) k i a b c s=DJ n k (i+1) (a+c/2^28*2^(224*i)) (b+s/2^28*2^(224*i)) (rc c1 s1 c s) (rs c1 s1 c s):=by
 have e:DJ (n+1) k i a b c s=gM (a+c/2^28*2^(224*i)) fun a'=>gM (b+s/2^28*2^(224*i)) fun b'=>gM (rc c1 s1 c s) fun c'=>gM (rs c1 s1 c s) fun s'=>gM (i+1) fun i'=>DJ n k i' a' b' c' s':=rfl;rw [e,fZ,fZ,fZ,fZ,fZ]
theorem VT (p:Nat×Nat) (k:Nat→Nat→Nat→Nat→Bool):∀n i,
  DJ n k i (dL (fun t=>(it c1 s1 p t).1/2^28) i) (dL (fun t=>(it c1 s1 p t).2/2^28) i) (it c1 s1 p i).1 (it c1 s1 p i).2=
   k (dL (fun t=>(it c1 s1 p t).1/2^28) (i+n)) (dL (fun t=>(it c1 s1 p t).2/2^28) (i+n)) (it c1 s1 p (i+n)).1 (it c1 s1 p (i+n)).2
 | 0,i=>rfl
 | n+1,i=>by
  have ih:=VT p k n (i+1);rw [show i+(n+1)=i+1+n by omega,←ih,chunk_succ];rfl
def build (n:Nat) (k:Nat→Nat→Bool):Nat→Nat→Nat→Nat→Nat→Bool:=azJ (motive:=fun _=>Nat→Nat→Nat→Nat→Nat→Bool)
 (fun _ a b _ _=>k a b)
 (fun _ ih i a b c s=>DJ 75 (fun x y c' s'=>gM (a+x*2^(16800*i)) fun a'=>gM (b+y*2^(16800*i)) fun b'=>gM (i+1) fun i'=>ih i' a' b' c' s') 0 0 0 c s) n
theorem build_succ (n:Nat) (k:Nat→Nat→Bool) (i a b c s:Nat):build (n+1) k i a b c s=DJ 75 (fun x y c' s'=>build n k (i+1) (a+x*2^(16800*i)) (b+y*2^(16800*i)) c' s') 0 0 0 c s:=by
 have e:build (n+1) k i a b c s=DJ 75 (fun x y c' s'=>gM (a+x*2^(16800*i)) fun a'=>gM (b+y*2^(16800*i)) fun b'=>gM (i+1) fun i'=>build n k i' a' b' c' s') 0 0 0 c s:=rfl;rw [e];congr 1;funext x y c' s';rw [fZ,fZ,fZ]
theorem VL (k:Nat→Nat→Bool):∀n i,
  build n k i (dL (fun t=>(ln t).1/2^28) (75*i)) (dL (fun t=>(ln t).2/2^28) (75*i)) (ln (75*i)).1 (ln (75*i)).2=
   k (dL (fun t=>(ln t).1/2^28) (75*(i+n))) (dL (fun t=>(ln t).2/2^28) (75*(i+n)))
 | 0,i=>rfl
 | n+1,i=>by
  have ih:=VL k n (i+1);rw [show i+(n+1)=i+1+n by omega,←ih,build_succ];have h:=VT (ln (75*i)) (fun x y c' s'=>build n k (i+1) ((dL (fun t=>(ln t).1/2^28) (75*i))+x*2^(16800*i)) ((dL (fun t=>(ln t).2/2^28) (75*i))+y*2^(16800*i)) c' s') 75 0;rw [gW,gW] at h;have ea:∀t,it c1 s1 (ln (75*i)) t=ln (75*i+t):=fun t=>it_add _ _ _ _ _;simp only [ea] at h;rw [show 75*i+0=75*i from rfl] at h;rw [h,show 0+75=75 from rfl,show 16800*i=224*(75*i) by omega,←CE (fun t=>(ln t).1/2^28),←CE (fun t=>(ln t).2/2^28),show 75*(i+1)=75*i+75 by omega]
def blocks (H E Z pc ps:Nat) (n:Nat):Nat→Nat→Nat→Bool:=azJ (motive:=fun _=>Nat→Nat→Nat→Bool)
 (fun _ _ _=>true)
 (fun _ ih X S C=>gM (S/2^20*pc+C/2^20*ps+X) fun U=>gM (C/2^20*pc-S/2^20*ps) fun V=>and (go H E Z OM U V) (gM (rc C1 S1 C S) fun C'=>gM (rs C1 S1 C S) fun S'=>ih 0 S' C')) n
def Ends (s c:Int):Prop:=∃u' v':Nat,Eu s c u' v'∧2^136≤u'∧u'<2^160∧2^136≤v'∧v'<2^160
theorem GU {pc ps:Nat} (hpc:pc=dL (fun t=>(ln t).1/2^28) 5400) (hps:ps=dL (fun t=>(ln t).2/2^28) 5400)
  (fit:∀b,b<500→∀i,i<5400→uL b i<2^194∧vL b i<2^195∧(bl b).2/2^20*((ln i).2/2^28)≤(bl b).1/2^20*((ln i).1/2^28)):
  ∀(n b0 X:Nat),b0+n≤500→X<2^194→blocks (dL (fun _=>HH) 5400) (dL (fun _=>HH-2^136) 5400) (dL (fun _=>2^224-2^160) 5400) pc ps n X (bl b0).2 (bl b0).1=true→
   ∀b,b0≤b→b<b0+n→∀i,i<5400→(X=0∨b≠b0∨i≠0)→Ends (uL b i) (vL b i)
 | 0,b0,X,_,_,_,b,h1,h2,_,_,_=>by omega
 | n+1,b0,X,hn,hX,h,b,h1,h2,i,hi,hx=>by
  have h':(and (go (dL (fun _=>HH) 5400) (dL (fun _=>HH-2^136) 5400) (dL (fun _=>2^224-2^160) 5400) OM ((bl b0).2/2^20*pc+(bl b0).1/2^20*ps+X) ((bl b0).1/2^20*pc-(bl b0).2/2^20*ps))
    (blocks (dL (fun _=>HH) 5400) (dL (fun _=>HH-2^136) 5400) (dL (fun _=>2^224-2^160) 5400) pc ps n 0 (bl (b0+1)).2 (bl (b0+1)).1))=true:=by
   have e:blocks (dL (fun _=>HH) 5400) (dL (fun _=>HH-2^136) 5400) (dL (fun _=>2^224-2^160) 5400) pc ps (n+1) X (bl b0).2 (bl b0).1=
     gM ((bl b0).2/2^20*pc+(bl b0).1/2^20*ps+X) (fun U=>gM ((bl b0).1/2^20*pc-(bl b0).2/2^20*ps) fun V=>and (go (dL (fun _=>HH) 5400) (dL (fun _=>HH-2^136) 5400) (dL (fun _=>2^224-2^160) 5400) OM U V) (gM (rc C1 S1 (bl b0).1 (bl b0).2) fun C'=>gM (rs C1 S1 (bl b0).1 (bl b0).2) fun S'=>blocks (dL (fun _=>HH) 5400) (dL (fun _=>HH-2^136) 5400) (dL (fun _=>2^224-2^160) 5400) pc ps n 0 S' C')):=rfl
   rw [e,fZ,fZ,fZ,fZ] at h;exact h
  clear h;rw [Bool.and_eq_true] at h';obtain ⟨hg,hr⟩:=h';by_cases hb:b=b0
  ·subst hb;have f:=fit b (by omega);have eU:(bl b).2/2^20*pc+(bl b).1/2^20*ps+X=dL (fun t=>uL b t+(if t=0 then X else 0)) 5400:=by
    have ex:=OI X 5399;rw [hpc,hps,iC,iC,nG];conv=>lhs;rw [←ex]
    rw [nG];rfl
   have eV:(bl b).1/2^20*pc-(bl b).2/2^20*ps=dL (fun t=>vL b t) 5400:=by
    rw [hpc,hps,iC,iC,FZ _ _ _ (fun t ht=>(f t ht).2.2)];rfl
   rw [eU,eV] at hg;have key:=RK 5400 OM _ _ sched_ok (fun t ht=>by have:=(f t ht).1;split<;>omega) (fun t ht=>(f t ht).2.1) hg i hi (uL b i) (vL b i);have e0:(if i=0 then X else 0)=0:=by
    rcases hx with hx | hx | hx
    ·rw [hx];simp
    ·exact absurd rfl hx
    ·rw [if_neg hx]
   rw [e0] at key;exact key (Eu.start _ _)
  ·exact GU hpc hps fit n (b0+1) 0 (by omega) (by omega) hr b (by omega) (by omega) i hi (.inl rfl)
def upto (n:Nat) (k:Nat→Nat→Bool):Nat→Nat→Bool:=azJ (motive:=fun _=>Nat→Nat→Bool)
 (fun c s=>k c s)
 (fun _ ih c s=>gM (rc C1 S1 c s) fun c'=>gM (rs C1 S1 c s) fun s'=>ih c' s') n
theorem upto_eq (k:Nat→Nat→Bool):∀n b,upto n k (bl b).1 (bl b).2=k (bl (b+n)).1 (bl (b+n)).2
 | 0,b=>rfl
 | n+1,b=>by
  have e:upto (n+1) k (bl b).1 (bl b).2=gM (rc C1 S1 (bl b).1 (bl b).2) fun c'=>gM (rs C1 S1 (bl b).1 (bl b).2) fun s'=>upto n k c' s':=rfl;rw [show b+(n+1)=b+1+n by omega,←upto_eq k n (b+1),e,fZ,fZ];rfl
def runs (b0 n:Nat):Bool:=gM (ones 5400*HH) fun H=>gM (ones 5400*(HH-2^136)) fun E=>gM (ones 5400*(2^224-2^160)) fun Z=>
 build 72 (fun pc ps=>upto b0 (fun C S=>blocks H E Z pc ps n (cond (agJ b0 0) (s1*2^72) 0) S C) (2^120) 0) 0 0 0 (2^120) 0
theorem aQ (fit:∀b,b<500→∀i,i<5400→uL b i<2^194∧vL b i<2^195∧(bl b).2/2^20*((ln i).2/2^28)≤(bl b).1/2^20*((ln i).1/2^28))
  {n b0:Nat} (hn:b0+n≤500) (h:runs b0 n=true):∀b,b0≤b→b<b0+n→∀i,i<5400→(b≠0∨i≠0)→Ends (uL b i) (vL b i):=by
 unfold runs at h;rw [fZ,fZ,fZ,SK,SK,SK] at h;have e:=VL (fun pc ps=>upto b0 (fun C S=>blocks (dL (fun _=>HH) 5400) (dL (fun _=>HH-2^136) 5400) (dL (fun _=>2^224-2^160) 5400) pc ps n (cond (agJ b0 0) (s1*2^72) 0) S C) (2^120) 0) 72 0;have h:=e.symm.trans h;have e2:=upto_eq (fun C S=>blocks (dL (fun _=>HH) 5400) (dL (fun _=>HH-2^136) 5400) (dL (fun _=>2^224-2^160) 5400) (dL (fun t=>(ln t).1/2^28) (75*(0+72))) (dL (fun t=>(ln t).2/2^28) (75*(0+72))) n (cond (agJ b0 0) (s1*2^72) 0) S C) b0 0;have h:=e2.symm.trans h;rw [apX,apX,show 75*72=5400 from rfl] at h;intro b h1 h2 i hi hx;refine GU rfl rfl fit n b0 (cond (agJ b0 0) (s1*2^72) 0) hn ?_ h b h1 h2 i hi ?_
 ·cases agJ b0 0
  ·exact anX _
  ·show s1*2^72<2^194;decide
 ·rcases Nat.eq_zero_or_pos b0 with z | z
  ·subst z;right;exact hx
  ·left;have:agJ b0 0=false:=by
    cases b0 with
    | zero=>omega
    | succ k=>rfl
   rw [this];rfl
theorem Ends.far {s c:Int} (h:Ends s c) (hc:2^191≤c) {x y:Int} (hx:0≤x) (hx':x≤2^31) (hxy:0<x+y):2^136≤x*s-y*c∨x*s-y*c≤-2^136:=by
 obtain ⟨u,v,he,h1,h2,h3,h4⟩:=h;refine he.done (e:=2^136) (B:=2^160) (M:=2^31) (by decide) (by omega) (by omega) (by omega) (by omega) ?_ hx hx' hxy;have:(2:Int)^31*2^160=2^191:=by decide
 omega
end NT
namespace NT
def Nr (x y e:Rat):Prop:=-e≤x-y∧x-y≤e
theorem aB {a b A B:Rat} (h1:-A≤a) (h2:a≤A) (h3:-B≤b) (h4:b≤B):-(A*B)≤a*b∧a*b≤A*B:=by
 have q1:0≤(A-a)*(B+b):=aaQ (by grind) (by grind);have q2:0≤(A+a)*(B-b):=aaQ (by grind) (by grind);have q3:0≤(A-a)*(B-b):=aaQ (by grind) (by grind);have q4:0≤(A+a)*(B+b):=aaQ (by grind) (by grind);constructor<;>grind
theorem WG (n:Nat) (p:Nat):Nr (((n/2^p:Nat):Rat)) ((n:Rat)/2^p) 1:=by
 have h:=Nat.div_add_mod n (2^p);have l:=Nat.mod_lt n (anX p);have h1:((2^p:Nat):Rat)*((n/2^p:Nat):Rat)+((n%2^p:Nat):Rat)=(n:Rat):=by
  rw [←afJ,←ahZ,h]
 have h2:((n%2^p:Nat):Rat)≤((2^p:Nat):Rat):=acZ.2 (Nat.le_of_lt l);have h3:(0:Rat)≤((n%2^p:Nat):Rat):=by exact_mod_cast afX _
 have hp:(0:Rat)<((2^p:Nat):Rat):=by exact_mod_cast anX p
 have e:((2^p:Nat):Rat)=2^p:=by push_cast;rfl
 rw [e] at h1 h2 hp;generalize ((n/2^p:Nat):Rat)=q at*;generalize ((n%2^p:Nat):Rat)=r at*;generalize (2:Rat)^p=P at*;have hi:P*(1/P)=1:=by grind
 have i0:0≤1/P:=by
  rcases (abX:0≤1/P∨1/P≤0) with z | z
  ·exact z
  ·have:=aaQ (a:=P) (b:=-(1/P)) (by grind) (by grind);grind
 have m1:=aaQ i0 h3;have m2:=aaQ i0 (show 0≤P-r by grind);have e2:(n:Rat)/P=q+1/P*r:=by
  rw [←h1];grind
 rw [e2];unfold Nr;constructor<;>grind
theorem step_rat {g z g1 z1 C S Ct St Cn Sn d e t q:Rat} (hc:Nr g C e) (hs:Nr z S e) (hct:Nr g1 Ct t) (hst:Nr z1 St t)
  (a1:Nr (C*Ct-S*St) Cn t) (a2:Nr (S*Ct+C*St) Sn t) (bC:0≤C∧C≤2) (bS:-1≤S∧S≤1) (bg:0≤g1∧g1≤1) (bz:0≤z1∧z1≤q) (ht:0≤t)
  (hd:e*q+6*t≤d):Nr (g*g1-z*z1) Cn (e+d-t)∧Nr (z*g1+g*z1) Sn (e+d-t):=by
 have m1:=aB (a:=g-C) (b:=g1) (A:=e) (B:=1) hc.1 hc.2 (by grind) bg.2;have m2:=aB (a:=C) (b:=g1-Ct) (A:=2) (B:=t) (by grind) bC.2 hct.1 hct.2;have m3:=aB (a:=z-S) (b:=z1) (A:=e) (B:=q) hs.1 hs.2 (by grind) bz.2;have m4:=aB (a:=S) (b:=z1-St) (A:=1) (B:=t) (by grind) bS.2 hst.1 hst.2;have n1:=aB (a:=z-S) (b:=g1) (A:=e) (B:=1) hs.1 hs.2 (by grind) bg.2;have n2:=aB (a:=S) (b:=g1-Ct) (A:=1) (B:=t) (by grind) bS.2 hct.1 hct.2;have n3:=aB (a:=g-C) (b:=z1) (A:=e) (B:=q) hc.1 hc.2 (by grind) bz.2;have n4:=aB (a:=C) (b:=z1-St) (A:=2) (B:=t) (by grind) bC.2 hst.1 hst.2;have i1:g*g1-z*z1-(C*Ct-S*St)=(g-C)*g1+C*(g1-Ct)-(z-S)*z1-S*(z1-St):=by grind
 have i2:z*g1+g*z1-(S*Ct+C*St)=(z-S)*g1+S*(g1-Ct)+(g-C)*z1+C*(z1-St):=by grind
 unfold Nr at*;generalize g*g1-z*z1=X at*;generalize z*g1+g*z1=Y at*;generalize C*Ct-S*St=X' at*;generalize S*Ct+C*St=Y' at*;generalize (g-C)*g1=p1 at*;generalize C*(g1-Ct)=p2 at*;generalize (z-S)*z1=p3 at*;generalize S*(z1-St)=p4 at*;generalize (z-S)*g1=q1 at*;generalize S*(g1-Ct)=q2 at*;generalize (g-C)*z1=q3 at*;generalize C*(z1-St)=q4 at*;refine ⟨⟨?_,?_⟩,?_,?_⟩<;>grind
def dW:Rat:=2^120
theorem FD:dW=1329227995784915872903807060280344576:=by decide+kernel
theorem quo {n:Nat} {v:Rat} (h:(n:Rat)=v*dW*dW) {X d:Rat} (hx:Nr v X d):Nr (((n/2^120:Nat):Rat)/dW) X (d+1/dW):=by
 have k:=WG n 120;have e:(2:Rat)^120=dW:=rfl;rw [e] at k;have p:=FD;generalize ((n/2^120:Nat):Rat)=q at*;rw [h] at k;unfold Nr at*;rw [p] at*;constructor<;>grind
theorem step_near {c s c1 s1:Nat} {C S Ct St Cn Sn d e q:Rat} (hc:Nr ((c:Rat)/dW) C e) (hs:Nr ((s:Rat)/dW) S e) (hct:Nr ((c1:Rat)/dW) Ct (2/dW)) (hst:Nr ((s1:Rat)/dW) St (2/dW))
  (a1:Nr (C*Ct-S*St) Cn (2/dW)) (a2:Nr (S*Ct+C*St) Sn (2/dW)) (bC:3/5≤C∧C≤2) (bS:-1≤S∧S≤4/5) (bg:2^119≤c1∧c1≤2^120) (bz:s1*600≤2^120) (hq:(s1:Rat)≤q*dW) (he:0≤e∧e≤1/100)
  (hd:e*q+12/dW≤d):Nr ((rc c1 s1 c s:Rat)/dW) Cn (e+d)∧Nr ((rs c1 s1 c s:Rat)/dW) Sn (e+d):=by
 have p:=FD;have c0:(0:Rat)≤(c:Rat):=by exact_mod_cast afX _
 have s0:(0:Rat)≤(s:Rat):=by exact_mod_cast afX _
 have c10:(0:Rat)≤(c1:Rat):=by exact_mod_cast afX _
 have s10:(0:Rat)≤(s1:Rat):=by exact_mod_cast afX _
 have b1:(c1:Rat)≤((2^120:Nat):Rat):=acZ.2 bg.2;have b2:((s1*600:Nat):Rat)≤((2^120:Nat):Rat):=acZ.2 bz;have b3:((2^119:Nat):Rat)≤(c1:Rat):=acZ.2 bg.1;have e6:((600:Nat):Rat)=600:=rfl;have e119:((2^119:Nat):Rat)=664613997892457936451903530140172288:=by decide+kernel
 have e120:((2^120:Nat):Rat)=1329227995784915872903807060280344576:=by decide+kernel
 rw [afJ,e6,e120] at b2;rw [e120] at b1;rw [e119] at b3;have r:=step_rat (d:=d) (q:=q) hc hs hct hst a1 a2 ⟨by grind,bC.2⟩ ⟨bS.1,by grind⟩ ⟨by rw [p];grind,by rw [p];grind⟩ ⟨by rw [p];grind,by rw [p] at hq ⊢;grind⟩ (by rw [p];grind) (by rw [p] at hd ⊢;grind);have le:s*s1≤c*c1:=by
  have k1:s≤2^120:=by
   apply acZ.1;rw [e120];unfold Nr at hs;rw [p] at hs;grind
  have k2:2^119≤c:=by
   apply acZ.1;rw [e119];unfold Nr at hc;rw [p] at hc;grind
  have k3:s1≤2^112:=by omega
  have k4:s*s1≤2^120*2^112:=aiX k1 k3;have k5:2^119*2^119≤c*c1:=aiX k2 bg.1;have k6:(2:Nat)^120*2^112≤2^119*2^119:=by decide
  exact ahJ k4 (ahJ k6 k5)
 have v1:((c*c1-s*s1:Nat):Rat)=((c:Rat)/dW*((c1:Rat)/dW)-(s:Rat)/dW*((s1:Rat)/dW))*dW*dW:=by
  have:((c*c1-s*s1:Nat):Rat)=(c:Rat)*(c1:Rat)-(s:Rat)*(s1:Rat):=by
   have h:=atQ le;have h2:((c*c1-s*s1+s*s1:Nat):Rat)=((c*c1:Nat):Rat):=by rw [h]
   rw [ahZ,afJ,afJ] at h2;grind
  rw [this,p];grind
 have v2:((s*c1+c*s1:Nat):Rat)=((s:Rat)/dW*((c1:Rat)/dW)+(c:Rat)/dW*((s1:Rat)/dW))*dW*dW:=by
  rw [ahZ,afJ,afJ,p];grind
 have q1:=quo v1 r.1;have q2:=quo v2 r.2;unfold rc rs;unfold Nr at*;rw [p] at*;constructor<;>constructor<;>grind
structure Tr (S C:Nat→Rat):Prop where
 add:∀a b,a+b≤2700000→Nr (C a*C b-S a*S b) (C (a+b)) (2/dW)∧Nr (S a*C b+C a*S b) (S (a+b)) (2/dW)
 bdS:∀a,a≤2700000→-(1/1000)≤S a∧S a≤4/5
 bdC:∀a,a≤2700000→3/5≤C a∧C a≤1001/1000
 zero:S 0=0∧C 0=1
 one:Nr ((s1:Rat)/dW) (S 1) (2/dW)∧Nr ((c1:Rat)/dW) (C 1) (2/dW)
 blk:Nr ((S1:Rat)/dW) (S 5400) (2/dW)∧Nr ((C1:Rat)/dW) (C 5400) (2/dW)
def K0:Rat:=128/dW
theorem yD {S C:Nat→Rat} (T:Tr S C) (w N:Nat) (a b:Nat) (hw:w*N≤2700000) (hN:N≤5400) (h1:Nr ((b:Rat)/dW) (S w) (2/dW)) (h2:Nr ((a:Rat)/dW) (C w) (2/dW)) (ba:2^119≤a∧a≤2^120) (bb:b*600≤2^120) {q:Rat} (hq0:0≤q) (hq:(b:Rat)≤q*dW) (hd:(N:Rat)*K0*q+12/dW≤K0):
  ∀n,n≤N→Nr (((it a b (2^120,0) n).1:Rat)/dW) (C (w*n)) ((n:Rat)*K0)∧Nr (((it a b (2^120,0) n).2:Rat)/dW) (S (w*n)) ((n:Rat)*K0)
 | 0,_=>by
  have p:=FD;have e120:((2^120:Nat):Rat)=1329227995784915872903807060280344576:=by decide+kernel
  have z:((0:Nat):Rat)=0:=rfl;rw [Nat.mul_zero,T.zero.1,T.zero.2,z];show Nr (((2^120:Nat):Rat)/dW) 1 _∧Nr (((0:Nat):Rat)/dW) 0 _;rw [e120,z,p];unfold Nr;constructor<;>constructor<;>grind
 | n+1,hn=>by
  have ih:=yD T w N a b hw hN h1 h2 ba bb hq0 hq hd n (by omega);have hm:w*n+w≤2700000:=by
   have:=Nat.mul_le_mul_left w hn;rw [Nat.mul_add] at this;omega
  have ad:=T.add (w*n) w hm;have n0:(0:Rat)≤(n:Rat):=by exact_mod_cast afX n
  have n1:(n:Rat)≤(N:Rat):=acZ.2 (by omega);have n2:(n:Rat)≤((5400:Nat):Rat):=acZ.2 (by omega);have z5:((5400:Nat):Rat)=5400:=rfl;rw [z5] at n2;have cn:((n+1:Nat):Rat)=(n:Rat)+1:=by rw [ahZ];rfl
  have k0:0≤K0:=by decide+kernel
  have k1:5400*K0≤1/100:=by decide+kernel
  have m0:=aaQ n0 k0;have m1:=acJ n1 k0;have m2:=acJ n2 k0;have m3:=acJ m1 hq0;have bC:=T.bdC (w*n) (by omega);have bS:=T.bdS (w*n) (by omega);have r:=step_near (d:=K0) ih.1 ih.2 h2 h1 ad.1 ad.2 ⟨bC.1,by grind⟩ ⟨by grind,bS.2⟩ ba bb hq ⟨m0,by grind⟩ (by grind);rw [show w*(n+1)=w*n+w by rw [Nat.mul_add];omega,cn,show ((n:Rat)+1)*K0=(n:Rat)*K0+K0 by grind];exact r
theorem ln_near {S C:Nat→Rat} (T:Tr S C) (i:Nat) (hi:i<5400):Nr (((ln i).1:Rat)/dW) (C i) (1/2^100)∧Nr (((ln i).2:Rat)/dW) (S i) (1/2^100):=by
 have h:=yD T 1 5399 c1 s1 (by omega) (by omega) T.one.1 T.one.2 (by decide) (by decide) (q:=1/3000000) (by grind) (by decide+kernel) (by decide+kernel) i (by omega);rw [Nat.one_mul] at h;have n2:(i:Rat)≤((5400:Nat):Rat):=acZ.2 (by omega);have m2:=acJ n2 (show 0≤K0 by decide+kernel);have k:((5400:Nat):Rat)*K0≤1/2^100:=by decide+kernel
 unfold Nr ln at*;constructor<;>constructor<;>grind
theorem bl_near {S C:Nat→Rat} (T:Tr S C) (b:Nat) (hb:b<500):Nr (((bl b).1:Rat)/dW) (C (5400*b)) (1/2^100)∧Nr (((bl b).2:Rat)/dW) (S (5400*b)) (1/2^100):=by
 have h:=yD T 5400 499 C1 S1 (by omega) (by omega) T.blk.1 T.blk.2 (by decide) (by decide) (q:=1/600) (by grind) (by decide+kernel) (by decide+kernel) b (by omega);have n2:(b:Rat)≤((5400:Nat):Rat):=acZ.2 (by omega);have m2:=acJ n2 (show 0≤K0 by decide+kernel);have k:((5400:Nat):Rat)*K0≤1/2^100:=by decide+kernel
 unfold Nr bl at*;constructor<;>constructor<;>grind
theorem zP {n p:Nat} {X q:Rat} (hp:(2:Rat)^p*q=dW) (hq:0<q) (h:Nr ((n:Rat)/dW) X (1/2^100)):Nr (((n/2^p:Nat):Rat)/q) X (1/q+1/2^100):=by
 have k:=WG n p;generalize ((n/2^p:Nat):Rat)=m at*;have pp:(2:Rat)^p≠0:=by
  intro z;rw [z] at hp;have:=FD;grind
 generalize (2:Rat)^p=P at*;have e:(n:Rat)/dW=(n:Rat)/P*(1/q):=by
  rw [←hp];grind
 have i0:0≤1/q:=by
  rcases (abX:0≤1/q∨1/q≤0) with z | z
  ·exact z
  ·have:=aaQ (a:=q) (b:=-(1/q)) (by grind) (by grind);grind
 have m1:=aB k.1 k.2 (show -(1/q)≤1/q by grind) (show 1/q≤1/q by grind);rw [e] at h;have e2:m/q=m*(1/q):=by grind
 have e3:(m-(n:Rat)/P)*(1/q)=m*(1/q)-(n:Rat)/P*(1/q):=by grind
 rw [e2];rw [e3] at m1;unfold Nr at*;generalize m*(1/q)=u at*;generalize (n:Rat)/P*(1/q)=v at*;constructor<;>grind
theorem uv_near {s c S C a b A B e f:Rat} (h1:Nr s S e) (h2:Nr c C e) (h3:Nr a A f) (h4:Nr b B f) (bf:0≤f∧f≤1) (bS:-1≤S∧S≤1) (bC:-2≤C∧C≤2) (bA:-2≤A∧A≤2) (bB:-1≤B∧B≤1):
  Nr (s*a+c*b) (S*A+C*B) (6*e+6*f)∧Nr (c*a-s*b) (C*A-S*B) (6*e+6*f):=by
 unfold Nr at*;have m1:=aB (a:=s-S) (b:=a) (A:=e) (B:=3) h1.1 h1.2 (by grind) (by grind);have m2:=aB (a:=S) (b:=a-A) (A:=1) (B:=f) (by grind) bS.2 h3.1 h3.2;have m3:=aB (a:=c-C) (b:=b) (A:=e) (B:=3) h2.1 h2.2 (by grind) (by grind);have m4:=aB (a:=C) (b:=b-B) (A:=2) (B:=f) (by grind) bC.2 h4.1 h4.2;have n1:=aB (a:=c-C) (b:=a) (A:=e) (B:=3) h2.1 h2.2 (by grind) (by grind);have n2:=aB (a:=C) (b:=a-A) (A:=2) (B:=f) (by grind) bC.2 h3.1 h3.2;have n3:=aB (a:=s-S) (b:=b) (A:=e) (B:=3) h1.1 h1.2 (by grind) (by grind);have n4:=aB (a:=S) (b:=b-B) (A:=1) (B:=f) (by grind) bS.2 h4.1 h4.2;have i1:s*a+c*b-(S*A+C*B)=(s-S)*a+S*(a-A)+(c-C)*b+C*(b-B):=by grind
 have i2:c*a-s*b-(C*A-S*B)=(c-C)*a+C*(a-A)-(s-S)*b-S*(b-B):=by grind
 rw [i1,i2];generalize (s-S)*a=x1 at*;generalize S*(a-A)=x2 at*;generalize (c-C)*b=x3 at*;generalize C*(b-B)=x4 at*;generalize (c-C)*a=y1 at*;generalize C*(a-A)=y2 at*;generalize (s-S)*b=y3 at*;generalize S*(b-B)=y4 at*;constructor<;>constructor<;>grind
def zD:Rat:=2^192
theorem PH:zD=6277101735386680763835789423207666416102355444464034512896:=by decide+kernel
theorem OA {S C:Nat→Rat} (T:Tr S C) (b i:Nat) (hb:b<500) (hi:i<5400):
  Nr ((uL b i:Rat)/zD) (S (5400*b+i)) (1/2^89)∧Nr ((vL b i:Rat)/zD) (C (5400*b+i)) (1/2^89)∧(bl b).2/2^20*((ln i).2/2^28)≤(bl b).1/2^20*((ln i).1/2^28):=by
 have hB:=bl_near T b hb;have hL:=ln_near T i hi;have b1:=zP (p:=20) (q:=1267650600228229401496703205376) (by decide+kernel) (by decide+kernel) hB.1;have b2:=zP (p:=20) (q:=1267650600228229401496703205376) (by decide+kernel) (by decide+kernel) hB.2;have l1:=zP (p:=28) (q:=4951760157141521099596496896) (by decide+kernel) (by decide+kernel) hL.1;have l2:=zP (p:=28) (q:=4951760157141521099596496896) (by decide+kernel) (by decide+kernel) hL.2;have ad:=T.add (5400*b) i (by omega);have c1:=T.bdC (5400*b) (by omega);have c2:=T.bdC i (by omega);have s1:=T.bdS (5400*b) (by omega);have s2:=T.bdS i (by omega);have cc:=T.bdC (5400*b+i) (by omega);have k:=uv_near b2 b1 l1 l2 (by decide+kernel) (by constructor<;>grind) (by constructor<;>grind) (by constructor<;>grind) (by constructor<;>grind);have p:=PH;have pe:(2:Rat)/dW≤1/2^110:=by decide+kernel
 have kk:(6:Rat)*(1/1267650600228229401496703205376+1/2^100)+6*(1/4951760157141521099596496896+1/2^100)+1/2^110≤1/2^89:=by decide+kernel
 have le:(bl b).2/2^20*((ln i).2/2^28)≤(bl b).1/2^20*((ln i).1/2^28):=by
  apply acZ.1;rw [afJ,afJ];have h:=k.2;generalize (((bl b).2/2^20:Nat):Rat)=x at*;generalize (((bl b).1/2^20:Nat):Rat)=y at*;generalize (((ln i).1/2^28:Nat):Rat)=z at*;generalize (((ln i).2/2^28:Nat):Rat)=t at*;have e:y/1267650600228229401496703205376*(z/4951760157141521099596496896)-x/1267650600228229401496703205376*(t/4951760157141521099596496896)=(y*z-x*t)/6277101735386680763835789423207666416102355444464034512896:=by grind
  rw [e] at h;have ad1:=ad.1;unfold Nr at h ad1;have:0≤(y*z-x*t)/6277101735386680763835789423207666416102355444464034512896:=by
   generalize C (5400*b)*C i-S (5400*b)*S i=m at*;generalize (y*z-x*t)/6277101735386680763835789423207666416102355444464034512896=w at*;grind
  grind
 refine ⟨?_,?_,le⟩
 ·have h:=k.1;have e:((uL b i:Nat):Rat)/zD=(((bl b).2/2^20:Nat):Rat)/1267650600228229401496703205376*((((ln i).1/2^28:Nat):Rat)/4951760157141521099596496896)+(((bl b).1/2^20:Nat):Rat)/1267650600228229401496703205376*((((ln i).2/2^28:Nat):Rat)/4951760157141521099596496896):=by
   unfold uL;rw [ahZ,afJ,afJ,p];grind
  rw [←e] at h;have ad2:=ad.2;unfold Nr at*;generalize S (5400*b)*C i+C (5400*b)*S i=m at*;constructor<;>grind
 ·have h:=k.2;have e:((vL b i:Nat):Rat)/zD=(((bl b).1/2^20:Nat):Rat)/1267650600228229401496703205376*((((ln i).1/2^28:Nat):Rat)/4951760157141521099596496896)-(((bl b).2/2^20:Nat):Rat)/1267650600228229401496703205376*((((ln i).2/2^28:Nat):Rat)/4951760157141521099596496896):=by
   have hs:((vL b i:Nat):Rat)=(((bl b).1/2^20*((ln i).1/2^28):Nat):Rat)-(((bl b).2/2^20*((ln i).2/2^28):Nat):Rat):=by
    have h:=atQ le;have h2:((vL b i+(bl b).2/2^20*((ln i).2/2^28):Nat):Rat)=(((bl b).1/2^20*((ln i).1/2^28):Nat):Rat):=by unfold vL;rw [h]
    rw [ahZ] at h2;grind
   rw [hs,afJ,afJ,p];grind
  rw [←e] at h;have ad1:=ad.1;unfold Nr at*;generalize C (5400*b)*C i-S (5400*b)*S i=m at*;constructor<;>grind
theorem lane_fit' {S C:Nat→Rat} (T:Tr S C) (b:Nat) (hb:b<500) (i:Nat) (hi:i<5400):uL b i<2^194∧vL b i<2^195∧(bl b).2/2^20*((ln i).2/2^28)≤(bl b).1/2^20*((ln i).1/2^28):=by
 obtain ⟨h1,h2,h3⟩:=OA T b i hb hi;have cc:=T.bdC (5400*b+i) (by omega);have ss:=T.bdS (5400*b+i) (by omega);have p:=PH;have z1:((2^193:Nat):Rat)=12554203470773361527671578846415332832204710888928069025792:=by decide+kernel
 unfold Nr at h1 h2;rw [p] at h1 h2;have g1:uL b i≤2^193:=by
  apply acZ.1;rw [z1];grind
 have g2:vL b i≤2^193:=by
  apply acZ.1;rw [z1];grind
 exact ⟨by omega,by omega,h3⟩
theorem no_ties {S C:Nat→Rat} (T:Tr S C) (R:∀b,b<500→∀i,i<5400→(b≠0∨i≠0)→Ends (uL b i) (vL b i)) {k:Nat} (h0:0<k) (hk:k<2700000) {x y:Nat} (hx:x≤2^31) (hy:y≤2^31) (hxy:0<x+y):
  1/2^57≤(x:Rat)*S k-(y:Rat)*C k∨(x:Rat)*S k-(y:Rat)*C k≤-(1/2^57):=by
 have hb:k/5400<500:=by omega
 have hi:k%5400<5400:=by omega
 have hr:=R (k/5400) hb (k%5400) hi (by omega);obtain ⟨h1,h2,_⟩:=OA T (k/5400) (k%5400) hb hi;rw [show 5400*(k/5400)+k%5400=k by omega] at h1 h2;have cc:=T.bdC k (by omega);have p:=PH;have z1:((2^191:Nat):Rat)=3138550867693340381917894711603833208051177722232017256448:=by decide+kernel
 have hc:2^191≤vL (k/5400) (k%5400):=by
  apply acZ.1;rw [z1];unfold Nr at h2;rw [p] at h2;grind
 have f:=hr.far (by exact_mod_cast hc) (x:=(x:Int)) (y:=(y:Int)) (by omega) (by exact_mod_cast hx) (by omega);generalize uL (k/5400) (k%5400)=u at*;generalize vL (k/5400) (k%5400)=v at*;have x0:(0:Rat)≤(x:Rat):=by exact_mod_cast afX _
 have y0:(0:Rat)≤(y:Rat):=by exact_mod_cast afX _
 have z2:((2^31:Nat):Rat)=2147483648:=by decide+kernel
 have x1:(x:Rat)≤2147483648:=by rw [←z2];exact acZ.2 hx
 have y1:(y:Rat)≤2147483648:=by rw [←z2];exact acZ.2 hy
 have m1:=aB (a:=(x:Rat)) (A:=2147483648) (by grind) x1 h1.1 h1.2;have m2:=aB (a:=(y:Rat)) (A:=2147483648) (by grind) y1 h2.1 h2.2;have e:(x:Rat)*S k-(y:Rat)*C k=((x:Rat)*(u:Rat)-(y:Rat)*(v:Rat))/zD-((x:Rat)*((u:Rat)/zD-S k)-(y:Rat)*((v:Rat)/zD-C k)):=by
  rw [p];grind
 have kk:(2147483648:Rat)*(1/2^89)+2147483648*(1/2^89)+1/2^57≤1/2^56:=by decide+kernel
 have ci:((x:Int)*(u:Int)-(y:Int)*(v:Int):Int)=(((x:Int)*(u:Int)-(y:Int)*(v:Int):Int)):=rfl;have cst:(((x:Int)*(u:Int)-(y:Int)*(v:Int):Int):Rat)=(x:Rat)*(u:Rat)-(y:Rat)*(v:Rat):=by
  rw [abZ,acX,acX];rfl
 have z3:((2^136:Int):Rat)=87112285931760246646623899502532662132736:=by decide+kernel
 have z4:((-2^136:Int):Rat)=-87112285931760246646623899502532662132736:=by decide+kernel
 rw [e];generalize (x:Rat)*((u:Rat)/zD-S k)=r1 at*;generalize (y:Rat)*((v:Rat)/zD-C k)=r2 at*;rcases f with f | f
 ·left;have g:=ahQ.2 f;rw [cst,z3] at g;generalize (x:Rat)*(u:Rat)-(y:Rat)*(v:Rat)=w at*;have:1/2^56≤w/zD:=by rw [p];grind
  generalize w/zD=w' at*;grind
 ·right;have g:=ahQ.2 f;rw [cst,z4] at g;generalize (x:Rat)*(u:Rat)-(y:Rat)*(v:Rat)=w at*;have:w/zD≤-(1/2^56):=by rw [p];grind
  generalize w/zD=w' at*;grind
end NT
end
end Go.Proofs.YtajpgkpdhcbngaaGreatDoor
