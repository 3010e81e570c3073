/-
  The alternating series of sine and cosine, reckoned in whole units and rounded down at each term: how far it is from the sine and the cosine. No program here. No ties: the true sines and cosines of.
-/
import Derived.Test.YtajpgkpdhcbngaaGreatDoorU6
import Derived.Test.YtajpgkpdhcbngaaGreatDoorU7
import Derived.Test.YtajpgkpdhcbngaaGreatDoorNr1
import Derived.Test.YtajpgkpdhcbngaaGreatDoorNr2
import Derived.Test.YtajpgkpdhcbngaaGreatDoorU5
import Derived.Test.YtajpgkpdhcbngaaGreatDoorU3
set_option maxRecDepth 100000
set_option maxHeartbeats 4000000
open _root_.Int renaming le_of_lt→aoJ,le_refl→abJ,mul_comm→akZ,mul_le_mul_of_nonneg_left→agX,mul_le_mul_of_nonneg_right→aeZ,mul_neg→auX,neg_mul→amQ,toNat_of_nonneg→ajQ
open _root_.Nat renaming eq_or_lt_of_le→amX,eq_zero_or_pos→alX,le_refl→aaJ,lt_or_ge→adZ,mod_eq_of_lt→aqQ,mul_comm→aoQ,mul_le_mul→aiX,mul_le_mul_left→akQ,mul_le_mul_right→arX,zero_le→afX
open _root_.Rat renaming intCast_le_intCast→ahQ,intCast_natCast→alZ,intCast_sub→abZ,mul_comm→aqJ,mul_le_mul_of_nonneg_left→adQ,mul_le_mul_of_nonneg_right→acJ,mul_nonneg→aaQ,natCast_add→ahZ,natCast_le_natCast→acZ,natCast_mul→afJ
namespace Go.Proofs.YtajpgkpdhcbngaaGreatDoor
section
namespace TA
open SM
theorem sm_tl (o:Nat) (g:Nat→Rat) (x:Rat) (h0:∀k,g (2*k+1-o)=0) (h1:∀k,g (2*(k+1)+o)=-g (2*k+o)) (ho:o=0∨o=1):∀n k,
  sm (fun j=>g j*P j x) (2*(k+n)+1+o)=sm (fun j=>g j*P j x) (2*k+o)+g (2*k+o)*(P (2*k+o) x*tl o (x*x) k n)
 | 0,k=>by
  unfold tl;rcases ho with rfl | rfl
  ·rw [show 2*(k+0)+1+0=2*k+0+1 by omega,sm];grind
  ·rw [show 2*(k+0)+1+1=2*k+1+1 by omega,sm];grind
 | n+1,k=>by
  have ih:=sm_tl o g x h0 h1 ho n (k+1);have st:sm (fun j=>g j*P j x) (2*(k+1)+o)=sm (fun j=>g j*P j x) (2*k+o)+g (2*k+o)*P (2*k+o) x:=by
   rcases ho with rfl | rfl
   ·have z:=h0 k;rw [show 2*(k+1)+0=2*k+0+1+1 by omega,sm,sm];rw [show 2*k+1-0=2*k+0+1 by omega] at z;rw [z];grind
   ·have z:=h0 (k+1);rw [show 2*(k+1)+1=2*k+1+1+1 by omega,sm,sm];rw [show 2*(k+1)+1-1=2*k+1+1 by omega] at z;rw [z];grind
  have pp:P (2*(k+1)+o) x=1/(((2*k+1+o)*(2*k+2+o):Nat):Rat)*(x*x)*P (2*k+o) x:=by
   rw [show 2*(k+1)+o=2*k+o+1+1 by omega];show P (2*k+o) x*x/(((2*k+o:Nat):Rat)+1)*x/(((2*k+o+1:Nat):Rat)+1)=_;have q1:=pos (2*k+o);have q2:=pos (2*k+o+1);have c1:((2*k+1+o:Nat):Rat)=((2*k+o:Nat):Rat)+1:=by rw [show 2*k+1+o=2*k+o+1 by omega,ahZ];rfl
   have c2:((2*k+2+o:Nat):Rat)=((2*k+o+1:Nat):Rat)+1:=by rw [show 2*k+2+o=2*k+o+1+1 by omega,ahZ];rfl
   rw [afJ,c1,c2];generalize ((2*k+o:Nat):Rat)+1=a at*;generalize ((2*k+o+1:Nat):Rat)+1=b at*;grind
  rw [show k+(n+1)=k+1+n by omega,ih,st,h1,pp,tl];generalize 1/(((2*k+1+o)*(2*k+2+o):Nat):Rat)=i;grind
theorem Sn_tl (x:Rat) (n:Nat):Sn (2*n+1) x=x*tl 1 (x*x) 0 n:=by
 have h:=sm_tl 1 ss x (fun k=>by unfold ss;rw [if_neg (by omega),if_neg (by omega)]) (fun k=>by unfold ss;repeat' split;all_goals first | omega | grind) (.inr rfl) n 0;have e:2*(0+n)+1+1=2*n+1+1:=by omega
 rw [e] at h;show sm (fun j=>ss j*P j x) (2*n+1+1)=_;rw [h];simp [sm,ss,P];grind
theorem Cn_tl (x:Rat) (n:Nat):Cn (2*n) x=tl 0 (x*x) 0 n:=by
 have h:=sm_tl 0 sc x (fun k=>by unfold sc;rw [if_neg (by omega),if_neg (by omega)]) (fun k=>by unfold sc;repeat' split;all_goals first | omega | grind) (.inl rfl) n 0;have e:2*(0+n)+1+0=2*n+1:=by omega
 rw [e] at h;show sm (fun j=>sc j*P j x) (2*n+1)=_;rw [h];simp [sm,sc,P];grind
def KX (U T Q n:Nat):Nat:=T*Q/U/((n+1)*(n+2))
def vU (U Q:Nat):Nat→Nat→Nat→Int
 | 0,T,_=>T
 | f+1,T,n=>if T=0 then 0 else T-vU U Q f (KX U T Q n) (n+2)
theorem serU_le {U:Nat} (T Q n:Nat) (hQ:Q≤U):KX U T Q n≤T:=by
 unfold KX;have h1:T*Q/U≤T:=Nat.div_le_of_le_mul (by rw [aoQ U];exact akQ _ hQ);exact Nat.le_trans (Nat.div_le_self _ _) h1
theorem vU_bd {U Q:Nat} (hQ:Q≤U):∀f T n,0≤vU U Q f T n∧vU U Q f T n≤T
 | 0,T,n=>by unfold vU;omega
 | f+1,T,n=>by
  unfold vU;split
  ·omega
  ·have:=vU_bd hQ f (KX U T Q n) (n+2);have:=serU_le T Q n hQ;omega
theorem st_errU {t q τ Y h u D i e E:Rat} (he:0≤e∧e≤E/8) (hi:i*D=1) (hi0:0≤i) (hi1:i≤1/2) (hτ:0≤τ∧τ≤1) (hq:0≤q∧q≤7/10)
  (e1:bZ (t-τ) E) (e2:bZ (q-Y) (E/8)) (h1:h≤t*q) (h2:t*q≤h+e) (h3:u*D≤h) (h4:h≤u*D+D*e):bZ (u-i*(Y*τ)) E:=by
 have w1:=e1.mul (show bZ q (7/10) from ⟨by grind,hq.2⟩);have w2:=(show bZ τ 1 from ⟨by grind,hτ.2⟩).mul e2;have eT:t*q-Y*τ=(t-τ)*q+τ*(q-Y):=by grind
 have w3:bZ (t*q-Y*τ) (7/10*E+E/8):=by rw [eT];unfold bZ at*;constructor<;>grind
 have m1:=adQ h3 hi0;have m2:=adQ h4 hi0;have m3:=adQ h1 hi0;have m4:=adQ h2 hi0;have a1:i*(u*D)=u:=by rw [show i*(u*D)=(i*D)*u by grind,hi];grind
 have a2:i*(u*D+D*e)=u+e:=by rw [show i*(u*D+D*e)=(i*D)*(u+e) by grind,hi];grind
 have w4:=(show bZ i (1/2) from ⟨by grind,hi1⟩).mul w3;have a3:i*(t*q-Y*τ)=i*(t*q)-i*(Y*τ):=by grind
 have m5:i*(h+e)≤i*h+e:=by
  have:=acJ (show i≤1 by grind) he.1;grind
 rw [a1] at m1;rw [a2] at m2;rw [a3] at w4;generalize i*(t*q)=A at*;generalize i*(Y*τ)=B at*;generalize i*h=C at*;unfold bZ at*;constructor<;>grind
theorem serU_err {U:Nat} (hU0:0<U) {E:Rat} (hE:1/(U:Rat)≤E/8) {T Q k o:Nat} {τ Y:Rat} (hτ:0≤τ∧τ≤1) (hq7:(Q:Rat)/U≤7/10) (e1:bZ ((T:Rat)/U-τ) E) (e2:bZ ((Q:Rat)/U-Y) (E/8)):
  bZ ((KX U T Q (2*k+o):Rat)/U-1/(((2*k+1+o)*(2*k+2+o):Nat):Rat)*(Y*τ)) E:=by
 have hu:KX U T Q (2*k+o)=T*Q/U/((2*k+1+o)*(2*k+2+o)):=by
  unfold KX;rw [show 2*k+o+1=2*k+1+o by omega,show 2*k+o+2=2*k+2+o by omega]
 have hd:=dk_ge o k;rw [hu];generalize (2*k+1+o)*(2*k+2+o)=D at*;have i1:=jL hd;have i0:=dQ (D:Rat) (by exact_mod_cast afX _);have hD:(2:Rat)≤(D:Rat):=by exact_mod_cast hd
 have hiD:1/(D:Rat)*(D:Rat)=1:=by grind
 have b1:=nS (T*Q) U hU0;have b2:=nS (T*Q/U) D (by omega);generalize T*Q/U/D=V at*;generalize T*Q/U=H at*;rw [afJ] at b1;have hUp:(0:Rat)<(U:Rat):=by exact_mod_cast hU0
 have p0:=dQ (U:Rat) (by exact_mod_cast afX _);have hU:1/(U:Rat)*(U:Rat)=1:=by grind
 have dv:∀z:Rat,z/(U:Rat)=z*(1/(U:Rat)):=fun z=>by grind
 rw [dv] at hq7 e1 e2 ⊢;generalize (U:Rat)=UR at*;generalize 1/UR=epU at*;have q0:(0:Rat)≤(Q:Rat)*epU:=aaQ (by exact_mod_cast afX _) p0;have c1:=acJ b1.1 p0;have c2:=acJ b1.2 p0;have c1':=acJ c1 p0;have c2':=acJ c2 p0;have c3:=acJ b2.1 p0;have c4:=acJ b2.2 p0;have r1:UR*(H:Rat)*epU*epU=(H:Rat)*epU:=by rw [show UR*(H:Rat)*epU*epU=(epU*UR)*((H:Rat)*epU) by grind,hU];grind
 have r2:(T:Rat)*(Q:Rat)*epU*epU=(T:Rat)*epU*((Q:Rat)*epU):=by grind
 have r3:(UR*(H:Rat)+UR)*epU*epU=(H:Rat)*epU+epU:=by rw [show (UR*(H:Rat)+UR)*epU*epU=(epU*UR)*((H:Rat)*epU+epU) by grind,hU];grind
 rw [r1,r2] at c1';rw [r2,r3] at c2';exact st_errU ⟨p0,hE⟩ hiD i0 i1 hτ ⟨q0,hq7⟩ e1 e2 c1' c2' (by grind) (by grind)
theorem vU_err {U:Nat} (hU0:0<U) {E:Rat} (hE:1/(U:Rat)≤E/8) {o M:Nat} {δ:Rat} (hδ:rG o M≤δ) {Q:Nat} (hQ:Q≤U) {Y:Rat} (hY:0≤Y∧Y≤7/10) (hq7:(Q:Rat)/U≤7/10) (e2:bZ ((Q:Rat)/U-Y) (E/8)):
  ∀(p k f:Nat) (T:Nat) (τ:Rat),k+p=M→p≤f→0≤τ→τ≤1→τ≤rG o k→bZ ((T:Rat)/U-τ) E→
   bZ ((vU U Q f T (2*k+o):Rat)/U-τ*tl o Y k p) (((p:Rat)+2)*E+2*δ)
 | 0,k,f,T,τ,hk,_,h0,h1,hb,e1=>by
  obtain rfl:k=M:=by omega
  have hv:=vU_bd hQ f T (2*k+o);have v0:(0:Rat)≤(vU U Q f T (2*k+o):Rat):=by exact_mod_cast hv.1
  have v1:(vU U Q f T (2*k+o):Rat)≤(T:Rat):=by
   have:=ahQ.2 hv.2;rw [alZ] at this;exact this
  have p0:=dQ (U:Rat) (by exact_mod_cast afX _);have m0:=aaQ v0 p0;have m1:=acJ v1 p0;have e:tl o Y k 0=1:=rfl;have c0:((0:Nat):Rat)=0:=rfl;have dv:∀z:Rat,z/(U:Rat)=z*(1/(U:Rat)):=fun z=>by grind
  rw [e,c0,Rat.mul_one,dv];rw [dv] at e1;generalize 1/(U:Rat)=epU at*;generalize (vU U Q f T (2*k+o):Rat)*epU=V at*;generalize (T:Rat)*epU=t at*;unfold bZ at*;constructor<;>grind
 | p+1,k,f,T,τ,hk,hf,h0,h1,hb,e1=>by
  obtain ⟨f,rfl⟩:∃g,f=g+1:=⟨f-1,by omega⟩;have cp:((p+1:Nat):Rat)=(p:Rat)+1:=by rw [ahZ];rfl
  have pn:(0:Rat)≤(p:Rat):=by exact_mod_cast afX p
  have p0:=dQ (U:Rat) (by exact_mod_cast afX _);have hep:(0:Rat)≤E:=by grind
  have hpe:=aaQ pn hep;have d0:0≤δ:=by
   have tb:∀m,0≤rG o m:=fun m=>by
    induction m with
    | zero=>unfold rG;grind
    | succ m ih=>
     unfold rG;exact aaQ (aaQ (by grind) (dQ _ (by exact_mod_cast afX _))) ih
   have:=tb M;grind
  rw [cp];unfold vU;by_cases hT0:T=0
  ·rw [if_pos hT0];subst hT0;have hb2:=OU o Y ⟨hY.1,by grind⟩ (p+1) k;have m0:=aaQ h0 hb2.1;have m1:τ*tl o Y k (p+1)≤τ:=by
    have:=adQ hb2.2 h0;grind
   have c0:((0:Nat):Rat)=0:=rfl;have c1:((0:Int):Rat)=0:=rfl;rw [c0] at e1;rw [c1];have z0:(0:Rat)/(U:Rat)=0:=by grind
   rw [z0] at*;generalize τ*tl o Y k (p+1)=R at*;unfold bZ at*;constructor<;>grind
  ·rw [if_neg hT0];have hs:=serU_err hU0 hE (k:=k) (o:=o) ⟨h0,h1⟩ hq7 e1 e2;have b1:=aA1 (o:=o) (k:=k) hY h0 hb;have hd:=dk_ge o k;have i1:=jL hd;have i0:=dQ (((2*k+1+o)*(2*k+2+o):Nat):Rat) (by exact_mod_cast afX _);have yt0:=aaQ hY.1 h0;have yt1:Y*τ≤1:=by
    have:=adQ h1 hY.1;grind
   have u0:=aaQ i0 yt0;have u1:=adQ yt1 i0;have ih:=vU_err hU0 hE hδ hQ hY hq7 e2 p (k+1) f (KX U T Q (2*k+o)) _ (by omega) (by omega) u0 (by grind) b1 hs;rw [show 2*(k+1)+o=2*k+o+2 by omega] at ih;rw [abZ,alZ];have tle:τ*tl o Y k (p+1)=τ-1/(((2*k+1+o)*(2*k+2+o):Nat):Rat)*(Y*τ)*tl o Y (k+1) p:=by
    rw [tl];generalize 1/(((2*k+1+o)*(2*k+2+o):Nat):Rat)=i;grind
   rw [tle];have dv:∀z:Rat,z/(U:Rat)=z*(1/(U:Rat)):=fun z=>by grind
   rw [dv] at ih e1 ⊢;generalize (vU U Q f (KX U T Q (2*k+o)) (2*k+o+2):Rat)=V' at*;generalize 1/(((2*k+1+o)*(2*k+2+o):Nat):Rat)*(Y*τ)*tl o Y (k+1) p=R at*;generalize 1/(U:Rat)=epU at*;have hdist:((T:Rat)-V')*epU=(T:Rat)*epU-V'*epU:=by grind
   rw [hdist];generalize V'*epU=A at*;generalize (T:Rat)*epU=B at*;unfold bZ at*;constructor<;>grind
end TA
end
section
namespace TA
open SM
def jE:Rat:=19720096697726538562396133364228268891463450865190089732560/6277101735386680763835789423207666416102355444464034512896/10800000
def sV (a:Nat):Rat:=Sn 100 (jE*(a:Rat))
def cV (a:Nat):Rat:=Cn 100 (jE*(a:Rat))
theorem rest_8:rest 100 (4/5)≤2/NT.dW:=by decide+kernel
theorem tail_31:En 100 (4/5)-En 31 (4/5)≤1/2^115:=by decide+kernel
theorem tail_30:En 100 (4/5)-En 30 (4/5)≤1/2^115:=by decide+kernel
theorem ED (a:Nat) (ha:a≤2700000):0≤jE*(a:Rat)∧jE*(a:Rat)≤7854/10000:=by
 have b0:(0:Rat)≤(a:Rat):=by exact_mod_cast afX a
 have b1:(a:Rat)≤((2700000:Nat):Rat):=by exact_mod_cast ha
 have z:((2700000:Nat):Rat)=2700000:=rfl;rw [z] at b1;have t:jE*2700000≤7854/10000:=by decide+kernel
 have t0:0≤jE:=by decide+kernel
 have m0:=aaQ t0 b0;have m1:0≤jE*(2700000-(a:Rat)):=aaQ t0 (by grind);constructor<;>grind
theorem vy_bd (a:Nat) (ha:a≤2700000):0≤jE*(a:Rat)*(jE*(a:Rat))∧jE*(a:Rat)*(jE*(a:Rat))≤62/100:=by
 have m:=ED a ha;have h:=mulB (u:=jE*(a:Rat)) (v:=jE*(a:Rat)) (a:=7854/10000) (b:=7854/10000) ⟨by grind,m.2⟩ ⟨by grind,m.2⟩;exact ⟨aaQ m.1 m.1,by grind⟩
theorem v_near (a:Nat) (ha:a≤2700000):bZ (sV a-jE*(a:Rat)*tl 1 (jE*(a:Rat)*(jE*(a:Rat))) 0 15) (1/2^115)∧bZ (cV a-tl 0 (jE*(a:Rat)*(jE*(a:Rat))) 0 15) (1/2^115):=by
 have m:=ED a ha;have s:=OT 31 69 100 rfl (x:=jE*(a:Rat)) (X:=4/5) (by grind) (by grind) tail_31;have c:=ZZ 30 70 100 rfl (x:=jE*(a:Rat)) (X:=4/5) (by grind) (by grind) tail_30;have es:=Sn_tl (jE*(a:Rat)) 15;have ec:=Cn_tl (jE*(a:Rat)) 15;rw [show 2*15+1=31 from rfl] at es;rw [show 2*15=30 from rfl] at ec;rw [es] at s;rw [ec] at c;exact ⟨s,c⟩
theorem v_bd (a:Nat) (ha:a≤2700000):(-(1/1000)≤sV a∧sV a≤4/5)∧3/5≤cV a∧cV a≤1001/1000:=by
 have m:=ED a ha;have y:=vy_bd a ha;have n:=v_near a ha;have t1:=OU 1 _ ⟨y.1,by grind⟩ 15 0;have t0:=OU 0 _ ⟨y.1,by grind⟩ 15 0;have t2:=OU 0 _ ⟨y.1,by grind⟩ 14 (0+1);have e0:tl 0 (jE*(a:Rat)*(jE*(a:Rat))) 0 15=1-1/(((2*0+1+0)*(2*0+2+0):Nat):Rat)*(jE*(a:Rat)*(jE*(a:Rat))*tl 0 (jE*(a:Rat)*(jE*(a:Rat))) (0+1) 14):=rfl;have c2:(((2*0+1+0)*(2*0+2+0):Nat):Rat)=2:=rfl;rw [c2] at e0;generalize jE*(a:Rat)*(jE*(a:Rat))=Y at*;generalize jE*(a:Rat)=x at*;generalize tl 0 Y (0+1) 14=u at*;have p1:=mulB (u:=Y) (v:=u) (a:=62/100) (b:=1) ⟨by grind,y.2⟩ ⟨by grind,t2.2⟩;have p2:=mulB (u:=x) (v:=tl 1 Y 0 15) (a:=7854/10000) (b:=1) ⟨by grind,m.2⟩ ⟨by grind,t1.2⟩;have p3:=aaQ m.1 t1.1;generalize x*tl 1 Y 0 15=q at*;generalize Y*u=r at*;rw [e0] at n t0;unfold bZ at n;refine ⟨⟨?_,?_⟩,?_,?_⟩<;>grind
theorem v_ones:(NT.Nr ((NT.s1:Rat)/NT.dW) (sV 1) (2/NT.dW)∧NT.Nr ((NT.c1:Rat)/NT.dW) (cV 1) (2/NT.dW))∧NT.Nr ((NT.S1:Rat)/NT.dW) (sV 5400) (2/NT.dW)∧NT.Nr ((NT.C1:Rat)/NT.dW) (cV 5400) (2/NT.dW):=by
 unfold NT.Nr;decide+kernel
theorem v_zero:sV 0=0∧cV 0=1:=by decide+kernel
theorem v_tr:NT.Tr sV cV where
 add:=fun a b h=>by
  have m:=ED a (by omega);have n:=ED b (by omega);have ad:=addition 100 (x:=jE*(a:Rat)) (y:=jE*(b:Rat)) (X:=4/5) (by grind) (by grind) (by grind) (by grind);have e:jE*(a:Rat)+jE*(b:Rat)=jE*((a+b:Nat):Rat):=by rw [ahZ];grind
  rw [e] at ad;have r:=rest_8;unfold NT.Nr sV cV;constructor<;>constructor<;>grind
 bdS:=fun a ha=>(v_bd a ha).1
 bdC:=fun a ha=>(v_bd a ha).2
 zero:=v_zero
 one:=v_ones.1
 blk:=v_ones.2
end TA
namespace NT
theorem all_runs {S C:Nat→Rat} (T:Tr S C):∀b,b<500→∀i,i<5400→(b≠0∨i≠0)→Ends (uL b i) (vL b i):=fun b hb i hi hx=>by
 have fit:=lane_fit' T;rcases adZ b 8 with q | q
 ·exact aQ fit (by omega) run_0 b (by omega) (by omega) i hi hx
 rcases adZ b 16 with q | q
 ·exact aQ fit (by omega) run_8 b (by omega) (by omega) i hi hx
 rcases adZ b 24 with q | q
 ·exact aQ fit (by omega) run_16 b (by omega) (by omega) i hi hx
 rcases adZ b 32 with q | q
 ·exact aQ fit (by omega) run_24 b (by omega) (by omega) i hi hx
 rcases adZ b 40 with q | q
 ·exact aQ fit (by omega) run_32 b (by omega) (by omega) i hi hx
 rcases adZ b 48 with q | q
 ·exact aQ fit (by omega) run_40 b (by omega) (by omega) i hi hx
 rcases adZ b 56 with q | q
 ·exact aQ fit (by omega) run_48 b (by omega) (by omega) i hi hx
 rcases adZ b 64 with q | q
 ·exact aQ fit (by omega) run_56 b (by omega) (by omega) i hi hx
 rcases adZ b 72 with q | q
 ·exact aQ fit (by omega) run_64 b (by omega) (by omega) i hi hx
 rcases adZ b 80 with q | q
 ·exact aQ fit (by omega) run_72 b (by omega) (by omega) i hi hx
 rcases adZ b 88 with q | q
 ·exact aQ fit (by omega) run_80 b (by omega) (by omega) i hi hx
 rcases adZ b 96 with q | q
 ·exact aQ fit (by omega) run_88 b (by omega) (by omega) i hi hx
 rcases adZ b 104 with q | q
 ·exact aQ fit (by omega) run_96 b (by omega) (by omega) i hi hx
 rcases adZ b 112 with q | q
 ·exact aQ fit (by omega) run_104 b (by omega) (by omega) i hi hx
 rcases adZ b 120 with q | q
 ·exact aQ fit (by omega) run_112 b (by omega) (by omega) i hi hx
 rcases adZ b 128 with q | q
 ·exact aQ fit (by omega) run_120 b (by omega) (by omega) i hi hx
 rcases adZ b 136 with q | q
 ·exact aQ fit (by omega) run_128 b (by omega) (by omega) i hi hx
 rcases adZ b 144 with q | q
 ·exact aQ fit (by omega) run_136 b (by omega) (by omega) i hi hx
 rcases adZ b 152 with q | q
 ·exact aQ fit (by omega) run_144 b (by omega) (by omega) i hi hx
 rcases adZ b 160 with q | q
 ·exact aQ fit (by omega) run_152 b (by omega) (by omega) i hi hx
 rcases adZ b 168 with q | q
 ·exact aQ fit (by omega) run_160 b (by omega) (by omega) i hi hx
 rcases adZ b 176 with q | q
 ·exact aQ fit (by omega) run_168 b (by omega) (by omega) i hi hx
 rcases adZ b 184 with q | q
 ·exact aQ fit (by omega) run_176 b (by omega) (by omega) i hi hx
 rcases adZ b 192 with q | q
 ·exact aQ fit (by omega) run_184 b (by omega) (by omega) i hi hx
 rcases adZ b 200 with q | q
 ·exact aQ fit (by omega) run_192 b (by omega) (by omega) i hi hx
 rcases adZ b 208 with q | q
 ·exact aQ fit (by omega) run_200 b (by omega) (by omega) i hi hx
 rcases adZ b 216 with q | q
 ·exact aQ fit (by omega) run_208 b (by omega) (by omega) i hi hx
 rcases adZ b 224 with q | q
 ·exact aQ fit (by omega) run_216 b (by omega) (by omega) i hi hx
 rcases adZ b 232 with q | q
 ·exact aQ fit (by omega) run_224 b (by omega) (by omega) i hi hx
 rcases adZ b 240 with q | q
 ·exact aQ fit (by omega) run_232 b (by omega) (by omega) i hi hx
 rcases adZ b 248 with q | q
 ·exact aQ fit (by omega) run_240 b (by omega) (by omega) i hi hx
 rcases adZ b 256 with q | q
 ·exact aQ fit (by omega) run_248 b (by omega) (by omega) i hi hx
 rcases adZ b 264 with q | q
 ·exact aQ fit (by omega) run_256 b (by omega) (by omega) i hi hx
 rcases adZ b 272 with q | q
 ·exact aQ fit (by omega) run_264 b (by omega) (by omega) i hi hx
 rcases adZ b 280 with q | q
 ·exact aQ fit (by omega) run_272 b (by omega) (by omega) i hi hx
 rcases adZ b 288 with q | q
 ·exact aQ fit (by omega) run_280 b (by omega) (by omega) i hi hx
 rcases adZ b 296 with q | q
 ·exact aQ fit (by omega) run_288 b (by omega) (by omega) i hi hx
 rcases adZ b 304 with q | q
 ·exact aQ fit (by omega) run_296 b (by omega) (by omega) i hi hx
 rcases adZ b 312 with q | q
 ·exact aQ fit (by omega) run_304 b (by omega) (by omega) i hi hx
 rcases adZ b 320 with q | q
 ·exact aQ fit (by omega) run_312 b (by omega) (by omega) i hi hx
 rcases adZ b 328 with q | q
 ·exact aQ fit (by omega) run_320 b (by omega) (by omega) i hi hx
 rcases adZ b 336 with q | q
 ·exact aQ fit (by omega) run_328 b (by omega) (by omega) i hi hx
 rcases adZ b 344 with q | q
 ·exact aQ fit (by omega) run_336 b (by omega) (by omega) i hi hx
 rcases adZ b 352 with q | q
 ·exact aQ fit (by omega) run_344 b (by omega) (by omega) i hi hx
 rcases adZ b 360 with q | q
 ·exact aQ fit (by omega) run_352 b (by omega) (by omega) i hi hx
 rcases adZ b 368 with q | q
 ·exact aQ fit (by omega) run_360 b (by omega) (by omega) i hi hx
 rcases adZ b 376 with q | q
 ·exact aQ fit (by omega) run_368 b (by omega) (by omega) i hi hx
 rcases adZ b 384 with q | q
 ·exact aQ fit (by omega) run_376 b (by omega) (by omega) i hi hx
 rcases adZ b 392 with q | q
 ·exact aQ fit (by omega) run_384 b (by omega) (by omega) i hi hx
 rcases adZ b 400 with q | q
 ·exact aQ fit (by omega) run_392 b (by omega) (by omega) i hi hx
 rcases adZ b 408 with q | q
 ·exact aQ fit (by omega) run_400 b (by omega) (by omega) i hi hx
 rcases adZ b 416 with q | q
 ·exact aQ fit (by omega) run_408 b (by omega) (by omega) i hi hx
 rcases adZ b 424 with q | q
 ·exact aQ fit (by omega) run_416 b (by omega) (by omega) i hi hx
 rcases adZ b 432 with q | q
 ·exact aQ fit (by omega) run_424 b (by omega) (by omega) i hi hx
 rcases adZ b 440 with q | q
 ·exact aQ fit (by omega) run_432 b (by omega) (by omega) i hi hx
 rcases adZ b 448 with q | q
 ·exact aQ fit (by omega) run_440 b (by omega) (by omega) i hi hx
 rcases adZ b 456 with q | q
 ·exact aQ fit (by omega) run_448 b (by omega) (by omega) i hi hx
 rcases adZ b 464 with q | q
 ·exact aQ fit (by omega) run_456 b (by omega) (by omega) i hi hx
 rcases adZ b 472 with q | q
 ·exact aQ fit (by omega) run_464 b (by omega) (by omega) i hi hx
 rcases adZ b 480 with q | q
 ·exact aQ fit (by omega) run_472 b (by omega) (by omega) i hi hx
 rcases adZ b 488 with q | q
 ·exact aQ fit (by omega) run_480 b (by omega) (by omega) i hi hx
 rcases adZ b 496 with q | q
 ·exact aQ fit (by omega) run_488 b (by omega) (by omega) i hi hx
 exact aQ fit (by omega) run_496 b (by omega) (by omega) i hi hx
end NT
namespace TA
open SM
theorem nt {k x y:Nat} (h0:0<k) (hk:k<2700000) (hx:x≤2^31) (hy:y≤2^31) (hxy:0<x+y):1/2^57≤(x:Rat)*sV k-(y:Rat)*cV k∨(x:Rat)*sV k-(y:Rat)*cV k≤-(1/2^57):=
 NT.no_ties v_tr (NT.all_runs v_tr) h0 hk hx hy hxy
def sK (k:Nat):Rat:=if k≤2700000 then sV k else cV (5400000-k)
def cK (k:Nat):Rat:=if k≤2700000 then cV k else sV (5400000-k)
theorem ntK {k x y:Nat} (h0:0<k) (h1:k≠2700000) (hk:k<5400000) (hx:x≤2^31) (hy:y≤2^31) (hxy:0<x+y):1/2^57≤(x:Rat)*sK k-(y:Rat)*cK k∨(x:Rat)*sK k-(y:Rat)*cK k≤-(1/2^57):=by
 unfold sK cK;by_cases h:k≤2700000
 ·rw [if_pos h,if_pos h];exact nt h0 (by omega) hx hy hxy
 ·rw [if_neg h,if_neg h];have:=nt (k:=5400000-k) (x:=y) (y:=x) (by omega) (by omega) hy hx (by omega);generalize (y:Rat)*sV (5400000-k)=a at*;generalize (x:Rat)*cV (5400000-k)=b at*;rcases this with q | q
  ·right;grind
  ·left;grind
end TA
end
section
open SM
def UU:Nat:=6277101735386680763835789423207666416102355444464034512896
def UR:Rat:=6277101735386680763835789423207666416102355444464034512896
def epU:Rat:=1/6277101735386680763835789423207666416102355444464034512896
def kN:Rat:=1/1208925819614629174706176
def vS (Q:Nat):Nat→Nat→Nat→Int
 | 0,T,_=>T
 | f+1,T,n=>if T=0 then 0 else T-vS Q f (jN T Q n) (n+2)
theorem vS_bd {Q:Nat} (hQ:Q≤UU):∀f T n,0≤vS Q f T n∧vS Q f T n≤T
 | 0,T,n=>by unfold vS;omega
 | f+1,T,n=>by
  unfold vS;split
  ·omega
  ·have:=vS_bd hQ f (jN T Q n) (n+2);have:=GB T Q n hQ;omega
theorem rD {Q:Nat} (hQ:Q≤UU):∀(f:Nat) (m:Bool) (S T n:Nat),(m=true→T≤S)→S+T<115792089237316195423570985008687907853269984665640564039457584007913129639936→
  (wC f m S T Q n:Int)=if m then (S:Int)-(T-vS Q f T n) else (S:Int)+(T-vS Q f T n)
 | 0,m,S,T,n,_,_=>by unfold wC vS;split<;>omega
 | f+1,m,S,T,n,h1,h2=>by
  unfold wC vS;by_cases hT:T=0
  ·rw [if_pos hT,if_pos hT];subst hT;split<;>simp
  ·rw [if_neg hT,if_neg hT];have hl:=GB T Q n hQ;cases m
   ·have hs:AR false S (jN T Q n)=S+jN T Q n:=by
     unfold AR;rw [if_neg (by simp)];exact aqQ (by omega)
    rw [hs,rD hQ f (!false) _ _ _ (fun _=>by omega) (by omega)];simp only [Bool.not_false,reduceIte,Bool.false_eq_true];omega
   ·have hS:=h1 rfl;have hs:AR true S (jN T Q n)=S-jN T Q n:=by
     unfold AR;rw [if_pos rfl];rw [show S+115792089237316195423570985008687907853269984665640564039457584007913129639936-jN T Q n=(S-jN T Q n)+115792089237316195423570985008687907853269984665640564039457584007913129639936 by omega,Nat.add_mod_right];exact aqQ (by omega)
    rw [hs,rD hQ f (!true) _ _ _ (fun h=>by cases h) (by omega)];simp only [Bool.not_true,reduceIte,Bool.false_eq_true];omega
theorem st_err {t q τ Y h u D i e:Rat} (he:0≤e∧e≤kN/8) (hi:i*D=1) (hi0:0≤i) (hi1:i≤1/2) (hτ:0≤τ∧τ≤1) (hq:0≤q∧q≤7/10)
  (e1:bZ (t-τ) kN) (e2:bZ (q-Y) (kN/8)) (h1:h≤t*q) (h2:t*q≤h+e) (h3:u*D≤h) (h4:h≤u*D+D*e):bZ (u-i*(Y*τ)) kN:=by
 have w1:=e1.mul (show bZ q (7/10) from ⟨by grind,hq.2⟩);have w2:=(show bZ τ 1 from ⟨by grind,hτ.2⟩).mul e2;have eT:t*q-Y*τ=(t-τ)*q+τ*(q-Y):=by grind
 have w3:bZ (t*q-Y*τ) (7/10*kN+kN/8):=by rw [eT];unfold bZ at*;constructor<;>grind
 have m1:=adQ h3 hi0;have m2:=adQ h4 hi0;have m3:=adQ h1 hi0;have m4:=adQ h2 hi0;have a1:i*(u*D)=u:=by rw [show i*(u*D)=(i*D)*u by grind,hi];grind
 have a2:i*(u*D+D*e)=u+e:=by rw [show i*(u*D+D*e)=(i*D)*(u+e) by grind,hi];grind
 have w4:=(show bZ i (1/2) from ⟨by grind,hi1⟩).mul w3;have a3:i*(t*q-Y*τ)=i*(t*q)-i*(Y*τ):=by grind
 have m5:i*(h+e)≤i*h+e:=by
  have:=acJ (show i≤1 by grind) he.1;grind
 rw [a1] at m1;rw [a2] at m2;rw [a3] at w4;generalize i*(t*q)=A at*;generalize i*(Y*τ)=B at*;generalize i*h=C at*;unfold bZ kN at*;constructor<;>grind
theorem RA:epU*UR=1:=by unfold epU UR;grind
theorem FL:0≤epU∧epU≤kN/8:=by unfold epU kN;constructor<;>grind
theorem serT_err {T Q k o:Nat} (hT:T≤UU) (hQ:Q≤UU) {τ Y:Rat} (hτ:0≤τ∧τ≤1) (hq7:(Q:Rat)*epU≤7/10) (e1:bZ ((T:Rat)*epU-τ) kN) (e2:bZ ((Q:Rat)*epU-Y) (kN/8)):
  bZ ((jN T Q (2*k+o):Rat)*epU-1/(((2*k+1+o)*(2*k+2+o):Nat):Rat)*(Y*τ)) kN:=by
 have hle:T*Q/UU≤T:=by
  have:T*Q≤T*UU:=akQ _ hQ;exact Nat.div_le_of_le_mul (by rw [aoQ _ T];exact this)
 have hu:jN T Q (2*k+o)=T*Q/UU/((2*k+1+o)*(2*k+2+o)):=by
  unfold jN;rw [show T*Q/6277101735386680763835789423207666416102355444464034512896=T*Q/UU from rfl,aqQ (by unfold UU at*;omega),show 2*k+o+1=2*k+1+o by omega,show 2*k+o+2=2*k+2+o by omega]
 have hd:=dk_ge o k;rw [hu];generalize (2*k+1+o)*(2*k+2+o)=D at*;have i1:=jL hd;have i0:=dQ (D:Rat) (by exact_mod_cast afX _);have hD:(2:Rat)≤(D:Rat):=by exact_mod_cast hd
 have hiD:1/(D:Rat)*(D:Rat)=1:=by grind
 have b1:=nS (T*Q) UU (by decide);have b2:=nS (T*Q/UU) D (by omega);generalize T*Q/UU/D=U at*;generalize T*Q/UU=H at*;rw [afJ,show ((UU:Nat):Rat)=UR from rfl] at b1;have hU:=RA;obtain ⟨p0,p1⟩:=FL;have q0:(0:Rat)≤(Q:Rat)*epU:=aaQ (by exact_mod_cast afX _) p0;have c1:=acJ b1.1 p0;have c2:=acJ b1.2 p0;have c1':=acJ c1 p0;have c2':=acJ c2 p0;have c3:=acJ b2.1 p0;have c4:=acJ b2.2 p0;have r1:UR*(H:Rat)*epU*epU=(H:Rat)*epU:=by rw [show UR*(H:Rat)*epU*epU=(epU*UR)*((H:Rat)*epU) by grind,hU];grind
 have r2:(T:Rat)*(Q:Rat)*epU*epU=(T:Rat)*epU*((Q:Rat)*epU):=by grind
 have r3:(UR*(H:Rat)+UR)*epU*epU=(H:Rat)*epU+epU:=by rw [show (UR*(H:Rat)+UR)*epU*epU=(epU*UR)*((H:Rat)*epU+epU) by grind,hU];grind
 rw [r1,r2] at c1';rw [r2,r3] at c2';refine st_err ⟨p0,p1⟩ hiD i0 i1 hτ ⟨q0,hq7⟩ e1 e2 c1' c2' (by grind) (by grind)
theorem vS_err {o:Nat} (ho:o≤1) {Q:Nat} (hQ:Q≤UU) {Y:Rat} (hY:0≤Y∧Y≤7/10) (hq7:(Q:Rat)*epU≤7/10) (e2:bZ ((Q:Rat)*epU-Y) (kN/8)):
  ∀(p k f:Nat) (T:Nat) (τ:Rat),k+p=10→p≤f→T≤UU→0≤τ→τ≤1→τ≤rG o k→bZ ((T:Rat)*epU-τ) kN→
   bZ ((vS Q f T (2*k+o):Rat)*epU-τ*tl o Y k p) (((p:Rat)+2)*kN+1/4611686018427387904)
 | 0,k,f,T,τ,hk,_,hT,h0,h1,hb,e1=>by
  obtain rfl:k=10:=by omega
  have hv:=vS_bd hQ f T (2*10+o);have v0:(0:Rat)≤(vS Q f T (2*10+o):Rat):=by exact_mod_cast hv.1
  have v1:(vS Q f T (2*10+o):Rat)≤(T:Rat):=by
   have:=ahQ.2 hv.2;rw [alZ] at this;exact this
  obtain ⟨p0,p1⟩:=FL;have m0:=aaQ v0 p0;have m1:=acJ v1 p0;have hz:4611686018427387904*τ≤1:=by
   have:=adQ hb (show (0:Rat)≤4611686018427387904 by grind);rcases (show o=0∨o=1 by omega) with rfl | rfl
   ·have t0:=taub0;grind
   ·have t0:=taub1;grind
  have e:tl o Y 10 0=1:=rfl;have c0:((0:Nat):Rat)=0:=rfl;rw [e,c0,Rat.mul_one];generalize (vS Q f T (2*10+o):Rat)*epU=V at*;generalize (T:Rat)*epU=t at*;unfold bZ kN at*;constructor<;>grind
 | p+1,k,f,T,τ,hk,hf,hT,h0,h1,hb,e1=>by
  obtain ⟨f,rfl⟩:∃g,f=g+1:=⟨f-1,by omega⟩;have cp:((p+1:Nat):Rat)=(p:Rat)+1:=by rw [ahZ];rfl
  have pn:(0:Rat)≤(p:Rat):=by exact_mod_cast afX p
  have hep:(0:Rat)≤kN:=by unfold kN;grind
  have hpe:=aaQ pn hep;rw [cp];unfold vS;by_cases hT0:T=0
  ·rw [if_pos hT0];subst hT0;have hb2:=OU o Y ⟨hY.1,by grind⟩ (p+1) k;have m0:=aaQ h0 hb2.1;have m1:τ*tl o Y k (p+1)≤τ:=by
    have:=adQ hb2.2 h0;grind
   have c0:((0:Nat):Rat)=0:=rfl;have c1:((0:Int):Rat)=0:=rfl;rw [c0] at e1;rw [c1];generalize τ*tl o Y k (p+1)=R at*;unfold bZ at*;constructor<;>grind
  ·rw [if_neg hT0];have hs:=serT_err (k:=k) (o:=o) hT hQ ⟨h0,h1⟩ hq7 e1 e2;have hl:=GB T Q (2*k+o) hQ;have b1:=aA1 (o:=o) (k:=k) hY h0 hb;have hd:=dk_ge o k;have i1:=jL hd;have i0:=dQ (((2*k+1+o)*(2*k+2+o):Nat):Rat) (by exact_mod_cast afX _);have yt0:=aaQ hY.1 h0;have yt1:Y*τ≤1:=by
    have:=adQ h1 hY.1;grind
   have u0:=aaQ i0 yt0;have u1:=adQ yt1 i0;have ih:=vS_err ho hQ hY hq7 e2 p (k+1) f (jN T Q (2*k+o)) _ (by omega) (by omega) (by omega) u0 (by grind) b1 hs;rw [show 2*(k+1)+o=2*k+o+2 by omega] at ih;rw [abZ,alZ];have tle:τ*tl o Y k (p+1)=τ-1/(((2*k+1+o)*(2*k+2+o):Nat):Rat)*(Y*τ)*tl o Y (k+1) p:=by
    rw [tl];generalize 1/(((2*k+1+o)*(2*k+2+o):Nat):Rat)=i;grind
   rw [tle];generalize (vS Q f (jN T Q (2*k+o)) (2*k+o+2):Rat)=V' at*;generalize 1/(((2*k+1+o)*(2*k+2+o):Nat):Rat)*(Y*τ)*tl o Y (k+1) p=R at*;have hdist:((T:Rat)-V')*epU=(T:Rat)*epU-V'*epU:=by grind
   rw [hdist];generalize V'*epU=A at*;generalize (T:Rat)*epU=B at*;unfold bZ at*;constructor<;>grind
end
section
open SM
theorem UP (k:Nat) (hk:k≤2700000):bZ ((dP k:Rat)*epU-xR k) (kN/64):=by
 have h1:dP k*10800000≤19720096697726538562396133364228268891463450865190089732560*k:=by unfold dP;omega
 have h2:19720096697726538562396133364228268891463450865190089732560*k≤dP k*10800000+10800000:=by unfold dP;omega
 generalize dP k=A at*;have r1:=acZ.2 h1;have r2:=acZ.2 h2;rw [afJ,afJ] at r1;rw [ahZ,afJ,afJ] at r2;have c1:((10800000:Nat):Rat)=10800000:=rfl;have c2:((19720096697726538562396133364228268891463450865190089732560:Nat):Rat)=19720096697726538562396133364228268891463450865190089732560:=rfl;rw [c1,c2] at r1 r2;have n0:(0:Rat)≤(k:Rat):=by exact_mod_cast afX _
 have n1:(k:Rat)≤((2700000:Nat):Rat):=acZ.2 hk;have c3:((2700000:Nat):Rat)=2700000:=rfl;rw [c3] at n1;unfold bZ xR th SQ kN epU;generalize (k:Rat)=K at*;generalize (A:Rat)=a at*;clear h1 h2 c1 c2 c3;constructor<;>grind
theorem sqN_err (k:Nat) (hk:k≤2700000):bZ ((pJ k:Rat)*epU-xR k*xR k) (kN/8)∧(pJ k:Rat)*epU≤7/10∧pJ k≤UU:=by
 have ha:=UP k hk;have hb:=tL k (by omega);have hl:=pO k hk;have b:=nS (dP k*dP k) UU (by decide);have hs:=sqN_lt k hk;change pJ k<UU at hs;change dP k<UU at hl;rw [afJ,show ((UU:Nat):Rat)=UR from rfl] at b;have hq:pJ k=dP k*dP k/UU:=rfl;rw [←hq] at b;obtain ⟨p0,p1⟩:=FL;have hU:=RA;have c1:=acJ (acJ b.1 p0) p0;have c2:=acJ (acJ b.2 p0) p0;have r1:UR*(pJ k:Rat)*epU*epU=(pJ k:Rat)*epU:=by rw [show UR*(pJ k:Rat)*epU*epU=(epU*UR)*((pJ k:Rat)*epU) by grind,hU];grind
 have r2:(dP k:Rat)*(dP k:Rat)*epU*epU=(dP k:Rat)*epU*((dP k:Rat)*epU):=by grind
 have r3:(UR*(pJ k:Rat)+UR)*epU*epU=(pJ k:Rat)*epU+epU:=by rw [show (UR*(pJ k:Rat)+UR)*epU*epU=(epU*UR)*((pJ k:Rat)*epU+epU) by grind,hU];grind
 rw [r1,r2] at c1;rw [r2,r3] at c2;have a0:0≤(dP k:Rat)*epU:=aaQ (by exact_mod_cast afX _) p0;have hx7:xR k*xR k≤6200/10000:=by
  have x79:xR k≤787/1000:=by
   have n1:(k:Rat)≤((2700000:Nat):Rat):=acZ.2 hk;have c3:((2700000:Nat):Rat)=2700000:=rfl;rw [c3] at n1;unfold xR th SQ;grind
  have:=adQ x79 hb.1;grind
 have w:=ha.mul (show bZ ((dP k:Rat)*epU+xR k) 2 from by unfold bZ kN at*;constructor<;>grind);have e:((dP k:Rat)*epU-xR k)*((dP k:Rat)*epU+xR k)=(dP k:Rat)*epU*((dP k:Rat)*epU)-xR k*xR k:=by grind
 rw [e] at w;generalize (dP k:Rat)*epU*((dP k:Rat)*epU)=A at*;generalize xR k*xR k=Y at*;generalize (pJ k:Rat)*epU=q at*;have p2:epU≤kN/16:=by unfold epU kN;grind
 unfold bZ at*;refine ⟨⟨by unfold kN at*;grind,by unfold kN at*;grind⟩,by unfold kN at*;grind,by omega⟩
theorem IC (k:Nat) (hk:k≤2700000):bZ ((tV k:Rat)*epU-tS k) (1/1152921504606846976)∧bZ ((tR k:Rat)*epU-tC k) (1/1152921504606846976):=by
 obtain ⟨q1,q2,q3⟩:=sqN_err k hk;have ha:=UP k hk;have hb:=tL k (by omega);have hY:=ZU k (by omega);have hl:=pO k hk;have t1:=hR_tl 1 (xR k*xR k) 10 0;have t0:=hR_tl 0 (xR k*xR k) 10 0;rw [show tl 1 (xR k*xR k) 10 0=1 from rfl,show (1:Rat)-1=0 by grind] at t1;rw [show tl 0 (xR k*xR k) 10 0=1 from rfl,show (1:Rat)-1=0 by grind] at t0;rw [show 10+0=10 from rfl] at t0 t1;have c10:((10:Nat):Rat)=10:=rfl;have hE:(0:Rat)≤kN:=by unfold kN;grind
 constructor
 ·have hv:=rD q3 300 true (dP k) (dP k) 1 (fun _=>aaJ _) (by omega);have h:=vS_err (o:=1) (by omega) q3 hY q2 q1 10 0 300 (dP k) (xR k) (by omega) (by omega) (by unfold UU;omega) hb.1 (by grind) (by unfold rG;grind) (ha.mono (by grind));have e1:((tV k:Nat):Rat)=(vS (pJ k) 300 (dP k) (2*0+1):Rat):=by
   rw [←alZ];have:((tV k:Nat):Int)=vS (pJ k) 300 (dP k) (2*0+1):=by
    unfold tV;rw [hv,if_pos rfl,show 2*0+1=1 from rfl];omega
   rw [this]
  rw [e1];rw [←t1,c10] at h;have e2:tS k=xR k*(1-hR 1 (xR k*xR k) 10 0):=by unfold tS;rfl
  rw [e2];exact h.mono (by unfold kN;grind)
 ·have hv:=rD q3 300 true UU UU 0 (fun _=>aaJ _) (by unfold UU;omega);have hone:bZ ((UU:Rat)*epU-1) kN:=by
   have:((UU:Nat):Rat)=UR:=rfl;have hU:=RA;rw [this];unfold bZ;constructor<;>grind
  have h:=vS_err (o:=0) (by omega) q3 hY q2 q1 10 0 300 UU 1 (by omega) (by omega) (aaJ _) (by grind) (by grind) (by unfold rG;grind) hone;have e1:((tR k:Nat):Rat)=(vS (pJ k) 300 UU (2*0+0):Rat):=by
   rw [←alZ];have:((tR k:Nat):Int)=vS (pJ k) 300 UU (2*0+0):=by
    have hc:tR k=wC 300 true UU UU (pJ k) 0:=rfl;rw [hc,hv,if_pos rfl,show 2*0+0=0 from rfl];omega
   rw [this]
  rw [e1];rw [←t0,c10] at h;have e2:tC k=1*(1-hR 0 (xR k*xR k) 10 0):=by unfold tC;grind
  rw [e2];exact h.mono (by unfold kN;grind)
end
section
open SM
def epN:Rat:=1/576460752303423488
theorem mid_eq:bZ (tS 2700000-tC 2700000) (1/1152921504606846976):=by
 have a:=CY 2700000 (by omega);have b:=MN 2700000 (by omega);have e1:aS 2700000≤aC 2700000+50000000:=by decide+kernel
 have e2:aC 2700000≤aS 2700000+50000000:=by decide+kernel
 have g1:((aS 2700000:Nat):Rat)≤((aC 2700000+50000000:Nat):Rat):=acZ.2 e1;have g2:((aC 2700000:Nat):Rat)≤((aS 2700000+50000000:Nat):Rat):=acZ.2 e2;rw [ahZ] at g1 g2;have c:((50000000:Nat):Rat)=50000000:=rfl;rw [c] at g1 g2;unfold bZ iH at*;constructor<;>grind
theorem wF (k:Nat) (hk:k≤5400000):bZ ((jD k:Rat)*epU-T k) epN∧bZ ((iV k:Rat)*epU-T (5400000-k)) epN:=by
 have hm:=mid_eq;unfold jD iV T;rcases Nat.lt_trichotomy k 2700000 with h | h | h
 ·rw [if_pos (by omega),if_pos (by omega),if_pos (by omega),if_neg (by omega),show 5400000-(5400000-k)=k by omega];have:=IC k (by omega);exact ⟨this.1.mono (by unfold epN;grind),this.2.mono (by unfold epN;grind)⟩
 ·subst h;rw [if_pos (by omega),if_pos (by omega),if_pos (by omega)];have:=IC 2700000 (by omega);refine ⟨this.1.mono (by unfold epN;grind),?_⟩;have h2:=this.2;unfold bZ epN at*;constructor<;>grind
 ·rw [if_neg (by omega),if_neg (by omega),if_neg (by omega),if_pos (by omega)];have:=IC (5400000-k) (by omega);exact ⟨this.2.mono (by unfold epN;grind),this.1.mono (by unfold epN;grind)⟩
theorem T_lt {j k:Nat} (h:j<k) (hk:k≤5400000):T j+1/77371252455337≤T k:=by
 obtain ⟨d,rfl⟩:∃d,k=j+1+d:=⟨k-j-1,by omega⟩;induction d with
 | zero=>
  have:=up j (by omega);unfold iH at this;grind
 | succ d ih=>
  have:=up (j+1+d) (by omega);have:=ih (by omega) (by omega);rw [show j+1+(d+1)=j+1+d+1 by omega];unfold iH at*;grind
theorem oK {a b:Nat} (h:(a:Rat)*epU<(b:Rat)*epU):a<b:=by
 rcases adZ a b with h1 | h1
 ·exact h1
 ·exfalso;have h2:((b:Nat):Rat)≤((a:Nat):Rat):=acZ.2 h1;have:=acJ h2 FL.1;grind
theorem GC {j k:Nat} (h:j<k) (hk:k≤5400000):jD j<jD k∧iV k<iV j:=by
 obtain ⟨a1,a2⟩:=wF j (by omega);obtain ⟨b1,b2⟩:=wF k hk;have t1:=T_lt h hk;have t2:=T_lt (j:=5400000-k) (k:=5400000-j) (by omega) (by omega);constructor
 ·apply oK;unfold bZ epN at*;grind
 ·apply oK;unfold bZ epN at*;grind
theorem sin_cos {k:Nat} (h:k<2700000):jD k<iV k:=by
 obtain ⟨a1,a2⟩:=wF k (by omega);have t1:=T_lt (j:=k) (k:=5400000-k) (by omega) (by omega);apply oK;unfold bZ epN at*;grind
theorem cos_sin {k:Nat} (h:2700000<k) (hk:k≤5400000):iV k<jD k:=by
 obtain ⟨a1,a2⟩:=wF k (by omega);have t1:=T_lt (j:=5400000-k) (k:=k) (by omega) (by omega);apply oK;unfold bZ epN at*;grind
theorem UH (k:Nat) (hk:k≤5400000):0≤T k∧T k≤1:=by
 unfold T;split
 ·have a:=tS_bd k (by omega);have b:=tL k (by omega);constructor<;>grind
 ·have a:=tC_bd (5400000-k) (by omega);constructor<;>grind
theorem sinN_le (k:Nat) (hk:k≤5400000):jD k<12554203470773361527671578846415332832204710888928069025792∧iV k<12554203470773361527671578846415332832204710888928069025792:=by
 obtain ⟨a1,a2⟩:=wF k hk;have t1:=UH k hk;have t2:=UH (5400000-k) (by omega);have hU:(2:Rat)=((12554203470773361527671578846415332832204710888928069025792:Nat):Rat)*epU:=by
  have:((12554203470773361527671578846415332832204710888928069025792:Nat):Rat)=12554203470773361527671578846415332832204710888928069025792:=rfl;rw [this];unfold epU;grind
 constructor
 ·apply oK;rw [←hU];unfold bZ epN at*;grind
 ·apply oK;rw [←hU];unfold bZ epN at*;grind
theorem rB {x y k:Nat} (hx:x≤2147483648) (hy:y≤2147483648) (h0:k≠0) (h1:k≠2700000) (hk:k≤5400000):kD x y k=true↔jD k*x≤iV k*y:=by
 obtain ⟨s1,s2⟩:=sinN_le k hk;have p1:jD k*x<rJ:=by
  have:=aiX (Nat.le_of_lt s1) hx;unfold rJ;omega
 have p2:iV k*y<rJ:=by
  have:=aiX (Nat.le_of_lt s2) hy;unfold rJ;omega
 unfold kD;rw [if_neg h0,if_neg h1,aqQ p1,aqQ p2];simp
theorem CK (x y:Nat):kD x y 0=true:=by unfold kD;rw [if_pos rfl]
theorem mE (x y:Nat):kD x y 2700000=true↔x≤y:=by unfold kD;rw [if_neg (by omega),if_pos rfl];simp
theorem CJ {x y u v j k:Nat} (hx0:0<x) (hx:x≤2147483648) (hy:y≤2147483648) (hu:u≤2147483648) (hv:v≤2147483648) (hc:y*u≤x*v) (hjk:j≤k) (hk:k≤5400000) (h:kD x y k=true):kD u v j=true:=by
 by_cases j0:j=0
 ·subst j0;exact CK u v
 have key:∀s c S C:Nat,s*C≤S*c→S*x≤C*y→0<C→s*u≤c*v:=fun s c S C h1 h2 hC=>by
  have a1:s*u*(x*C)≤c*v*(x*C):=by
   have b1:=arX (u*x) h1;have b2:=arX (c*u) h2;have b3:=akQ (C*c) hc;have e1:s*u*(x*C)=s*C*(u*x):=by grind
   have e2:S*c*(u*x)=S*x*(c*u):=by grind
   have e3:C*y*(c*u)=C*c*(y*u):=by grind
   have e4:C*c*(x*v)=c*v*(x*C):=by grind
   omega
  exact Nat.le_of_mul_le_mul_right a1 (Nat.mul_pos hx0 hC)
 have hord:∀{p q:Nat},p≤q→q≤5400000→jD p≤jD q∧iV q≤iV p:=fun {p q} h1 h2=>by
  rcases amX h1 with e | e
  ·subst e;exact ⟨aaJ _,aaJ _⟩
  ·have:=GC e h2;omega
 have hCpos:∀{q:Nat},q<5400000→0<iV q:=fun {q} h1=>by
  have:=(GC (j:=q) (k:=q+1) (by omega) (by omega)).2;omega
 by_cases k2:k=2700000
 ·subst k2;have hxy:=(mE x y).1 h;by_cases j2:j=2700000
  ·subst j2;rw [mE];have:=key 1 1 1 1 (by omega) (by omega) (by omega);omega
  ·rw [rB hu hv j0 j2 (by omega)];have h1:=sin_cos (k:=j) (by omega);exact key (jD j) (iV j) 1 1 (by omega) (by omega) (by omega)
 ·have k0:k≠0:=by omega
  have hxy:=(rB hx hy k0 k2 hk).1 h;obtain ⟨o1,o2⟩:=hord hjk hk;have hkC:0<iV k:=by
   rcases amX hk with e | e
   ·
    rcases alX (iV k) with c0 | c0
    ·exfalso;rw [c0,Nat.zero_mul] at hxy;have:=(GC (j:=0) (k:=k) (by omega) hk).1;have:0<jD k*x:=Nat.mul_pos (by omega) hx0;omega
    ·exact c0
   ·exact hCpos e
  by_cases j2:j=2700000
  ·subst j2;rw [mE];have h1:=cos_sin (k:=k) (by omega) hk;have:=key 1 1 (jD k) (iV k) (by omega) hxy hkC;omega
  ·rw [rB hu hv j0 j2 (by omega)];refine key (jD j) (iV j) (jD k) (iV k) ?_ hxy hkC;exact aiX o1 o2
end
section
open SM
theorem TW (f:Nat→Bool):∀(n low high:Nat),low<high→high-low≤2^n→f low=true→low≤rF f n low high∧rF f n low high<high∧f (rF f n low high)=true∧(rF f n low high+1=high∨f (rF f n low high+1)=false)
 | 0,low,high,h,hn,hf=>by
  have:high=low+1:=by simp at hn;omega
  subst this;exact ⟨aaJ _,by unfold rF;omega,hf,.inl rfl⟩
 | n+1,low,high,h,hn,hf=>by
  have hp:2^(n+1)=2^n*2:=Nat.pow_succ 2 n;rw [hp] at hn;unfold rF;by_cases c:high-low≤1
  ·rw [if_pos c];exact ⟨aaJ _,h,hf,.inl (by omega)⟩
  ·rw [if_neg c];cases hm:f ((low+high)/2)
   ·rw [if_neg (by simp)];obtain ⟨a,b,d,e⟩:=TW f n low ((low+high)/2) (by omega) (by omega) hf;refine ⟨a,by omega,d,?_⟩;rcases e with e | e
    ·right;rw [e];exact hm
    ·exact .inr e
   ·rw [if_pos rfl];obtain ⟨a,b,d,e⟩:=TW f n ((low+high)/2) high (by omega) (by omega) hm;exact ⟨by omega,b,d,e⟩
def F (x y:Nat):Nat:=rF (kD x y) 23 0 5400000
def UD (x y:Nat):Bool:=(F x y==0&&y==0)||(F x y==2700000&&x==y)
def C (x y:Nat):Nat:=F x y+if UD x y then 0 else 1
theorem mP (x y:Nat):F x y<5400000∧kD x y (F x y)=true∧(F x y+1=5400000∨kD x y (F x y+1)=false):=by
 have:=TW (kD x y) 23 0 5400000 (by omega) (by decide) (CK x y);exact this.2
theorem F_ge {x y k:Nat} (hx0:0<x) (hx:x≤2147483648) (hy:y≤2147483648) (hk:k<5400000) (h:kD x y k=true):k≤F x y:=by
 obtain ⟨a,b,c⟩:=mP x y;rcases adZ (F x y) k with h1 | h1
 ·exfalso;have:=CJ (j:=F x y+1) hx0 hx hy hx hy (by rw [aoQ];exact aaJ _) (by omega) (by omega) h;rcases c with c | c
  ·omega
  ·rw [c] at this;cases this
 ·exact h1
theorem F_mono {x y u v:Nat} (hx0:0<x) (hx:x≤2147483648) (hy:y≤2147483648) (hu0:0<u) (hu:u≤2147483648) (hv:v≤2147483648) (hc:y*u≤x*v):F x y≤F u v:=by
 obtain ⟨a,b,c⟩:=mP x y;exact F_ge hu0 hu hv a (CJ hx0 hx hy hu hv hc (aaJ _) (by omega) b)
theorem C_mono {x y u v:Nat} (hx0:0<x) (hx:x≤2147483648) (hy:y≤2147483648) (hu0:0<u) (hu:u≤2147483648) (hv:v≤2147483648) (hc:y*u≤x*v):C x y≤C u v:=by
 have hF:=F_mono hx0 hx hy hu0 hu hv hc;unfold C;cases hex:UD u v
 ·simp only [Bool.false_eq_true,reduceIte];split<;>omega
 ·simp only [reduceIte];rcases amX hF with e | e
  ·have:UD x y=true:=by
    unfold UD at hex ⊢;simp only [Bool.or_eq_true,Bool.and_eq_true,beq_iff_eq] at hex ⊢;rcases hex with ⟨h1,h2⟩ | ⟨h1,h2⟩
    ·left;rw [h2,Nat.mul_zero] at hc;have:=Nat.eq_zero_of_le_zero hc;rcases Nat.mul_eq_zero.1 this with h3 | h3
     ·exact ⟨by omega,h3⟩
     ·omega
    ·right;refine ⟨by omega,?_⟩;subst h2;have h3:y≤x:=Nat.le_of_mul_le_mul_right hc hu0;have h4:=(mP x y).2.1;rw [e,h1] at h4;have:=(mE x y).1 h4;omega
   rw [this,if_pos rfl];omega
  ·split<;>omega
theorem C_bd (x y:Nat):F x y≤C x y∧C x y≤5400000:=by
 have:=(mP x y).1;unfold C;constructor<;>(split<;>omega)
def fl (x y:Int):Int:=if 0≤y then (F x.toNat y.toNat:Int) else (F (-y).toNat x.toNat:Int)-5400000
def ex (x y:Int):Bool:=if 0≤y then UD x.toNat y.toNat else UD (-y).toNat x.toNat
def ce (x y:Int):Int:=fl x y+if ex x y then 0 else 1
def EO (x y:Int):Prop:=0<x∧x≤2147483648∧-2147483648≤y∧y≤2147483648
theorem NA (x y:Int):ce x y=if 0≤y then (C x.toNat y.toNat:Int) else (C (-y).toNat x.toNat:Int)-5400000:=by
 unfold ce fl ex C;by_cases h:0≤y
 ·rw [if_pos h,if_pos h,if_pos h];split<;>simp
 ·rw [if_neg h,if_neg h,if_neg h];split<;>omega
theorem uK (x y:Int):-5400000≤fl x y∧fl x y≤ce x y∧ce x y≤5400000∧ce x y≤fl x y+1:=by
 refine ⟨?_,?_,?_,?_⟩
 ·unfold fl;split<;>omega
 ·unfold ce;split<;>omega
 ·rw [NA];have:=C_bd x.toNat y.toNat;have:=C_bd (-y).toNat x.toNat;split<;>omega
 ·unfold ce;split<;>omega
theorem nat_mul {a b:Int} (ha:0≤a) (hb:0≤b):((a.toNat*b.toNat:Nat):Int)=a*b:=by
 rw [Int.natCast_mul,ajQ ha,ajQ hb]
theorem nat_le {a b c d:Int} (ha:0≤a) (hb:0≤b) (hc:0≤c) (hd:0≤d) (h:a*b≤c*d):a.toNat*b.toNat≤c.toNat*d.toNat:=by
 have e1:=nat_mul ha hb;have e2:=nat_mul hc hd;omega
theorem rT {x y u v:Int} (hp:EO x y) (hq:EO u v) (hc:y*u≤x*v):fl x y≤fl u v∧ce x y≤ce u v:=by
 obtain ⟨p0,p1,p2,p3⟩:=hp;obtain ⟨q0,q1,q2,q3⟩:=hq;rw [NA,NA];unfold fl;by_cases hy:0≤y
 ·have hv:0≤v:=by
   rcases Int.lt_or_le v 0 with h | h
   ·exfalso;have:=Int.mul_neg_of_pos_of_neg p0 h;have:=Int.mul_nonneg hy (aoJ q0);omega
   ·exact h
  rw [if_pos hy,if_pos hv,if_pos hy,if_pos hv];have hn:=nat_le hy (aoJ q0) (aoJ p0) hv hc;have:=F_mono (x:=x.toNat) (y:=y.toNat) (u:=u.toNat) (v:=v.toNat) (by omega) (by omega) (by omega) (by omega) (by omega) (by omega) hn;have:=C_mono (x:=x.toNat) (y:=y.toNat) (u:=u.toNat) (v:=v.toNat) (by omega) (by omega) (by omega) (by omega) (by omega) (by omega) hn;omega
 ·rw [if_neg hy,if_neg hy];by_cases hv:0≤v
  ·rw [if_pos hv,if_pos hv];have:=(mP (-y).toNat x.toNat).1;have:=C_bd (-y).toNat x.toNat;have:=C_bd u.toNat v.toNat;omega
  ·rw [if_neg hv,if_neg hv];have hc':x*(-v)≤(-y)*u:=by rw [auX,amQ];omega
   have hn:=nat_le (a:=x) (b:=-v) (c:=-y) (d:=u) (by omega) (by omega) (by omega) (by omega) hc';have:=F_mono (x:=(-y).toNat) (y:=x.toNat) (u:=(-v).toNat) (v:=u.toNat) (by omega) (by omega) (by omega) (by omega) (by omega) (by omega) hn;have:=C_mono (x:=(-y).toNat) (y:=x.toNat) (u:=(-v).toNat) (v:=u.toNat) (by omega) (by omega) (by omega) (by omega) (by omega) (by omega) hn;omega
theorem rot_rot (x y:Int):∀j,mF (-y) x (j+1)=mF x y j
 | 0=>by simp only [mF];simp
 | j+1=>by
  have ih:=rot_rot x y j;rw [mF,ih];rfl
theorem ang_rot (x y:Int) (h:¬(x=0∧y=0)):mI (-y) x=(mI x y+5400000)%21600000∧yJ (-y) x=yJ x y∧0≤mI x y∧mI x y<21600000:=by
 have key:(qr (-y) x=qr x y+1∧qr x y<3)∨(qr x y=3∧qr (-y) x=0):=by
  unfold qr
  (repeat' split)<;>omega
 have hrot:mF (-y) x (qr (-y) x)=mF x y (qr x y):=by
  rcases key with ⟨h1,h2⟩ | ⟨h1,h2⟩
  ·rw [h1,rot_rot]
  ·rw [h1,h2];simp only [mF];simp
 have hl:CB (-y) x=CB x y:=by unfold CB;rw [hrot]
 have hb:CB x y<5400000:=(mP (mF x y (qr x y)).1.toNat (mF x y (qr x y)).2.toNat).1;have hq:=qr_le x y;refine ⟨?_,?_,?_,?_⟩
 ·unfold mI;rw [hl];rcases key with ⟨h1,h2⟩ | ⟨h1,h2⟩
  ·rw [h1];omega
  ·rw [h1,h2];omega
 ·unfold yJ;rw [hl,hrot]
 ·unfold mI;omega
 ·unfold mI;omega
theorem ang_right {x y:Int} (hx:0<x):mI x y=fl x y%21600000∧yJ x y=ex x y:=by
 have hbd:=uK x y;by_cases hy:0≤y
 ·have hq:qr x y=0:=by unfold qr;rw [if_pos ⟨hx,hy⟩]
  have hf:fl x y=(F x.toNat y.toNat:Int):=by unfold fl;rw [if_pos hy]
  have hl:CB x y=F x.toNat y.toNat:=by unfold CB F;rw [hq];rfl
  have:=(mP x.toNat y.toNat).1;refine ⟨by unfold mI;rw [hq,hl,hf];omega,?_⟩;unfold yJ ex UD;rw [if_pos hy,hl,hq];simp only [mF];have e1:(y==0)=(y.toNat==0):=by rw [Bool.eq_iff_iff];simp only [beq_iff_eq];omega
  have e2:(x==y)=(x.toNat==y.toNat):=by rw [Bool.eq_iff_iff];simp only [beq_iff_eq];omega
  rw [e1,e2]
 ·have hq:qr x y=3:=by unfold qr;rw [if_neg (by omega),if_neg (by omega),if_neg (by omega)]
  have hr:mF x y 3=(-y,x):=by simp only [mF];simp
  have hf:fl x y=(F (-y).toNat x.toNat:Int)-5400000:=by unfold fl;rw [if_neg hy]
  have hl:CB x y=F (-y).toNat x.toNat:=by unfold CB F;rw [hq,hr]
  have:=(mP (-y).toNat x.toNat).1;refine ⟨by unfold mI;rw [hq,hl,hf];omega,?_⟩;unfold yJ ex UD;rw [if_neg hy,hl,hq,hr];simp only;have e1:(x==0)=(x.toNat==0):=by rw [Bool.eq_iff_iff];simp only [beq_iff_eq];omega
  have e2:(-y==x)=((-y).toNat==x.toNat):=by rw [Bool.eq_iff_iff];simp only [beq_iff_eq];omega
  rw [e1,e2]
def FO (p:Int×Int):Nat→Int×Int
 | 0=>p
 | j+1=>(-(FO p j).2,(FO p j).1)
theorem fwd_ne {p:Int×Int} (h:¬(p.1=0∧p.2=0)):∀j,¬((FO p j).1=0∧(FO p j).2=0)
 | 0=>h
 | j+1=>by have:=fwd_ne h j;simp only [FO];omega
theorem PL {x y:Int} (hx:0<x):∀j:Nat,mI (FO (x,y) j).1 (FO (x,y) j).2=(fl x y+5400000*j)%21600000∧yJ (FO (x,y) j).1 (FO (x,y) j).2=ex x y
 | 0=>by
  obtain ⟨a,b⟩:=ang_right (y:=y) hx;simp only [FO];exact ⟨by rw [a];simp,b⟩
 | j+1=>by
  obtain ⟨a,b⟩:=PL (x:=x) (y:=y) hx j;have hne:=fwd_ne (p:=(x,y)) (by simp only;omega) j;obtain ⟨c,d,_,_⟩:=ang_rot _ _ hne;simp only [FO];rw [c,d,a,b];refine ⟨?_,rfl⟩;have:((j+1:Nat):Int)=(j:Int)+1:=by omega
  rw [this];omega
theorem PS (p q:Int×Int):∀j,pQ (FO p j) (FO q j)=pQ p q
 | 0=>rfl
 | j+1=>by
  rw [←PS p q j];unfold pQ;rw [decide_eq_decide];simp only [FO];rw [auX,amQ,akZ (FO p j).1,akZ (FO p j).2];constructor<;>intro h<;>omega
theorem MU {p q r:Int×Int} (hp:0<p.1) (hq:0<q.1) (hr:0<r.1) (h1:pQ p q=true) (h2:pQ q r=true):pQ p r=true:=by
 unfold pQ at*;simp only [decide_eq_true_eq] at*;have a:=aeZ h1 (aoJ hr);have b:=agX h2 (aoJ hp);have e1:p.2*q.1*r.1=p.2*r.1*q.1:=by grind
 have e2:p.1*q.2*r.1=p.1*(q.2*r.1):=by grind
 have e3:p.1*(q.1*r.2)=p.1*r.2*q.1:=by grind
 rw [e1,e2] at a;rw [e3] at b;exact Int.le_of_mul_le_mul_right (Int.le_trans a b) hq
theorem MS (p q:Int×Int):pQ p q=true∨pQ q p=true:=by
 unfold pQ;simp only [decide_eq_true_eq];rw [akZ p.1,akZ p.2];omega
theorem fst_min {yl yh xl xh:Int} {j:Nat} (c:Nat→Int×Int) (hc:∀i,i<4→IF yl yh xl xh i=FO (c i) j) (hp:∀i,i<4→0<(c i).1):
  ∀m,m≤4→∃i,i<4∧iF yl yh xl xh m=FO (c i) j∧∀k,k<m→pQ (c i) (c k)=true
 | 0,_=>⟨0,by omega,hc 0 (by omega),fun k hk=>by omega⟩
 | m+1,hm=>by
  obtain ⟨i,hi,e,h⟩:=fst_min c hc hp m (by omega);have hcm:=hc m (by omega);unfold iF;rw [hcm,e,PS];cases hb:pQ (c m) (c i)
  ·rw [if_neg (by simp)];refine ⟨i,hi,rfl,fun k hk=>?_⟩;rcases amX (Nat.le_of_lt_succ hk) with e2 | e2
   ·subst e2;rcases MS (c i) (c k) with h2 | h2
    ·exact h2
    ·rw [hb] at h2;cases h2
   ·exact h k e2
  ·rw [if_pos rfl];refine ⟨m,by omega,rfl,fun k hk=>?_⟩;rcases amX (Nat.le_of_lt_succ hk) with e2 | e2
   ·subst e2;unfold pQ;simp only [decide_eq_true_eq];rw [akZ];exact abJ _
   ·exact MU (hp m (by omega)) (hp i hi) (hp k (by omega)) hb (h k e2)
theorem lst_max {yl yh xl xh:Int} {j:Nat} (c:Nat→Int×Int) (hc:∀i,i<4→IF yl yh xl xh i=FO (c i) j) (hp:∀i,i<4→0<(c i).1):
  ∀m,m≤4→∃i,i<4∧iG yl yh xl xh m=FO (c i) j∧∀k,k<m→pQ (c k) (c i)=true
 | 0,_=>⟨0,by omega,hc 0 (by omega),fun k hk=>by omega⟩
 | m+1,hm=>by
  obtain ⟨i,hi,e,h⟩:=lst_max c hc hp m (by omega);have hcm:=hc m (by omega);unfold iG;rw [hcm,e,PS];cases hb:pQ (c i) (c m)
  ·rw [if_neg (by simp)];refine ⟨i,hi,rfl,fun k hk=>?_⟩;rcases amX (Nat.le_of_lt_succ hk) with e2 | e2
   ·subst e2;rcases MS (c i) (c k) with h2 | h2
    ·rw [hb] at h2;cases h2
    ·exact h2
   ·exact h k e2
  ·rw [if_pos rfl];refine ⟨m,by omega,rfl,fun k hk=>?_⟩;rcases amX (Nat.le_of_lt_succ hk) with e2 | e2
   ·subst e2;unfold pQ;simp only [decide_eq_true_eq];rw [akZ];exact abJ _
   ·exact MU (hp k (by omega)) (hp i hi) (hp m (by omega)) (h k e2) hb
def lT (yl yh xl xh:Int):Nat→Int×Int×Int×Int
 | 0=>(yl,yh,xl,xh)
 | 1=>(-xh,-xl,yl,yh)
 | 2=>(-yh,-yl,-xh,-xl)
 | _=>(xl,xh,-yh,-yl)
def AG (y0 x0 x1:Int):Int:=if 0≤y0 then fl x1 y0 else fl x0 y0
def LP (y1 x0 x1:Int):Int:=if 0≤y1 then ce x0 y1 else ce x1 y1
theorem RL {yl yh xl xh:Int} (h:dI yl yh xl xh=false):∃j,j≤3∧0<(lT yl yh xl xh j).2.2.1:=by
 simp only [dI,decide_eq_false_iff_not] at h;by_cases h1:0<xl
 ·exact ⟨0,by omega,h1⟩
 by_cases h2:0<yl
 ·exact ⟨1,by omega,h2⟩
 by_cases h3:xh<0
 ·exact ⟨2,by omega,by simp only [lT];omega⟩
 ·exact ⟨3,by omega,by simp only [lT];omega⟩
theorem box_lo {y0 y1 x0 x1 x y:Int} (hx0:0<x0) (hx:x0≤x∧x≤x1) (hy:y0≤y∧y≤y1) (b0:x1≤2147483648) (b1:-2147483648≤y0) (b2:y1≤2147483648):AG y0 x0 x1≤fl x y∧ce x y≤LP y1 x0 x1:=by
 have hp:EO x y:=⟨by omega,by omega,by omega,by omega⟩;constructor
 ·unfold AG;by_cases h:0≤y0
  ·rw [if_pos h];refine (rT ⟨by omega,b0,by omega,by omega⟩ hp ?_).1;exact Int.le_trans (agX hx.2 h) (by rw [akZ y0];exact agX hy.1 (by omega))
  ·rw [if_neg h];refine (rT ⟨by omega,by omega,by omega,by omega⟩ hp ?_).1;have a:=agX hy.1 (aoJ hx0);have b:=agX hx.1 (show 0≤-y0 by omega);rw [amQ,amQ] at b;rw [akZ x0 y0] at a;omega
 ·unfold LP;by_cases h:0≤y1
  ·rw [if_pos h];refine (rT hp ⟨by omega,by omega,by omega,by omega⟩ ?_).2;have a:=aeZ hy.2 (aoJ hx0);have b:=aeZ hx.1 h;rw [akZ x0 y1] at b;omega
  ·rw [if_neg h];refine (rT hp ⟨by omega,by omega,by omega,by omega⟩ ?_).2;have a:=aeZ hy.2 (show 0≤x1 by omega);have b:=aeZ hx.2 (show 0≤-y1 by omega);rw [auX,auX] at b;rw [akZ x1 y1] at b;omega
theorem rO {y0 y1 x0 x1:Int} (hx0:0<x0) (hx:x0≤x1) (hy:y0≤y1) (b0:x1≤2147483648) (b1:-2147483648≤y0) (b2:y1≤2147483648):-5400000≤AG y0 x0 x1∧AG y0 x0 x1≤LP y1 x0 x1∧LP y1 x0 x1≤5400000:=by
 have a:=box_lo (x:=x0) (y:=y0) hx0 ⟨abJ _,hx⟩ ⟨abJ _,hy⟩ b0 b1 b2;have b:=uK x0 y0;refine ⟨?_,by omega,?_⟩
 ·unfold AG;split
  ·exact (uK x1 y0).1
  ·exact (uK x0 y0).1
 ·unfold LP;split
  ·exact (uK x0 y1).2.2.1
  ·exact (uK x1 y1).2.2.1
theorem nJ {yl yh xl xh y0 y1 x0 x1:Int} {j:Nat} (hvx:aN xl xh=true) (hvy:aN yl yh=true) (ho:dI yl yh xl xh=false) (hj:j≤3) (hr:lT yl yh xl xh j=(y0,y1,x0,x1)) (hx0:0<x0):
  aX yl yh xl xh=((AG y0 x0 x1+5400000*j)%21600000,(AG y0 x0 x1+5400000*j)%21600000+(LP y1 x0 x1-AG y0 x0 x1),0):=by
 simp only [aN,decide_eq_true_eq] at hvx hvy;obtain ⟨c,hc,hin,hmem⟩:∃c:Nat→Int×Int,(∀i,i<4→IF yl yh xl xh i=FO (c i) j)∧(∀i,i<4→((c i).1=x0∨(c i).1=x1)∧((c i).2=y0∨(c i).2=y1))∧
   (∀x y,(x=x0∨x=x1)→(y=y0∨y=y1)→∃i,i<4∧c i=(x,y)):=by
  have four:∀i,i<4→i=0∨i=1∨i=2∨i=3:=fun i hi=>by omega
  rcases (show j=0∨j=1∨j=2∨j=3 by omega) with rfl | rfl | rfl | rfl<;>simp only [lT,Prod.mk.injEq] at hr<;>obtain ⟨rfl,rfl,rfl,rfl⟩:=hr
  ·refine ⟨fun i=>IF yl yh xl xh i,fun i _=>rfl,fun i hi=>?_,fun x y hx hy=>?_⟩
   ·rcases four i hi with rfl | rfl | rfl | rfl<;>simp [IF]
   ·rcases hx with rfl | rfl<;>rcases hy with rfl | rfl
    ·exact ⟨0,by omega,rfl⟩
    ·exact ⟨1,by omega,rfl⟩
    ·exact ⟨2,by omega,rfl⟩
    ·exact ⟨3,by omega,rfl⟩
  ·refine ⟨fun i=>((IF yl yh xl xh i).2,-(IF yl yh xl xh i).1),fun i _=>by simp [FO],fun i hi=>?_,fun x y hx hy=>?_⟩
   ·rcases four i hi with rfl | rfl | rfl | rfl<;>simp [IF]
   ·rcases hx with rfl | rfl<;>rcases hy with rfl | rfl
    ·exact ⟨2,by omega,rfl⟩
    ·exact ⟨0,by omega,rfl⟩
    ·exact ⟨3,by omega,rfl⟩
    ·exact ⟨1,by omega,rfl⟩
  ·refine ⟨fun i=>(-(IF yl yh xl xh i).1,-(IF yl yh xl xh i).2),fun i _=>by simp [FO],fun i hi=>?_,fun x y hx hy=>?_⟩
   ·rcases four i hi with rfl | rfl | rfl | rfl<;>simp [IF]
   ·rcases hx with rfl | rfl<;>rcases hy with rfl | rfl
    ·exact ⟨3,by omega,rfl⟩
    ·exact ⟨2,by omega,rfl⟩
    ·exact ⟨1,by omega,rfl⟩
    ·exact ⟨0,by omega,rfl⟩
  ·refine ⟨fun i=>(-(IF yl yh xl xh i).2,(IF yl yh xl xh i).1),fun i _=>by simp [FO],fun i hi=>?_,fun x y hx hy=>?_⟩
   ·rcases four i hi with rfl | rfl | rfl | rfl<;>simp [IF]
   ·rcases hx with rfl | rfl<;>rcases hy with rfl | rfl
    ·exact ⟨1,by omega,rfl⟩
    ·exact ⟨3,by omega,rfl⟩
    ·exact ⟨0,by omega,rfl⟩
    ·exact ⟨2,by omega,rfl⟩
 have hbd:x0≤x1∧y0≤y1∧x1≤2147483648∧-2147483648≤y0∧y1≤2147483648:=by
  rcases (show j=0∨j=1∨j=2∨j=3 by omega) with rfl | rfl | rfl | rfl<;>simp only [lT,Prod.mk.injEq] at hr<;>omega
 obtain ⟨d1,d2,d3,d4,d5⟩:=hbd;have hpos:∀i,i<4→0<(c i).1:=fun i hi=>by have:=hin i hi;omega
 have h31:∀i,i<4→EO (c i).1 (c i).2:=fun i hi=>by have:=hin i hi;exact ⟨by omega,by omega,by omega,by omega⟩
 obtain ⟨i,hi,ei,mi⟩:=fst_min c hc hpos 4 (aaJ _);obtain ⟨k,hk,ek,mk⟩:=lst_max c hc hpos 4 (aaJ _);have mono:∀p q,p<4→q<4→pQ (c p) (c q)=true→fl (c p).1 (c p).2≤fl (c q).1 (c q).2∧ce (c p).1 (c p).2≤ce (c q).1 (c q).2:=fun p q hp hq h=>by
  unfold pQ at h;simp only [decide_eq_true_eq] at h;exact rT (h31 p hp) (h31 q hq) h
 have ea:fl (c i).1 (c i).2=AG y0 x0 x1:=by
  have h1:=(box_lo (x:=(c i).1) (y:=(c i).2) hx0 (by have:=hin i hi;omega) (by have:=hin i hi;omega) d3 d4 d5).1;have h2:fl (c i).1 (c i).2≤AG y0 x0 x1:=by
   unfold AG;split
   ·obtain ⟨m,hm,em⟩:=hmem x1 y0 (.inr rfl) (.inl rfl);have:=(mono i m hi hm (mi m hm)).1;rw [em] at this;exact this
   ·obtain ⟨m,hm,em⟩:=hmem x0 y0 (.inl rfl) (.inl rfl);have:=(mono i m hi hm (mi m hm)).1;rw [em] at this;exact this
  omega
 have eb:ce (c k).1 (c k).2=LP y1 x0 x1:=by
  have h1:=(box_lo (x:=(c k).1) (y:=(c k).2) hx0 (by have:=hin k hk;omega) (by have:=hin k hk;omega) d3 d4 d5).2;have h2:LP y1 x0 x1≤ce (c k).1 (c k).2:=by
   unfold LP;split
   ·obtain ⟨m,hm,em⟩:=hmem x0 y1 (.inl rfl) (.inr rfl);have:=(mono m k hm hk (mk m hm)).2;rw [em] at this;exact this
   ·obtain ⟨m,hm,em⟩:=hmem x1 y1 (.inr rfl) (.inr rfl);have:=(mono m k hm hk (mk m hm)).2;rw [em] at this;exact this
  omega
 have a1:=PL (x:=(c i).1) (y:=(c i).2) (hpos i hi) j;have a2:=PL (x:=(c k).1) (y:=(c k).2) (hpos k hk) j;have hle:=(mono i k hi hk (mi k hk)).1;have f1:=uK (c i).1 (c i).2;have f2:=uK (c k).1 (c k).2;unfold aX;rw [if_neg (by simp [aN];omega),if_neg (by rw [ho];simp),ei,ek,a1.1,a2.1,a2.2,ea];rw [ea] at hle f1;unfold ce at eb f2;unfold upE;have hjn:(j:Int)≤3:=by omega
 generalize (if ex (c k).1 (c k).2=true then (0:Int) else 1)=u at*;generalize fl (c k).1 (c k).2=g at*;generalize AG y0 x0 x1=a at*;generalize LP y1 x0 x1=b at*;rw [←eb];simp only [Prod.mk.injEq,true_and,and_true];split<;>omega
end
section
open SM
theorem rbox_bd {yl yh xl xh:Int} (h1:-2147483648≤yl) (h2:yl≤yh) (h3:yh≤2147483648) (h4:-2147483648≤xl) (h5:xl≤xh) (h6:xh≤2147483648) (j:Nat):
  (lT yl yh xl xh j).1≤(lT yl yh xl xh j).2.1∧(lT yl yh xl xh j).2.2.1≤(lT yl yh xl xh j).2.2.2∧-2147483648≤(lT yl yh xl xh j).1∧(lT yl yh xl xh j).2.1≤2147483648∧(lT yl yh xl xh j).2.2.2≤2147483648:=by
 unfold lT;split<;>simp only<;>omega
theorem VE {yl yh xl xh:Int} (hvx:aN xl xh=true) (hvy:aN yl yh=true) (ho:dI yl yh xl xh=false) {j:Nat} (hj:j≤3) (hx0:0<(lT yl yh xl xh j).2.2.1):
  ∃A B:Int,A=AG (lT yl yh xl xh j).1 (lT yl yh xl xh j).2.2.1 (lT yl yh xl xh j).2.2.2∧B=LP (lT yl yh xl xh j).2.1 (lT yl yh xl xh j).2.2.1 (lT yl yh xl xh j).2.2.2∧
   aX yl yh xl xh=((A+5400000*j)%21600000,(A+5400000*j)%21600000+(B-A),0)∧-5400000≤A∧A≤B∧B≤5400000:=by
 have hx:=hvx;have hy:=hvy;simp only [aN,decide_eq_true_eq] at hx hy;have hb:=rbox_bd hy.1 hy.2.1 hy.2.2 hx.1 hx.2.1 hx.2.2 j;refine ⟨_,_,rfl,rfl,nJ hvx hvy ho hj rfl hx0,?_⟩;exact rO hx0 hb.2.1 hb.1 hb.2.2.2.2 hb.2.2.1 hb.2.2.2.1
theorem VG {yl yh xl xh:Int} (hvx:aN xl xh=true) (hvy:aN yl yh=true) (ho:dI yl yh xl xh=true):aX yl yh xl xh=(0,21600000,0):=by
 unfold aX;rw [if_neg (by rw [hvx,hvy];simp),if_pos ho]
end
section
open SM TA
theorem serT_U {T Q n:Nat} (hT:T≤UU) (hQ:Q≤UU):jN T Q n=KX UU T Q n:=by
 have hle:T*Q/UU≤T:=Nat.div_le_of_le_mul (by rw [aoQ UU];exact akQ _ hQ);unfold jN KX;rw [show T*Q/6277101735386680763835789423207666416102355444464034512896=T*Q/UU from rfl,aqQ (by unfold UU at*;omega)]
theorem vS_U {Q:Nat} (hQ:Q≤UU):∀(f T n:Nat),T≤UU→vS Q f T n=vU UU Q f T n
 | 0,T,n,_=>rfl
 | f+1,T,n,hT=>by
  have hl:=serU_le (U:=UU) T Q n hQ;unfold vS vU;rw [serT_U hT hQ,vS_U hQ f _ _ (by omega)]
theorem tauF:rG 1 15≤1/2^113∧rG 0 15≤1/2^113:=by decide+kernel
def EF:Rat:=1/2^180
theorem angN_F (k:Nat):bZ ((dP k:Rat)/UU-jE*(k:Rat)) (EF/64):=by
 have h1:dP k*10800000≤19720096697726538562396133364228268891463450865190089732560*k:=by unfold dP;omega
 have h2:19720096697726538562396133364228268891463450865190089732560*k≤dP k*10800000+10800000:=by unfold dP;omega
 generalize dP k=A at*;have r1:=acZ.2 h1;have r2:=acZ.2 h2;rw [afJ,afJ] at r1;rw [ahZ,afJ,afJ] at r2;have c1:((10800000:Nat):Rat)=10800000:=rfl;have c2:((19720096697726538562396133364228268891463450865190089732560:Nat):Rat)=19720096697726538562396133364228268891463450865190089732560:=rfl;have c3:((UU:Nat):Rat)=6277101735386680763835789423207666416102355444464034512896:=rfl;have c4:EF=1/1532495540865888858358347027150309183618739122183602176:=by decide+kernel
 rw [c1,c2] at r1 r2;unfold bZ jE;rw [c3,c4];generalize (k:Rat)=K at*;generalize (A:Rat)=a at*;clear h1 h2 c1 c2 c3 c4;constructor<;>grind
theorem sqN_F (k:Nat) (hk:k≤2700000):bZ ((pJ k:Rat)/UU-jE*(k:Rat)*(jE*(k:Rat))) (EF/8)∧(pJ k:Rat)/UU≤7/10:=by
 have ha:=angN_F k;have m:=ED k hk;have y:=vy_bd k hk;have b:=nS (dP k*dP k) UU (by decide);rw [afJ] at b;have hq:pJ k=dP k*dP k/UU:=rfl;rw [←hq] at b;have c3:((UU:Nat):Rat)=6277101735386680763835789423207666416102355444464034512896:=rfl;have c4:EF=1/1532495540865888858358347027150309183618739122183602176:=by decide+kernel
 have a0:(0:Rat)≤(dP k:Rat):=by exact_mod_cast afX _
 rw [c3,c4] at ha;rw [c3] at b;rw [c3,c4];have w:=ha.mul (show bZ ((dP k:Rat)/6277101735386680763835789423207666416102355444464034512896+jE*(k:Rat)) 2 from by unfold bZ at*;constructor<;>grind);generalize jE*(k:Rat)=x at*;have e:((dP k:Rat)/6277101735386680763835789423207666416102355444464034512896-x)*((dP k:Rat)/6277101735386680763835789423207666416102355444464034512896+x)=(dP k:Rat)*(dP k:Rat)/6277101735386680763835789423207666416102355444464034512896/6277101735386680763835789423207666416102355444464034512896-x*x:=by grind
 rw [e] at w;generalize (dP k:Rat)*(dP k:Rat)=A at*;generalize (pJ k:Rat)=q at*;generalize x*x=Y at*;unfold bZ at*;refine ⟨⟨?_,?_⟩,?_⟩<;>grind
theorem circ_F (k:Nat) (hk:k≤2700000):bZ ((tV k:Rat)/UU-sV k) (1/2^110)∧bZ ((tR k:Rat)/UU-cV k) (1/2^110):=by
 obtain ⟨q1,q2⟩:=sqN_F k hk;obtain ⟨_,_,q3⟩:=sqN_err k hk;have ha:=angN_F k;have m:=ED k hk;have y:=vy_bd k hk;have hl:=pO k hk;have nr:=v_near k hk;have c15:((15:Nat):Rat)=15:=rfl;have hE:(1:Rat)/(UU:Nat)≤EF/8:=by decide+kernel
 have kk:((15:Rat)+2)*EF+2*(1/2^113)+1/2^115≤1/2^110:=by decide+kernel
 have hE0:(0:Rat)≤EF:=by decide+kernel
 constructor
 ·have hv:=rD q3 300 true (dP k) (dP k) 1 (fun _=>aaJ _) (by omega);have h:=vU_err (U:=UU) (by decide) hE tauF.1 q3 ⟨y.1,by grind⟩ q2 q1 15 0 300 (dP k) (jE*(k:Rat)) (by omega) (by omega) m.1 (by grind) (by unfold rG;grind) (ha.mono (by grind));have e1:((tV k:Nat):Rat)=(vU UU (pJ k) 300 (dP k) (2*0+1):Rat):=by
   rw [←alZ];have:((tV k:Nat):Int)=vU UU (pJ k) 300 (dP k) (2*0+1):=by
    rw [←vS_U q3 _ _ _ (by unfold UU;omega)];unfold tV;rw [hv,if_pos rfl,show 2*0+1=1 from rfl];omega
   rw [this]
  rw [e1];rw [c15] at h;have n1:=nr.1;generalize jE*(k:Rat)*tl 1 (jE*(k:Rat)*(jE*(k:Rat))) 0 15=v at*;generalize (vU UU (pJ k) 300 (dP k) (2*0+1):Rat)/(UU:Nat)=u at*;unfold bZ at*;constructor<;>grind
 ·have hv:=rD q3 300 true UU UU 0 (fun _=>aaJ _) (by unfold UU;omega);have hone:bZ ((UU:Rat)/(UU:Nat)-1) EF:=by
   have:(UU:Rat)/(UU:Nat)=1:=by decide+kernel
   rw [this];unfold bZ;constructor<;>grind
  have h:=vU_err (U:=UU) (by decide) hE tauF.2 q3 ⟨y.1,by grind⟩ q2 q1 15 0 300 UU 1 (by omega) (by omega) (by grind) (by grind) (by unfold rG;grind) hone;have e1:((tR k:Nat):Rat)=(vU UU (pJ k) 300 UU (2*0+0):Rat):=by
   rw [←alZ];have:((tR k:Nat):Int)=vU UU (pJ k) 300 UU (2*0+0):=by
    rw [←vS_U q3 _ _ _ (aaJ _)];have hc:tR k=wC 300 true UU UU (pJ k) 0:=rfl;rw [hc,hv,if_pos rfl,show 2*0+0=0 from rfl];omega
   rw [this]
  rw [e1];rw [c15,Rat.one_mul] at h;have n1:=nr.2;generalize tl 0 (jE*(k:Rat)*(jE*(k:Rat))) 0 15=v at*;generalize (vU UU (pJ k) 300 UU (2*0+0):Rat)/(UU:Nat)=u at*;unfold bZ at*;constructor<;>grind
theorem sinN_F (k:Nat) (hk:k≤5400000):bZ ((jD k:Rat)/UU-sK k) (1/2^110)∧bZ ((iV k:Rat)/UU-cK k) (1/2^110):=by
 unfold jD iV sK cK;by_cases h:k≤2700000
 ·rw [if_pos h,if_pos h,if_pos h,if_pos h];exact circ_F k h
 ·rw [if_neg h,if_neg h,if_neg h,if_neg h];have:=circ_F (5400000-k) (by omega);exact ⟨this.2,this.1⟩
theorem AN {k x y:Nat} (h0:0<k) (h1:k≠2700000) (hk:k<5400000) (hx:x≤2147483648) (hy:y≤2147483648) (hxy:0<x+y):
  (kD x y k=true∧(x:Rat)*sK k-(y:Rat)*cK k≤-(1/2^57))∨(kD x y k=false∧1/2^57≤(x:Rat)*sK k-(y:Rat)*cK k):=by
 have n:=ntK h0 h1 hk hx hy hxy;have f:=sinN_F k (by omega);have i:=rB hx hy (by omega) h1 (by omega);have x0:(0:Rat)≤(x:Rat):=by exact_mod_cast afX _
 have y0:(0:Rat)≤(y:Rat):=by exact_mod_cast afX _
 have z2:((2147483648:Nat):Rat)=2147483648:=rfl;have x1:(x:Rat)≤2147483648:=by rw [←z2];exact acZ.2 hx
 have y1:(y:Rat)≤2147483648:=by rw [←z2];exact acZ.2 hy
 have m1:=mulB (u:=(x:Rat)) (a:=2147483648) ⟨by grind,x1⟩ f.1;have m2:=mulB (u:=(y:Rat)) (a:=2147483648) ⟨by grind,y1⟩ f.2;have kk:(2147483648:Rat)*(1/2^110)+2147483648*(1/2^110)<1/2^57:=by decide+kernel
 have c3:((UU:Nat):Rat)=6277101735386680763835789423207666416102355444464034512896:=rfl;rw [c3] at m1 m2;have e1:(x:Rat)*((jD k:Rat)/6277101735386680763835789423207666416102355444464034512896-sK k)=(x:Rat)*(jD k:Rat)/6277101735386680763835789423207666416102355444464034512896-(x:Rat)*sK k:=by grind
 have e2:(y:Rat)*((iV k:Rat)/6277101735386680763835789423207666416102355444464034512896-cK k)=(y:Rat)*(iV k:Rat)/6277101735386680763835789423207666416102355444464034512896-(y:Rat)*cK k:=by grind
 rw [e1] at m1;rw [e2] at m2;clear e1 e2 c3 z2;cases hr:kD x y k with
 | true=>
  left;refine ⟨rfl,?_⟩;have h:=acZ.2 (i.1 hr);rw [afJ,afJ] at h;generalize (x:Rat)*sK k=p at*;generalize (y:Rat)*cK k=q at*;rw [aqJ,aqJ (iV k:Rat)] at h;generalize (x:Rat)*(jD k:Rat)=u at*;generalize (y:Rat)*(iV k:Rat)=v at*;clear f i;rcases n with n | n
  ·exfalso;grind
  ·exact n
 | false=>
  right;refine ⟨rfl,?_⟩;have h':¬jD k*x≤iV k*y:=fun q=>by rw [i.2 q] at hr;cases hr
  have h:=acZ.2 (Nat.le_of_lt (Nat.not_le.1 h'));rw [afJ,afJ] at h;generalize (x:Rat)*sK k=p at*;generalize (y:Rat)*cK k=q at*;rw [aqJ,aqJ (jD k:Rat)] at h;generalize (x:Rat)*(jD k:Rat)=u at*;generalize (y:Rat)*(iV k:Rat)=v at*;clear f i h';rcases n with n | n
  ·exact n
  ·exfalso;grind
theorem K_swap {k:Nat} (h1:k≠2700000) (hk:k≤5400000):sK (5400000-k)=cK k∧cK (5400000-k)=sK k:=by
 unfold sK cK;by_cases h:k≤2700000
 ·rw [if_pos h,if_pos h,if_neg (by omega),if_neg (by omega),show 5400000-(5400000-k)=k by omega];exact ⟨rfl,rfl⟩
 ·rw [if_neg h,if_neg h,if_pos (by omega),if_pos (by omega)];exact ⟨rfl,rfl⟩
theorem ZE {k x y:Nat} (h0:0<k) (hk:k<5400000) (hx:x≤2147483648) (hy:y≤2147483648) (hxy:x≠y):kD y x (5400000-k)= !kD x y k:=by
 by_cases h1:k=2700000
 ·subst h1;rw [show 5400000-2700000=2700000 from rfl];have a:=mE x y;have b:=mE y x;cases hr:kD x y 2700000<;>cases hs:kD y x 2700000<;>first | rfl | (exfalso;rw [hr] at a;rw [hs] at b;simp at a b;omega)
 ·have a:=AN (k:=k) h0 h1 hk hx hy (by omega);have b:=AN (k:=5400000-k) (x:=y) (y:=x) (by omega) (by omega) (by omega) hy hx (by omega);have s:=K_swap h1 (by omega:k≤5400000);rw [s.1,s.2] at b;rcases a with ⟨a1,a2⟩ | ⟨a1,a2⟩<;>rcases b with ⟨b1,b2⟩ | ⟨b1,b2⟩<;>rw [a1,b1]<;>first | rfl | (exfalso;grind)
theorem F_swap {x y:Nat} (hx0:0<x) (hy0:0<y) (hx:x≤2147483648) (hy:y≤2147483648) (hxy:x≠y):F y x+F x y+1=5400000:=by
 obtain ⟨a1,a2,a3⟩:=mP x y;obtain ⟨b1,b2,b3⟩:=mP y x;have up:F y x+F x y+1≤5400000:=by
  rcases alX (F y x) with z | z
  ·omega
  ·have h:=ZE (k:=F y x) (x:=y) (y:=x) z b1 hy hx (fun e=>hxy e.symm);rw [b2] at h;rcases adZ (F x y) (5400000-F y x) with q | q
   ·omega
   ·exfalso;have:=CJ (j:=5400000-F y x) hx0 hx hy hx hy (by rw [aoQ];exact aaJ _) q (by omega) a2;rw [h] at this;cases this
 have dn:5400000≤F y x+F x y+1:=by
  by_cases e:F x y+1=5400000
  ·omega
  ·have a4:=a3.resolve_left e;have h:=ZE (k:=F x y+1) (x:=x) (y:=y) (by omega) (by omega) hx hy hxy;rw [a4] at h;have:=F_ge hy0 hy hx (k:=5400000-(F x y+1)) (by omega) h;omega
 omega
theorem F_same {x:Nat} (hx0:0<x) (hx:x≤2147483648):F x x=2700000:=by
 obtain ⟨a1,a2,a3⟩:=mP x x;have h1:=F_ge hx0 hx hx (k:=2700000) (by omega) ((mE x x).2 (aaJ _));rcases adZ 2700000 (F x x) with q | q
 ·exfalso;have h:=AN (k:=F x x) (x:=x) (y:=x) (by omega) (by omega) a1 hx hx (by omega);rcases h with ⟨_,h⟩ | ⟨h,_⟩
  ·
   have hs:=cos_sin q (by omega);have i:=(rB hx hx (by omega) (by omega) (by omega)).1 a2;have:=Nat.lt_of_mul_lt_mul_right (Nat.lt_of_lt_of_le (Nat.mul_lt_mul_of_pos_right hs hx0) i);omega
  ·rw [a2] at h;cases h
 ·omega
theorem fl_neg {x y:Int} (h:EO x y):fl x (-y)=-ce x y:=by
 obtain ⟨h1,h2,h3,h4⟩:=h;have F0:∀z:Nat,0<z→z≤2147483648→F z 0=0:=fun z z0 z1=>by
  obtain ⟨a1,a2,a3⟩:=mP z 0;rcases alX (F z 0) with q | q
  ·exact q
  ·exfalso;by_cases e:F z 0=2700000
   ·rw [e] at a2;have:=(mE z 0).1 a2;omega
   ·have i:=(rB (y:=0) z1 (by omega) (by omega) e (by omega)).1 a2;have s:=(GC (j:=0) (k:=F z 0) q (by omega)).1;have:0<jD (F z 0)*z:=Nat.mul_pos (by omega) z0;omega
 have main:∀a b:Nat,0<a→0<b→a≤2147483648→b≤2147483648→(F b a:Int)-5400000=-((F a b:Int)+if UD a b then 0 else 1):=fun a b a0 b0 a1 b1=>by
  by_cases e:a=b
  ·subst e;have s:=F_same a0 a1;have:UD a a=true:=by unfold UD;rw [s];simp
   rw [this,s];rfl
  ·have s:=F_swap a0 b0 a1 b1 e;have:UD a b=false:=by
    unfold UD;simp only [Bool.or_eq_false_iff,Bool.and_eq_false_iff,beq_eq_false_iff_ne];omega
   rw [this];simp only [Bool.false_eq_true,if_false];omega
 unfold ce fl ex;rcases Int.lt_trichotomy y 0 with q | q | q
 ·have m:=main (-y).toNat x.toNat (by omega) (by omega) (by omega) (by omega);have p1:0≤-y:=by omega
  have p2:¬0≤y:=by omega
  rw [if_pos p1,if_neg p2,if_neg p2];generalize F (-y).toNat x.toNat=u at*;generalize F x.toNat (-y).toNat=v at*;cases hx:UD (-y).toNat x.toNat<;>rw [hx] at m<;>simp only [Bool.false_eq_true,if_false,if_true] at m ⊢ <;>omega
 ·subst q;have z:(-(0:Int)).toNat=0:=rfl;have z':(0:Int).toNat=0:=rfl;have p1:(0:Int)≤-0:=by omega
  have p2:(0:Int)≤0:=by omega
  have e0:UD x.toNat 0=true:=by unfold UD;rw [F0 x.toNat (by omega) (by omega)];simp
  rw [if_pos p1,if_pos p2,if_pos p2,z,z',e0,F0 x.toNat (by omega) (by omega)];rfl
 ·have m:=main x.toNat y.toNat (by omega) (by omega) (by omega) (by omega);have p1:¬0≤-y:=by omega
  have p2:0≤y:=by omega
  rw [if_neg p1,if_pos p2,if_pos p2,Int.neg_neg];exact m
end
theorem bear_fit {yl yh xl xh:Int} (hvy:aN yl yh=true) (hvx:aN xl xh=true):∃p q:Int,aX yl yh xl xh=(p,q,0)∧0≤p∧p<21600000∧p≤q∧q≤p+21600000:=by
 cases ho:dI yl yh xl xh
 ·obtain ⟨j,hj,hx0⟩:=RL ho;obtain ⟨A,B,_,_,e,b1,b2,b3⟩:=VE hvx hvy ho hj hx0;refine ⟨_,_,e,?_,?_,?_,?_⟩<;>omega
 ·exact ⟨0,21600000,VG hvx hvy ho,by omega,by omega,by omega,by omega⟩
theorem RE {x:Int} (h:0<x) (h1:x≤2147483648):fl x 0=0:=by
 have a:=fl_neg (x:=x) (y:=0) ⟨h,h1,by omega,by omega⟩;have b:=uK x 0;rw [Int.neg_zero] at a;omega
end Go.Proofs.YtajpgkpdhcbngaaGreatDoor
