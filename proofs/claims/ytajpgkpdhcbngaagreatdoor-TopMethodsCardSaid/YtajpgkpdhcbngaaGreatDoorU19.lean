/-
  A divided triangle: no error comes; and its arcs hold the true altitude and azimuth. No program here. Chapter 30: the truth is in what solutions have in common, if it is in each of them. No program.
-/
import Derived.Test.YtajpgkpdhcbngaaGreatDoorU14
import Derived.Test.YtajpgkpdhcbngaaGreatDoorU12
import Derived.Test.YtajpgkpdhcbngaaGreatDoorU18
import Derived.Test.YtajpgkpdhcbngaaGreatDoorU13
import Derived.Test.YtajpgkpdhcbngaaGreatDoorU16
set_option maxRecDepth 100000
set_option maxHeartbeats 4000000
open _root_.Int renaming emod_lt_of_pos→agQ,emod_nonneg→aiQ,le_refl→abJ,tmod→asZ,tmod_lt_of_pos→asJ
open _root_.List renaming mem_cons→avX
open _root_.Nat renaming beq→agJ,eq_of_beq_eq_true→adX
open _root_.Option renaming some→afZ
open _root_.Rat renaming intCast_add→acQ,intCast_mul→acX,intCast_sub→abZ
open Go.Proofs.Tryz renaming prog→aaZ
open Go.IntKind (i64 u64)
namespace Go.Proofs.YtajpgkpdhcbngaaGreatDoor
noncomputable section
section
open SM TB TA
open Ev (lt bG)
noncomputable section
def sN (c d e f:Int):Int×Int×Int:=bF (aI c d).1 (aI c d).2.1 (aK e f).1 (aK e f).2.1
def EY (c d e f:Int):Int×Int×Int:=bF (aI c d).1 (aI c d).2.1 (aI e f).1 (aI e f).2.1
def FA (c d e f:Int):Int×Int×Int:=bE (sN c d e f).1 (sN c d e f).2.1
def zS (c d e f:Int):Int×Int×Int:=aX (aK c d).1 (aK c d).2.1 (EY c d e f).1 (EY c d e f).2.1
end
theorem div_one {a b c d e f:Int} (h:dV a b c d e f=true):fJ (sN c d e f)∧fJ (EY c d e f)∧qO (FA c d e f)∧oB (zS c d e f):=by
 obtain ⟨h1,h2,h3⟩:=gA h;have l2:=(bW h2).1;have w:fJ (sN c d e f):=aM (aW l2) (aU h3);have n:fJ (EY c d e f):=aM (aW l2) (aW h3);exact ⟨w,n,UY w,lW (aU l2).val n.val⟩
noncomputable section
def lS (a b c d e f:Int):Int×Int:=((zS c d e f).1-b,(zS c d e f).2.1-a)
def VX (c d e f:Int):Int×Int×Int:=aI (FA c d e f).1 (FA c d e f).2.1
def caE (a b c d e f:Int):Int×Int×Int:=aI (lS a b c d e f).1 (lS a b c d e f).2
def saE (a b c d e f:Int):Int×Int×Int:=aK (lS a b c d e f).1 (lS a b c d e f).2
def upM (a b c d e f:Int):Int×Int×Int:=bF (VX c d e f).1 (VX c d e f).2.1 (caE a b c d e f).1 (caE a b c d e f).2.1
def noM (a b c d e f:Int):Int×Int×Int:=bF (VX c d e f).1 (VX c d e f).2.1 (saE a b c d e f).1 (saE a b c d e f).2.1
def altE (a b c d e f:Int):Int×Int×Int:=bE (upM a b c d e f).1 (upM a b c d e f).2.1
def eaM (c d e f:Int):Int×Int×Int:=mM (sN c d e f).1 (sN c d e f).2.1
def azE (a b c d e f:Int):Int×Int×Int:=aX (eaM c d e f).1 (eaM c d e f).2.1 (noM a b c d e f).1 (noM a b c d e f).2.1
end
theorem sol_one {a b c d e f:Int} (h:dV a b c d e f=true):aE (lS a b c d e f).1 (lS a b c d e f).2=true∧kK (zS c d e f).1 (zS c d e f).2.1 a b=((lS a b c d e f).1,(lS a b c d e f).2,0)∧fJ (VX c d e f)∧fJ (caE a b c d e f)∧fJ (saE a b c d e f)∧fJ (upM a b c d e f)∧fJ (noM a b c d e f)∧qO (altE a b c d e f)∧fJ (eaM c d e f)∧oB (azE a b c d e f):=by
 obtain ⟨h1,h2,h3⟩:=gA h;have l1:=bW h1;obtain ⟨w,n,p,q⟩:=div_one h;have hv:aE (lS a b c d e f).1 (lS a b c d e f).2=true:=by
  obtain ⟨q1,q2,q3,q4,_⟩:=q;unfold lS;exact aR (by dsimp only;omega) (by dsimp only;omega) (by dsimp only;omega)
 have hs:kK (zS c d e f).1 (zS c d e f).2.1 a b=((lS a b c d e f).1,(lS a b c d e f).2,0):=by
  obtain ⟨q1,q2,q3,q4,_⟩:=q;rw [pP (by omega) q2 (by omega) (by omega) (by omega) (by omega)];rfl
 have k1:fJ (VX c d e f):=aW p.val;have k2:fJ (caE a b c d e f):=aW hv;have k3:fJ (saE a b c d e f):=aU hv;have k4:fJ (upM a b c d e f):=aM k1 k2;have k5:fJ (noM a b c d e f):=aM k1 k3;have k6:fJ (eaM c d e f):=(wV w).2;exact ⟨hv,hs,k1,k2,k3,k4,k5,UY k4,k6,lW k6.val k5.val⟩
theorem sol_ok {a b c d e f:Int} (h:dV a b c d e f=true):MG a b c d e f=((altE a b c d e f).1,(altE a b c d e f).2.1,(azE a b c d e f).1,(azE a b c d e f).2.1,0):=by
 obtain ⟨h1,h2,h3⟩:=gA h;have l2:=(bW h2).1;obtain ⟨w,n,p,q⟩:=div_one h;obtain ⟨hv,hs,k1,k2,k3,k4,k5,k6,k7,k8⟩:=sol_one h;unfold MG ZS;rw [h];simp only [lt,Bool.not_true,cond_false];have c1:oV 0 c d=0:=by unfold oV;rw [(aW l2).2.2.2];rfl
 have c2:tG 0 e f=0:=by unfold tG;rw [(aU h3).2.2.2];rfl
 have m1:uQ 0 (jK c d).1 (jK c d).2 (nL e f).1 (nL e f).2=0:=by
  show bG 0 (sN c d e f).2.2=0;rw [w.2.2.2];rfl
 have v1:rA (jK c d).1 (jK c d).2 (nL e f).1 (nL e f).2=((sN c d e f).1,(sN c d e f).2.1):=rfl;have a1:yL 0 (sN c d e f).1 (sN c d e f).2.1=0:=by
  show bG 0 (FA c d e f).2.2=0;rw [p.2.2.2];rfl
 have u1:rU (sN c d e f).1 (sN c d e f).2.1=((FA c d e f).1,(FA c d e f).2.1):=rfl;have c3:tG 0 c d=0:=by unfold tG;rw [(aU l2).2.2.2];rfl
 have c4:oV 0 e f=0:=by unfold oV;rw [(aW h3).2.2.2];rfl
 have m2:uQ 0 (jK c d).1 (jK c d).2 (jK e f).1 (jK e f).2=0:=by
  show bG 0 (EY c d e f).2.2=0;rw [n.2.2.2];rfl
 have v2:rA (jK c d).1 (jK c d).2 (jK e f).1 (jK e f).2=((EY c d e f).1,(EY c d e f).2.1):=rfl;have b1:NL 0 (nL c d).1 (nL c d).2 (EY c d e f).1 (EY c d e f).2.1=0:=by
  show bG 0 (zS c d e f).2.2=0;rw [q.2.2.2.2];rfl
 have u2:JB (nL c d).1 (nL c d).2 (EY c d e f).1 (EY c d e f).2.1=((zS c d e f).1,(zS c d e f).2.1):=rfl;rw [c1,c2,m1,v1];dsimp only;rw [a1,u1,c3,c4,m2,v2];dsimp only;rw [b1,u2];dsimp only;rw [hs];dsimp only;have d0:arcC 0 (lS a b c d e f).1 (lS a b c d e f).2 0=0:=rfl;have d1:UQ (lS a b c d e f).1 (lS a b c d e f).2 0=((lS a b c d e f).1,(lS a b c d e f).2):=rfl;have d2:oV 0 (FA c d e f).1 (FA c d e f).2.1=0:=by unfold oV;rw [(aW p.val).2.2.2];rfl
 have d3:oV 0 (lS a b c d e f).1 (lS a b c d e f).2=0:=by unfold oV;rw [(aW hv).2.2.2];rfl
 have d4:tG 0 (lS a b c d e f).1 (lS a b c d e f).2=0:=by unfold tG;rw [(aU hv).2.2.2];rfl
 have y1:jK (FA c d e f).1 (FA c d e f).2.1=((VX c d e f).1,(VX c d e f).2.1):=rfl;have y2:jK (lS a b c d e f).1 (lS a b c d e f).2=((caE a b c d e f).1,(caE a b c d e f).2.1):=rfl;have y3:nL (lS a b c d e f).1 (lS a b c d e f).2=((saE a b c d e f).1,(saE a b c d e f).2.1):=rfl;rw [d0,d1];dsimp only;rw [d2,d3,y1,y2,y3];dsimp only;have g1:uQ 0 (VX c d e f).1 (VX c d e f).2.1 (caE a b c d e f).1 (caE a b c d e f).2.1=0:=by
  show bG 0 (upM a b c d e f).2.2=0;rw [k4.2.2.2];rfl
 have g2:rA (VX c d e f).1 (VX c d e f).2.1 (caE a b c d e f).1 (caE a b c d e f).2.1=((upM a b c d e f).1,(upM a b c d e f).2.1):=rfl;have g3:uQ 0 (VX c d e f).1 (VX c d e f).2.1 (saE a b c d e f).1 (saE a b c d e f).2.1=0:=by
  show bG 0 (noM a b c d e f).2.2=0;rw [k5.2.2.2];rfl
 have g4:rA (VX c d e f).1 (VX c d e f).2.1 (saE a b c d e f).1 (saE a b c d e f).2.1=((noM a b c d e f).1,(noM a b c d e f).2.1):=rfl;rw [g1,g2];dsimp only;have g5:yL 0 (upM a b c d e f).1 (upM a b c d e f).2.1=0:=by
  show bG 0 (altE a b c d e f).2.2=0;rw [k6.2.2.2];rfl
 have g6:rU (upM a b c d e f).1 (upM a b c d e f).2.1=((altE a b c d e f).1,(altE a b c d e f).2.1):=rfl;have g7:gnegC 0 (sN c d e f).1 (sN c d e f).2.1=0:=by
  show bG 0 (eaM c d e f).2.2=0;rw [k7.2.2.2];rfl
 have g8:NP (sN c d e f).1 (sN c d e f).2.1=((eaM c d e f).1,(eaM c d e f).2.1):=rfl;rw [g5,g6,c1,c2,m1,g7,g8,d4,g3,g4];dsimp only;have g9:NL 0 (eaM c d e f).1 (eaM c d e f).2.1 (noM a b c d e f).1 (noM a b c d e f).2.1=0:=by
  show bG 0 (azE a b c d e f).2.2=0;rw [k8.2.2.2.2];rfl
 rw [g9];rfl
def eK:Rat:=pw 480
def dK:Rat:=pw 500
def dR:Rat:=pw 598
theorem lvA:0<eK∧0<dK∧0<dR∧100000*(15*e1+1073741824*(5*e0)+4*e1)≤dR*dR∧15*e1+1073741824*(5*e0)≤1/4∧2^64*(15*e1+1073741824*(2*eT)+2*e1)≤dK∧15*e1+1073741824*(2*eT)≤1/2^91∧2000*dR+5*e1≤eK∧2000*dK+5*e1≤eK∧dK≤1∧dR≤1∧
  100000*(3*eK+1073741824*(100*eT)+4*e1)≤pw 230*pw 230∧0≤pw 230∧pw 230≤dS∧3*eK+1073741824*(100*eT)≤1/2^91∧2^64*(3*eK+1073741824*(100*eT)+2*e1)≤dS∧15*e1≤3*eK∧eK≤1/100∧16000*u0≤eT∧10*e0≤eT∧0<eT:=by decide+kernel
theorem div_hold {a b c d e f:Int} {y t:Rat} (h:dV a b c d e f=true) (hy:Hs 0 c d y) (ht:Hs 0 e f t) {r k:Rat} (r0:-5400000≤r) (r1:r≤5400000) (k1:Cl (5*e0) (si r) (co y*si t)) (k2:Cl eT (co r*co k) (co y*co t)) (k3:Cl eT (co r*si k) (si y)):
  Hs dR (FA c d e f).1 (FA c d e f).2.1 r∧Dr dK (zS c d e f).1 (zS c d e f).2.1 k∧Vl (sN c d e f) (15*e1) (co y*si t):=by
 obtain ⟨w1,w2,w3,w4,w5,w6,w7,w8,w9,w10,w11,w12,w13,w14,w15,w16,w17,w18,w19,w20,w21⟩:=lvA;have e1b:=iL;have e0b:=dY;obtain ⟨h1,h2,h3⟩:=gA h;have l2:=(bW h2).1;have s2:=aU l2;have c2:=aW l2;have s3:=aU h3;have c3:=aW h3;have S2:=kG l2 hy;have C2:=jI l2 hy;have S3:=kG h3 ht;have C3:=jI h3 ht;have m1:Vl (sN c d e f) (15*e1) (co y*si t):=(fX c2 s3 (by grind) (by grind) C2 S3).wide (by grind);have m2:Vl (EY c d e f) (15*e1) (co y*co t):=(fX c2 c3 (by grind) (by grind) C2 C3).wide (by grind);have cl:=mT r0 r1;obtain ⟨ρ,ρ0,ρ1,hn,he⟩:=AF cl.1 cl.2 k2 k3;exact ⟨(BE m1 k1 r0 r1 (by grind) (by grind) (by grind) w5 w4).2,(xZ (S2.wide (f:=15*e1) (by grind)) m2 he hn ρ0 (by grind) (by grind) (by grind) w7).2.wide w6,m1⟩
theorem UJ {a b c d e f:Int} (h:dV a b c d e f=true):Hold a b c d e f (altE a b c d e f) (azE a b c d e f):=by
 obtain ⟨w1,w2,w3,w4,w5,w6,w7,w8,w9,w10,w11,w12,w13,w14,w15,w16,w17,w18,w19,w20,w21⟩:=lvA;have e1b:=iL;have e0b:=dY;obtain ⟨h1,h2,h3⟩:=gA h;obtain ⟨W,N,P,Q⟩:=div_one h;obtain ⟨hv,hs,o1,o2,o3,o4,o5,o6,o7,o8⟩:=sol_one h;have key:∀x y t:Rat,Hs 0 a b x→Hs 0 c d y→Hs 0 e f t→∀h' z:Rat,dE x y t h' z→∃A B:Rat,Vl (upM a b c d e f) (3*eK) A∧Vl (noM a b c d e f) (3*eK) B∧Cl (20*eT) (gJ x y t) A∧Cl (20*eT) (gS x y t) B∧Vl (eaM c d e f) (3*eK) (iQ y t):=by
  intro x y t x0 y0 t0 h' z' s';obtain ⟨r,k,r0,r1,k0,k1',k1,k2,k3⟩:=qU y t;obtain ⟨hR,⟨m,hK⟩,hW⟩:=div_hold h y0 t0 r0 r1 k1 k2 k3;have hA:Hs dK (lS a b c d e f).1 (lS a b c d e f).2 ((k-x)+21600000*(m:Rat)):=by
   unfold Hs at hK x0 ⊢;unfold lS;dsimp only;rw [abZ,abZ];generalize ((zS c d e f).1:Rat)=p at*;generalize ((zS c d e f).2.1:Rat)=q at*;generalize (m:Rat)=m' at*;constructor<;>grind
  have cr:Vl (VX c d e f) eK (co r):=(DM P.val (by grind) w11 hR).wide w8;have ca:=(DM hv (by grind) w10 hA).wide w9;have sa:=(OO hv (by grind) w10 hA).wide w9;have tq:=eQ (k-x) m;rw [tq.1] at ca;rw [tq.2] at sa;have sq:=qH k x;have br:=(cL r).1;have bx:=cL x;have g1:=Cl.mul 2 4 k2 (Cl.refl (co x) (e:=0) (by grind)) bx.1 (by have:=aB (cL y).1.1 (cL y).1.2 (cL t).1.1 (cL t).1.2;grind);have g2:=Cl.mul 2 4 k3 (Cl.refl (si x) (e:=0) (by grind)) bx.2 (by have:=(cL y).2;grind);have g3:=Cl.mul 2 4 k3 (Cl.refl (co x) (e:=0) (by grind)) bx.1 (by have:=(cL y).2;grind);have g4:=Cl.mul 2 4 k2 (Cl.refl (si x) (e:=0) (by grind)) bx.2 (by have:=aB (cL y).1.1 (cL y).1.2 (cL t).1.1 (cL t).1.2;grind);have q1:=aB br.1 br.2 sq.1.1 sq.1.2;have q2:=aB br.1 br.2 sq.2.1 sq.2.2;refine ⟨co r*co (k-x),co r*si (k-x),fX o1 o2 (by grind) (by grind) cr ca,fX o1 o3 (by grind) (by grind) cr sa,?_,?_,?_⟩
  ·rw [show co r*(co (k-x)-(co k*co x+si k*si x))=co r*co (k-x)-(co r*co k*co x+co r*si k*si x) by grind] at q1;unfold gJ;unfold Cl at*;generalize co r*co (k-x)=v1 at*;generalize co r*co k*co x=v2 at*;generalize co r*si k*si x=v3 at*;rw [show si x*si y+co x*co y*co t=co y*co t*co x+si y*si x by grind];generalize co y*co t*co x=v4 at*;generalize si y*si x=v5 at*;clear g3 g4 q2 sq hR hK hA s' k1 k2 k3;constructor<;>grind
  ·rw [show co r*(si (k-x)-(si k*co x-co k*si x))=co r*si (k-x)-(co r*si k*co x-co r*co k*si x) by grind] at q2;unfold gS;unfold Cl at*;generalize co r*si (k-x)=v1 at*;generalize co r*si k*co x=v2 at*;generalize co r*co k*si x=v3 at*;generalize co y*co t*si x=v4 at*;generalize si y*co x=v5 at*;clear g1 g2 q1 sq hR hK hA s' k1 k2 k3;constructor<;>grind
  ·exact (neg_v W hW).wide w17
 refine ⟨o6,o8,wL o7.val o5.val,?_,?_⟩
 ·intro x y t x0 y0 t0 h' z' s';obtain ⟨A,B,vA,vB,cA,cB,vE⟩:=key x y t x0 y0 t0 h' z' s';obtain ⟨g0,g1,z0,z1,k1,k2,k3⟩:=s';exact ((BE vA ((k1.trans cA).wide (f:=100*eT) (by grind)) g0 g1 (by grind) (by grind) w13 (by grind) w12).2).wide w14 (abJ _) (abJ _)
 ·intro x y t x0 y0 t0 h' z' s';obtain ⟨A,B,vA,vB,cA,cB,vE⟩:=key x y t x0 y0 t0 h' z' s';obtain ⟨g0,g1,z0,z1,k1,k2,k3⟩:=s';have cl:=mT g0 g1;obtain ⟨ρ,ρ0,ρ1,hn,he⟩:=AF cl.1 cl.2 k2 k3;exact (xZ vE vB (he.wide (f:=100*eT) (by grind)) ((hn.trans cB).wide (f:=100*eT) (by grind)) ρ0 (by grind) (by grind) (by grind) w15).2.wide w16
end
section
open SM TB TA
structure Gd (h z:Rat) (s:jW):Prop where
 val:jX s=true
 up:Hs dS s.1 s.2.1 h
 az:Dr dS s.2.2.1 s.2.2.2 z
theorem dS2:dS+dS<1:=by decide+kernel
theorem gd_of {a b c d e f:Int} {H Z:Int×Int×Int} {x y t h z:Rat} (k:Hold a b c d e f H Z) (hx:Hs 0 a b x) (hy:Hs 0 c d y) (ht:Hs 0 e f t) (s:dE x y t h z):Gd h z (H.1,H.2.1,Z.1,Z.2.1):=by
 refine ⟨?_,k.up x y t hx hy ht h z s,k.az x y t hx hy ht h z s⟩;have l:=k.lat;have d:=k.dir;have f:=k.form;obtain ⟨d1,d2,d3,d4,_⟩:=d;unfold jX;rw [l.val,k.dir.val];simp only [Bool.true_and,Bool.or_eq_true,Bool.and_eq_true,beq_iff_eq,decide_eq_true_eq];omega
theorem form_of {s:jW} (h:jX s=true):(s.2.2.1=0∧s.2.2.2=21600000)∨(0≤s.2.2.1∧s.2.2.1<21600000∧s.2.2.1≤s.2.2.2∧s.2.2.2-s.2.2.1<21600000):=by
 have b:=jV h;have v:=cG b.2.1;unfold jX at h;simp only [Bool.and_eq_true,Bool.or_eq_true,beq_iff_eq,decide_eq_true_eq] at h;omega
theorem Dr_shift {d:Rat} {a b:Int} {z:Rat} (m k:Int) (h:Hs d a b (z+21600000*(m:Rat))):Hs d (a+21600000*k) (b+21600000*k) (z+21600000*((m+k:Int):Rat)):=by
 unfold Hs at*;rw [acQ,acQ,acX,acQ,show ((21600000:Int):Rat)=21600000 by rfl];constructor<;>grind
theorem dirs_good {a b c d:Int} {z:Rat} (fa:(a=0∧b=21600000)∨(0≤a∧a<21600000∧a≤b∧b-a<21600000)) (fc:(c=0∧d=21600000)∨(0≤c∧c<21600000∧c≤d∧d-c<21600000)) (ha:Dr dS a b z) (hc:Dr dS c d z):
  (fM a b c d).2.2=0∧Dr dS (fM a b c d).1 (fM a b c d).2.1 z∧(((fM a b c d).1=0∧(fM a b c d).2.1=21600000)∨(0≤(fM a b c d).1∧(fM a b c d).1<21600000∧(fM a b c d).1≤(fM a b c d).2.1∧(fM a b c d).2.1-(fM a b c d).1<21600000)):=by
 unfold fM;by_cases h1:a=0∧b=21600000
 ·rw [if_pos h1];exact ⟨rfl,hc,fc⟩
 rw [if_neg h1];by_cases h2:c=0∧d=21600000
 ·rw [if_pos h2];exact ⟨rfl,ha,fa⟩
 rw [if_neg h2];have fa':=fa.resolve_left h1;have fc':=fc.resolve_left h2;obtain ⟨m,hm⟩:=ha;obtain ⟨n,hn⟩:=hc;have hs:=Dr_shift n (m-n) hn;rw [show n+(m-n)=m by omega] at hs;have mt:=hm.meet hs dS2;generalize hk:m-n=k at*;have hk3:k=-1∨k=0∨k=1:=by omega
 have hin:(mx a (c+21600000*k),mn b (d+21600000*k))∈xB a b c d 3:=by
  unfold xB;rw [List.mem_filterMap];refine ⟨21600000*k,?_,?_⟩
  ·rcases hk3 with rfl | rfl | rfl<;>simp [aA3]
  ·unfold WE;rw [if_neg];unfold mx mn;split<;>split<;>omega
 have hp:Hs dS (mx a (c+21600000*k)) (mn b (d+21600000*k)) (z+21600000*(m:Rat)):=by
  unfold Hs at*;unfold mx mn;constructor
  ·split
   ·exact hs.1
   ·exact hm.1
  ·split
   ·exact hs.2
   ·exact hm.2
 have hle:mx a (c+21600000*k)≤mn b (d+21600000*k):=by
  unfold mx mn;split<;>split<;>omega
 have hbd:0≤mx a (c+21600000*k)∧mx a (c+21600000*k)<100000000∧mn b (d+21600000*k)≤100000000:=by
  unfold mx mn;refine ⟨?_,?_,?_⟩
  ·split<;>omega
  ·split<;>omega
  ·split<;>omega
 generalize mx a (c+21600000*k)=X at*;generalize mn b (d+21600000*k)=Y at*;cases hL:xB a b c d 3 with
 | nil=>rw [hL] at hin;cases hin
 | cons p L=>
  cases L with
  | nil=>
   rw [hL] at hin;have e:(X,Y)=p:=by simpa using hin
   subst e;simp only [dirF];rw [LG (by omega) hle (by omega)];have td:=LI hle;obtain ⟨⟨t1,t2,t3,t4,_⟩,t5⟩:=td;refine ⟨rfl,CU hle ⟨m,hp⟩ (by decide+kernel),?_⟩;dsimp only at*;omega
  | cons q L=>
   simp only [dirF];split
   ·exact ⟨rfl,⟨n,hn⟩,.inr fc'⟩
   ·exact ⟨rfl,⟨m,hm⟩,.inr fa'⟩
theorem meetO_good {h z:Rat} {o s:jW} (go:Gd h z o) (gs:Gd h z s):∃x,AL o s=some x∧Gd h z x∧o.1≤x.1∧s.1≤x.1∧x.2.1≤o.2.1∧x.2.1≤s.2.1:=by
 have bo:=jV go.val;have bs:=jV gs.val;have vo:=cG bo.1;have vs:=cG bs.1;have mt:=go.up.meet gs.up dS2;have hd:=dirs_good (form_of go.val) (form_of gs.val) go.az gs.az;have hmx:o.1≤mx o.1 s.1∧s.1≤mx o.1 s.1∧mx o.1 s.1≤mn o.2.1 s.2.1∧mn o.2.1 s.2.1≤o.2.1∧mn o.2.1 s.2.1≤s.2.1:=by
  unfold mx mn;refine ⟨?_,?_,?_,?_,?_⟩<;>(try split)<;>(try split)<;>omega
 have ha:cR o.1 o.2.1 s.1 s.2.1=(mx o.1 s.1,mn o.2.1 s.2.1,0):=by
  unfold cR;rw [if_pos ⟨bo.1,bs.1⟩,if_neg (by omega)]
 have hup:Hs dS (mx o.1 s.1) (mn o.2.1 s.2.1) h:=by
  have u1:=go.up;have u2:=gs.up;unfold Hs at*;unfold mx mn;constructor
  ·split
   ·exact u2.1
   ·exact u1.1
  ·split
   ·exact u2.2
   ·exact u1.2
 refine ⟨(mx o.1 s.1,mn o.2.1 s.2.1,(fM o.2.2.1 o.2.2.2 s.2.2.1 s.2.2.2).1,(fM o.2.2.1 o.2.2.2 s.2.2.1 s.2.2.2).2.1),?_,⟨?_,hup,hd.2.1⟩,hmx.1,hmx.2.1,hmx.2.2.2.1,hmx.2.2.2.2⟩
 ·unfold AL;rw [ha,if_pos ⟨rfl,hd.1⟩]
 ·unfold jX;dsimp only;have f:=hd.2.2;rw [avm (by omega) hmx.2.2.1 (by omega),avm (by omega) (by omega) (by omega)];simp only [Bool.true_and,Bool.or_eq_true,Bool.and_eq_true,beq_iff_eq,decide_eq_true_eq];omega
theorem JR {h z:Rat}:∀(l:List jW) (o:jW),Gd h z o→(∀s∈l,Gd h z s)→∃x,uY o l=some x∧Gd h z x∧o.1≤x.1∧x.2.1≤o.2.1∧∀s∈l,s.1≤x.1∧x.2.1≤s.2.1
 | [],o,go,_=>⟨o,rfl,go,by omega,by omega,fun s hs=>by cases hs⟩
 | s::l,o,go,gl=>by
  obtain ⟨x,hx,gx,h1,h2,h3,h4⟩:=meetO_good go (gl s (by simp));obtain ⟨y,hy,gy,k1,k2,k3⟩:=JR l x gx (fun s hs=>gl s (by simp [hs]));refine ⟨y,?_,gy,by omega,by omega,fun t ht=>?_⟩
  ·simp only [uY];rw [hx];exact hy
  ·rcases avX.1 ht with rfl | ht
   ·omega
   ·exact k3 t ht
theorem meetR_good {h z:Rat} {l:List jW} (hl:l≠[]) (hn:l.length≤1000) (gl:∀s∈l,Gd h z s):∃x:jW,iM l=(x.1,x.2.1,x.2.2.1,x.2.2.2,0)∧Gd h z x∧∀s∈l,s.1≤x.1∧x.2.1≤s.2.1:=by
 cases l with
 | nil=>exact absurd rfl hl
 | cons s r=>
  obtain ⟨x,hx,gx,h1,h2,h3⟩:=JR r s (gl s (by simp)) (fun t ht=>gl t (by simp [ht]));have hb:(s::r).any (fun s=> !jX s)=false:=by
   rw [List.any_eq_false];intro t ht;rw [(gl t ht).val];simp
  refine ⟨x,?_,gx,fun t ht=>?_⟩
  ·rw [JS (by omega) hb,hx]
  ·rcases avX.1 ht with rfl | ht
   ·exact ⟨h1,h2⟩
   ·exact h3 t ht
theorem by_good {a b c d e f:Int} {x y t h z:Rat} (hv:dV a b c d e f=true) (hx:Hs 0 a b x) (hy:Hs 0 c d y) (ht:Hs 0 e f t) (s:dE x y t h z) (m:Int) (h1:1≤m) (h5:m≤5):
  (m≠4→∃q:jW,byM m a b c d e f=(q.1,q.2.1,q.2.2.1,q.2.2.2,0))∧(∀q,okS (byM m a b c d e f)=some q→Gd h z q)∧((byM m a b c d e f).2.2.2.2=0∨(byM m a b c d e f).2.2.2.2=24):=by
 have key:∀(r:Int×Int×Int×Int×Int) (H Z:Int×Int×Int),r=(H.1,H.2.1,Z.1,Z.2.1,0)→Hold a b c d e f H Z→(∃q:jW,MY r=(q.1,q.2.1,q.2.2.1,q.2.2.2,0))∧(∀q,okS (MY r)=some q→Gd h z q)∧((MY r).2.2.2.2=0∨(MY r).2.2.2.2=24):=by
  intro r H Z e k;subst e;refine ⟨⟨(H.1,H.2.1,Z.1,Z.2.1),rfl⟩,fun q hq=>?_,.inl rfl⟩;have:q=(H.1,H.2.1,Z.1,Z.2.1):=(afZ.inj hq).symm;rw [this];exact gd_of k hx hy ht s
 have:m=1∨m=2∨m=3∨m=4∨m=5:=by omega
 rcases this with rfl | rfl | rfl | rfl | rfl
 ·obtain ⟨H,Z,e1,_,k⟩:=uG hv;have:=key _ H Z e1 k;exact ⟨fun _=>this.1,this.2⟩
 ·obtain ⟨e1,k,_⟩:=RM hv;have:=key _ _ _ e1 k;exact ⟨fun _=>this.1,this.2⟩
 ·have e1:=sol_ok hv;have:=key _ _ _ e1 (UJ hv);exact ⟨fun _=>this.1,this.2⟩
 ·refine ⟨fun h=>absurd rfl h,?_⟩;show (∀q,okS (MY (JH a b c d e f))=some q→Gd h z q)∧((MY (JH a b c d e f)).2.2.2.2=0∨(MY (JH a b c d e f)).2.2.2.2=24);rw [hsl_ok hv];split
  ·exact ⟨fun q hq=>(by cases hq),.inr rfl⟩
  ·rename_i ho;exact (key _ _ _ rfl (half_hold hv (by simpa using ho))).2
 ·obtain ⟨e1,k⟩:=matrix_ok hv;have:=key _ _ _ e1 k;exact ⟨fun _=>this.1,this.2⟩
theorem UL {a b c d e f:Int} {x y t h z:Rat} (hv:dV a b c d e f=true) (hx:Hs 0 a b x) (hy:Hs 0 c d y) (ht:Hs 0 e f t) (s:dE x y t h z):
  4≤(xA a b c d e f).length∧∀q∈xA a b c d e f,Gd h z q:=by
 have B:=fun m h1 h5=>by_good hv hx hy ht s m h1 h5;constructor
 ·have o:∀m:Int,1≤m→m≤5→m≠4→((okS (byM m a b c d e f)).toList).length=1:=by
   intro m h1 h5 h4;obtain ⟨q,hq⟩:=(B m h1 h5).1 h4;rw [hq];rfl
  unfold xA;rw [lK,lK,lK,lK,lK];simp only [List.length_append];have o1:=o 1 (by omega) (by omega) (by omega);have o2:=o 2 (by omega) (by omega) (by omega);have o3:=o 3 (by omega) (by omega) (by omega);have o5:=o 5 (by omega) (by omega) (by omega);have c0:(((0:Nat):Int)+1)=1:=rfl;have c1:(((1:Nat):Int)+1)=2:=rfl;have c2:(((2:Nat):Int)+1)=3:=rfl;have c4:(((4:Nat):Int)+1)=5:=rfl;rw [c0,c1,c2,c4];omega
 ·intro q hq;unfold xA tQ at hq;rw [List.mem_filterMap] at hq;obtain ⟨j,hj,hq⟩:=hq;have:=List.mem_range.1 hj;exact (B ((j:Int)+1) (by omega) (by omega)).2.1 q hq
theorem by_mem {a b c d e f:Int} (m:Int) (h1:1≤m) (h5:m≤5) {q:jW} (hq:okS (byM m a b c d e f)=some q):q∈xA a b c d e f:=by
 unfold xA tQ;rw [List.mem_filterMap];refine ⟨(m-1).toNat,List.mem_range.2 (by omega),?_⟩;rw [show (((m-1).toNat:Nat):Int)+1=m by omega];exact hq
theorem MV {a b c d e f:Int} {x y t h z:Rat} (hv:dV a b c d e f=true) (hx:Hs 0 a b x) (hy:Hs 0 c d y) (ht:Hs 0 e f t) (s:dE x y t h z):
  ∃q:jW,zI a b c d e f=(q.1,q.2.1,q.2.2.1,q.2.2.2,0)∧Gd h z q∧∀s∈xA a b c d e f,s.1≤q.1∧q.2.1≤s.2.1:=by
 obtain ⟨h4,hg⟩:=UL hv hx hy ht s;have h5:=GL a b c d e f;unfold zI;rw [if_pos hv];exact meetR_good (by intro h;rw [h] at h4;simp at h4) (by omega) hg
theorem gd_agree {h z:Rat} {o s:jW} (go:Gd h z o) (gs:Gd h z s):oP o.2.2.1 o.2.2.2 s.2.2.1 s.2.2.2=(true,0)∧(cR o.1 o.2.1 s.1 s.2.1).2.2=0:=by
 have bo:=jV go.val;have bs:=jV gs.val;have vo:=cG bo.2.1;have vs:=cG bs.2.1;have n:=go.az.agree gs.az dS2 vo.2.1 vs.2.1;have m:=go.up.meet gs.up dS2;have v1:=cG bo.1;have v2:=cG bs.1;constructor
 ·unfold oP;rw [if_pos ⟨bo.2.1,bs.2.1⟩,decide_eq_true n]
 ·unfold cR;have:¬mx o.1 s.1>mn o.2.1 s.2.1:=by
   unfold mx mn;split<;>split<;>omega
  rw [if_pos ⟨bo.1,bs.1⟩,if_neg this]
end
section
open SM TB TA
open Ev (lt bG)
theorem mlat_eq (a b:Int):JT a b=gK a b:=by
 unfold JT gK;cases aE a b
 ·rfl
 ·by_cases h:a≥-5400000
  ·rw [decide_eq_true h];rfl
  ·rw [decide_eq_false h];rfl
def bnE (c d e f:Int):Int×Int×Int:=bF (aI c d).1 (aI c d).2.1 (aI e f).1 (aI e f).2.1
def beE (c d e f:Int):Int×Int×Int:=bF (aI c d).1 (aI c d).2.1 (aK e f).1 (aK e f).2.1
def bupE (a b c d e f:Int):Int×Int×Int:=
 let m:=bF (aK c d).1 (aK c d).2.1 (aK a b).1 (aK a b).2.1
 let n:=bF (bnE c d e f).1 (bnE c d e f).2.1 (aI a b).1 (aI a b).2.1
 gB m.1 m.2.1 n.1 n.2.1
def bnoE (a b c d e f:Int):Int×Int×Int:=
 let m:=bF (aK c d).1 (aK c d).2.1 (aI a b).1 (aI a b).2.1
 let n:=bF (bnE c d e f).1 (bnE c d e f).2.1 (aK a b).1 (aK a b).2.1
 lJ m.1 m.2.1 n.1 n.2.1
def beaE (c d e f:Int):Int×Int×Int:=mM (beE c d e f).1 (beE c d e f).2.1
def VD (a b c d e f:Int):Int×Int×Int:=bE (bupE a b c d e f).1 (bupE a b c d e f).2.1
def VI (a b c d e f:Int):Int×Int×Int:=aX (beaE c d e f).1 (beaE c d e f).2.1 (bnoE a b c d e f).1 (bnoE a b c d e f).2.1
def eB:Rat:=pw 216
def dB:Rat:=pw 95
theorem lvB:0<eB∧2000*dS+5*e1≤eB∧dS≤1∧5*e1≤eB∧100*eB≤1/4∧100000*(100*eB+1073741824*(100*eT)+4*e1)≤dB*dB∧0≤dB∧100*eB+1073741824*(100*eT)≤1/2^91∧2^64*(100*eB+1073741824*(100*eT)+2*e1)≤dB∧dB≤1/8∧5*e0≤eT∧16384*u0≤eT∧0<dS:=by decide+kernel
theorem bup_v {a b c d e f:Int} {x h z:Rat} (h1:gK a b=true) (h2:gK c d=true) (h3:aE e f=true) (hx:Hs 0 a b x) (hh:Hs dS c d h) (hz:Dr dS e f z):
  Vl (bupE a b c d e f) (100*eB) (si h*si x+co h*co z*co x)∧Vl (bnoE a b c d e f) (100*eB) (si h*co x-co h*co z*si x)∧Vl (beaE c d e f) (100*eB) (-(co h*si z)):=by
 obtain ⟨w1,w2,w3,w4,w5,w6,w7,w8,w9,w10,w11,w12,w13⟩:=lvB;have l1:=(bW h1).1;have l2:=(bW h2).1;have s1:=aU l1;have c1:=aW l1;have s2:=aU l2;have c2:=aW l2;have s3:=aU h3;have c3:=aW h3;have S1:=(kG l1 hx).wide w4;have C1:=(jI l1 hx).wide w4;have S2:=(OO l2 (by grind) w3 hh).wide w2;have C2:=(DM l2 (by grind) w3 hh).wide w2;obtain ⟨m,hz⟩:=hz;have S3:=(OO h3 (by grind) w3 hz).wide w2;have C3:=(DM h3 (by grind) w3 hz).wide w2;have tq:=eQ z m;rw [tq.2] at S3;rw [tq.1] at C3;have n1:=fX c2 c3 (by grind) (by grind) C2 C3;have n2:=fX c2 s3 (by grind) (by grind) C2 S3;have m1:=fX s2 s1 (by grind) (by grind) S2 S1;have m2:=fX (aM c2 c3) c1 (e:=3*eB) (by grind) (by grind) n1 (C1.wide (by grind));have m3:=fX s2 c1 (by grind) (by grind) S2 C1;have m4:=fX (aM c2 c3) s1 (e:=3*eB) (by grind) (by grind) n1 (S1.wide (by grind));refine ⟨?_,?_,?_⟩
 ·exact (MO (aM s2 s1) (aM (aM c2 c3) c1) m1 m2).wide (by grind)
 ·exact (ZW (aM s2 c1) (aM (aM c2 c3) s1) m3 m4).wide (by grind)
 ·exact (neg_v (aM c2 s3) n2).wide (by grind)
theorem back_t {x y t h z:Rat} (s:dE x y t h z):Cl (50*eT) (si y) (si h*si x+co h*co z*co x)∧Cl (50*eT) (co y*co t) (si h*co x-co h*co z*si x)∧Cl (50*eT) (co y*si t) (-(co h*si z)):=by
 obtain ⟨h0,h1,z0,z1,k1,k2,k3⟩:=s;have w:=lvB.2.2.2.2.2.2.2.2.2.2;have eb:=dY;have t0:=lv.2.1;have un:=nE x;have bx:=cL x;have bys:=cL y;have bt:=cL t;have aux:∀{p r X:Rat} {e:Rat},0≤e→Cl e p r→-2≤X∧X≤2→Cl (2*e) (p*X) (r*X):=fun {p r X e} he hc hX=>by
  have m:=aB (a:=p-r) (b:=X) (A:=e) (B:=2) hc.1 hc.2 hX.1 hX.2;unfold Cl;rw [show p*X-r*X=(p-r)*X by grind];generalize (p-r)*X=v at*;constructor<;>grind
 have a1:=aux (by grind) k1 bx.2;have a2:=aux (by grind) k2 bx.1;have a3:=aux (by grind) k1 bx.1;have a4:=aux (by grind) k2 bx.2;have a5:=aux (e:=8192*u0) (by have:=aY;grind) un bys.2;have b5:=aB bys.1.1 bys.1.2 bt.1.1 bt.1.2;have a6:=aux (X:=co y*co t/2) (e:=8192*u0) (by have:=aY;grind) un (by constructor<;>grind);clear aux;refine ⟨?_,?_,?_⟩
 ·have e:gJ x y t*si x+gS x y t*co x=(co x*co x+si x*si x)*si y:=by unfold gJ gS;grind
  unfold Cl at*;generalize gJ x y t*si x=v1 at*;generalize gS x y t*co x=v2 at*;generalize (co x*co x+si x*si x)*si y=v3 at*;generalize si h*si x=v4 at*;generalize co h*co z*co x=v5 at*;constructor<;>grind
 ·have e:gJ x y t*co x-gS x y t*si x=(co x*co x+si x*si x)*(co y*co t/2)*2:=by unfold gJ gS;grind
  unfold Cl at*;generalize gJ x y t*co x=v1 at*;generalize gS x y t*si x=v2 at*;generalize (co x*co x+si x*si x)*(co y*co t/2)=v3 at*;generalize si h*co x=v4 at*;generalize co h*co z*si x=v5 at*;generalize co y*co t=v6 at*;constructor<;>grind
 ·have n:=k3.neg.symm;unfold iQ at n;rw [show- -(co y*si t)=co y*si t by grind] at n;exact n.wide (by grind)
theorem back_hold {a b c d e f:Int} {x y t h z:Rat} (h1:gK a b=true) (h2:gK c d=true) (h3:aE e f=true) (hx:Hs 0 a b x) (hh:Hs dS c d h) (hz:Dr dS e f z) (s:dE x y t h z) (y0:-5400000≤y) (y1:y≤5400000):
  qO (VD a b c d e f)∧Hs dB (VD a b c d e f).1 (VD a b c d e f).2.1 y∧oB (VI a b c d e f)∧Dr dB (VI a b c d e f).1 (VI a b c d e f).2.1 t:=by
 obtain ⟨w1,w2,w3,w4,w5,w6,w7,w8,w9,w10,w11,w12,w13⟩:=lvB;have t0:=lv.2.1;have eb:=dY;obtain ⟨v1,v2,v3⟩:=bup_v h1 h2 h3 hx hh hz;obtain ⟨k1,k2,k3⟩:=back_t s;have cl:=mT y0 y1;obtain ⟨r,r0,r1,rn,re⟩:=AF (z:=t) cl.1 cl.2 (Cl.refl _ (by grind)) (Cl.refl _ (by grind));have p:=BE v1 (k1.wide (f:=100*eT) (by grind)) y0 y1 (by grind) (by grind) w7 (by grind) w6;have q:=xZ v3 v2 ((re.trans k3).wide (f:=100*eT) (by grind)) ((rn.trans k2).wide (f:=100*eT) (by grind)) r0 (by grind) (by grind) (by grind) w8;exact ⟨p.1,p.2,q.1,q.2.wide w9⟩
theorem bak_ok {a b c d e f:Int} (h1:gK a b=true) (h2:gK c d=true) (h3:aE e f=true):
  bakM a b c d e f=((VD a b c d e f).1,(VD a b c d e f).2.1,(VI a b c d e f).1,(VI a b c d e f).2.1,0)∧qO (VD a b c d e f)∧oB (VI a b c d e f):=by
 have l1:=bW h1;have l2:=bW h2;have l3:=cG h3;have hx:=Hs.at (abJ a) (show a≤b by omega);have hy:=Hs.at (abJ c) (show c≤d by omega);have ht:=Hs.at (abJ e) (show e≤f by omega);obtain ⟨w1,w2,w3,w4,w5,w6,w7,w8,w9,w10,w11,w12,w13⟩:=lvB;have t0:=lv.2.1;have eb:=dY;obtain ⟨y',t',y0,y1,_,_,q1,q2,q3⟩:=vW (a:Rat) (c:Rat) (e:Rat);have hz:Dr dS e f (e:Rat):=⟨0,by rw [show ((0:Int):Rat)=0 by rfl,show (e:Rat)+21600000*0=(e:Rat) by grind];exact ht.wide (by grind) (abJ _) (abJ _)⟩;obtain ⟨v1,v2,v3⟩:=bup_v h1 h2 h3 hx (hy.wide (by grind) (abJ _) (abJ _)) hz;have cq:Cl (100*eT) (si y') (si (c:Rat)*si (a:Rat)+co (c:Rat)*co (e:Rat)*co (a:Rat)):=by
  have:gJ (a:Rat) (c:Rat) (e:Rat)=si (c:Rat)*si (a:Rat)+co (c:Rat)*co (e:Rat)*co (a:Rat):=by unfold gJ;grind
  rw [this] at q1;exact q1.wide (by grind)
 have L:qO (VD a b c d e f):=(BE v1 cq y0 y1 (by grind) (by grind) w7 (by grind) w6).1;have D:oB (VI a b c d e f):=lW v3.2.1 v2.2.1;refine ⟨?_,L,D⟩;have z:((0:Int) != 0)=false:=rfl;unfold bakM bakMK;rw [mlat_eq,mlat_eq,h1,h2,h3];simp only [lt,tO,xV,tN,xU,mO,nZ,EK,PB,EM,PD,EL,PC,Bool.not_true,cond_false];have s1:=aU l1.1;have c1:=aW l1.1;have s2:=aU l2.1;have c2:=aW l2.1;have s3:=aU h3;have c3:=aW h3;have L2:=L.2.2.2;have D2:=D.2.2.2.2;have ed:VD a b c d e f=bE (bupE a b c d e f).1 (bupE a b c d e f).2.1:=rfl;have el:VI a b c d e f=aX (beaE c d e f).1 (beaE c d e f).2.1 (bnoE a b c d e f).1 (bnoE a b c d e f).2.1:=rfl;rw [ed] at L2 ⊢;rw [el] at D2 ⊢;clear L D ed el v1 v2 v3 cq q1 q2 q3 hz hx hy ht;have exE:bF (aI c d).1 (aI c d).2.1 (aI e f).1 (aI e f).2.1=bnE c d e f:=rfl;have ewE:bF (aI c d).1 (aI c d).2.1 (aK e f).1 (aK e f).2.1=beE c d e f:=rfl;have xo:fJ (bnE c d e f):=aM c2 c3;have wo:fJ (beE c d e f):=aM c2 s3;rw [exE,ewE];have m1:=aM s2 s1;have m2:=aM xo c1;have m3:=aM s2 c1;have m4:=aM xo s1;have a1:=qP m1 m2;have a2:=wG m3 m4;have a3:=wV wo;have eu:gB (bF (aK c d).1 (aK c d).2.1 (aK a b).1 (aK a b).2.1).1 (bF (aK c d).1 (aK c d).2.1 (aK a b).1 (aK a b).2.1).2.1 (bF (bnE c d e f).1 (bnE c d e f).2.1 (aI a b).1 (aI a b).2.1).1 (bF (bnE c d e f).1 (bnE c d e f).2.1 (aI a b).1 (aI a b).2.1).2.1=bupE a b c d e f:=rfl;have en:lJ (bF (aK c d).1 (aK c d).2.1 (aI a b).1 (aI a b).2.1).1 (bF (aK c d).1 (aK c d).2.1 (aI a b).1 (aI a b).2.1).2.1 (bF (bnE c d e f).1 (bnE c d e f).2.1 (aK a b).1 (aK a b).2.1).1 (bF (bnE c d e f).1 (bnE c d e f).2.1 (aK a b).1 (aK a b).2.1).2.1=bnoE a b c d e f:=rfl;have eg:mM (beE c d e f).1 (beE c d e f).2.1=beaE c d e f:=rfl;rw [eu,en,eg];have u0':(bupE a b c d e f).2.2=0:=by rw [←eu,a1.1]
 have n0':(bnoE a b c d e f).2.2=0:=by rw [←en,a2.1]
 have g0':(beaE c d e f).2.2=0:=by rw [←eg,a3.1]
 rw [s1.2.2.2,c1.2.2.2,s2.2.2.2,c2.2.2.2,s3.2.2.2,c3.2.2.2,xo.2.2.2,wo.2.2.2,m1.2.2.2,m2.2.2.2,m3.2.2.2,m4.2.2.2,u0',n0',g0'];simp only [AC,z,cond_false];rw [L2,D2,z];rfl
end
section
open SM TB TA
def Tri (ε A B C x:Rat):Prop:=Cl ε (co A) (co B*co C+si B*si C*co x)
theorem tri_sees {B C x h z:Rat} (s:dE (5400000-B) (5400000-C) x h z):Tri (10*e0) (5400000-h) B C x:=by
 obtain ⟨_,_,_,_,k1,_,_⟩:=s;have ch:=(yY h).2;have b:=yY B;have c:=yY C;have u:=aY;have ee:=ee0;have bB:=cL B;have bC:=cL C;have bx:=cL x;have bB':=cL (5400000-B);have bC':=cL (5400000-C);have m1:=Cl.mul 2 2 b.1 c.1 bC'.2 bB.1;have m2:=Cl.mul 2 2 b.2 c.2 bC'.1 bB.2;have m4:=aB (a:=si B) (b:=si C) (A:=2) (B:=2) bB.2.1 bB.2.2 bC.2.1 bC.2.2;have m3:=Cl.mul 2 4 m2 (Cl.refl (co x) (e:=0) (by grind)) bx.1 (by grind);unfold Tri;unfold gJ at k1;generalize si (5400000-B)*si (5400000-C)=X1 at*;generalize co (5400000-B)*co (5400000-C)*co x=X2 at*;generalize co B*co C=Y1 at*;generalize si B*si C*co x=Y2 at*;clear b c m2 m4 bB bC bx bB' bC';unfold Cl at*;generalize co (5400000-h)=H1 at*;generalize si h=H2 at*;constructor<;>grind
end
section
open SM TB TA
open Ev (lt bG)
theorem side_bd {a b:Int} (h:wD a b=true):0≤a∧a≤b∧b≤10800000∧aE a b=true:=by
 unfold wD at h;cases h1:aE a b with
 | false=>rw [h1] at h;cases h
 | true=>
  have v:=cG h1;rw [h1,cond_true] at h;by_cases h2:a≥0
  ·rw [decide_eq_true h2,cond_true] at h;have:=of_decide_eq_true h;exact ⟨h2,by omega,this,rfl⟩
  ·rw [decide_eq_false h2] at h;cases h
def kP (a b c d e f:Int):Int×Int×Int:=gB (dT (a-d) (b-c)).1 (dT (a-d) (b-c)).2.1 (mB (mB (aK a b) (aK c d)) (dT e f)).1 (mB (mB (aK a b) (aK c d)) (dT e f)).2.1
def sidE (r:Int×Int×Int):Int×Int×Int:=if r.2.2≠0 then (0,0,r.2.2) else (r.1,r.2.1,0)
theorem hsid_ok {a b c d e f:Int} (s1:wD a b=true) (s2:wD c d=true) (s3:aE e f=true):NV a b c d e f=sidE (eY (kP a b c d e f).1 (kP a b c d e f).2.1):=by
 obtain ⟨a0,a1,a2,va⟩:=side_bd s1;obtain ⟨b0,b1,b2,vb⟩:=side_bd s2;have h1:0≤a∧a≤b∧b≤10800000:=⟨a0,a1,a2⟩;have h2:0≤c∧c≤d∧d≤10800000:=⟨b0,b1,b2⟩;have vd:aE (a-d) (b-c)=true:=aR (by omega) (by omega) (by omega);have oh:=iX vd;have om:=aM (aM (aU va) (aU vb)) (iX s3);have ad:=qP oh om;have ea:(kP a b c d e f).2.2=0:=by
  have:kP a b c d e f=_:=ad.1;rw [this]
 unfold NV RN;rw [s1,s2,s3,Bool.not_true,cond_false,cond_false,cond_false];refine bP (show mH a b c d=(a-d,b-c) from by unfold mH;rw [pP (by omega) (by omega) (by omega) (by omega) (by omega) (by omega)]) ?_
 (try dsimp only)
 refine bP (show tK 0 a b c d=0 from k0 (by rw [pP (by omega) (by omega) (by omega) (by omega) (by omega) (by omega)])) ?_
 (try dsimp only)
 refine bP (show EG (a-d) (b-c)=((dT (a-d) (b-c)).1,(dT (a-d) (b-c)).2.1) from rfl) ?_
 (try dsimp only)
 refine bP (show OY 0 (a-d) (b-c)=0 from k0 (iX vd).2.2.2) ?_
 (try dsimp only)
 refine bP (show nY a b=((aK a b).1,(aK a b).2.1) from rfl) ?_
 (try dsimp only)
 refine bP (show pY 0 a b=0 from k0 (aU va).2.2.2) ?_
 (try dsimp only)
 refine bP (show nY c d=((aK c d).1,(aK c d).2.1) from rfl) ?_
 (try dsimp only)
 refine bP (show pY 0 c d=0 from k0 (aU vb).2.2.2) ?_
 (try dsimp only)
 refine bP (show nX (aK a b).1 (aK a b).2.1 (aK c d).1 (aK c d).2.1=((mB (aK a b) (aK c d)).1,(mB (aK a b) (aK c d)).2.1) from rfl) ?_
 (try dsimp only)
 refine bP (show pX 0 (aK a b).1 (aK a b).2.1 (aK c d).1 (aK c d).2.1=0 from k0 (aM (aU va) (aU vb)).2.2.2) ?_
 (try dsimp only)
 refine bP (show EG e f=((dT e f).1,(dT e f).2.1) from rfl) ?_
 (try dsimp only)
 refine bP (show OY 0 e f=0 from k0 (iX s3).2.2.2) ?_
 (try dsimp only)
 refine bP (show nX (mB (aK a b) (aK c d)).1 (mB (aK a b) (aK c d)).2.1 (dT e f).1 (dT e f).2.1=((mB (mB (aK a b) (aK c d)) (dT e f)).1,(mB (mB (aK a b) (aK c d)) (dT e f)).2.1) from rfl) ?_
 (try dsimp only)
 refine bP (show pX 0 (mB (aK a b) (aK c d)).1 (mB (aK a b) (aK c d)).2.1 (dT e f).1 (dT e f).2.1=0 from k0 om.2.2.2) ?_
 (try dsimp only)
 refine bP (show gB (dT (a-d) (b-c)).1 (dT (a-d) (b-c)).2.1 (mB (mB (aK a b) (aK c d)) (dT e f)).1 (mB (mB (aK a b) (aK c d)) (dT e f)).2.1=kP a b c d e f from rfl) ?_
 (try dsimp only)
 refine bP (show pW (kP a b c d e f).1 (kP a b c d e f).2.1 (kP a b c d e f).2.2=((kP a b c d e f).1,(kP a b c d e f).2.1) from rfl) ?_
 (try dsimp only)
 refine bP (show rH 0 (kP a b c d e f).1 (kP a b c d e f).2.1 (kP a b c d e f).2.2=0 from k0 ea) ?_
 (try dsimp only)
 generalize eY (kP a b c d e f).1 (kP a b c d e f).2.1=r;simp only [lt];unfold sidE;have ew:yX r.1 r.2.1 r.2.2=(r.1,r.2.1):=rfl;have ec:AX 0 r.1 r.2.1 r.2.2=r.2.2:=AC _;rw [ew,ec];by_cases g:r.2.2=0
 ·rw [g,if_neg (by simp)];rfl
 ·rw [if_pos g,bne_iff_ne.2 g];rfl
end
section
open SM TB TA
open Ev (lt bG)
end
section
open SM TB TA
open Ev (lt bG)
theorem lvA2:3*pw 576+1073741824*(pw 430+e0)≤pw 399∧0<pw 399∧pw 576≤1/4∧3*pw 576≤pw 399∧8589934592*pw 399≤pw 366∧0<pw 366∧2*pw 366+2*e1+2147483648*e0≤1/4∧100000*(2*pw 366+2*e1+2147483648*e0+4*e1)≤pw 170*pw 170∧0<pw 170∧pw 399≤1/4∧0<pw 430∧pw 430≤1/4∧
  1073741824*(20*e0)≤e1∧2*(60*e1)+2*e1+2147483648*e0≤1/4∧100000*(2*(60*e1)+2*e1+2147483648*e0+4*e1)≤pw 590*pw 590:=by decide+kernel
end
section
open SM TB TA
open Ev (lt bG)
theorem sid_v {a b c d e f:Int} {A B C x:Rat} (h1:0≤a∧a≤b∧b≤10800000) (h2:0≤c∧c≤d∧d≤10800000) (hv:aE e f=true) (kB:Hs 0 a b B) (kC:Hs 0 c d C) (kx:Hs 0 e f x) (hA:0≤A∧A≤10800000) (hT:Tri (10*e0) A B C x):
  (eY (kP a b c d e f).1 (kP a b c d e f).2.1).2.2=0∧0≤(eY (kP a b c d e f).1 (kP a b c d e f).2.1).1∧(eY (kP a b c d e f).1 (kP a b c d e f).2.1).1≤(eY (kP a b c d e f).1 (kP a b c d e f).2.1).2.1∧(eY (kP a b c d e f).1 (kP a b c d e f).2.1).2.1≤10800000∧Hs (pw 590) (eY (kP a b c d e f).1 (kP a b c d e f).2.1).1 (eY (kP a b c d e f).1 (kP a b c d e f).2.1).2.1 A:=by
 obtain ⟨v1,v2,v3,v4,v5,v6,v7,v8,v9,v10,v11,v12,v13,v14,v15⟩:=lvA2;have eb:=dY;have ub:=aY;have ee:=ee0;have e1b:=iL;have va:aE a b=true:=aR (by omega) h1.2.1 (by omega);have vc:aE c d=true:=aR (by omega) h2.2.1 (by omega);have vd:aE (a-d) (b-c)=true:=aR (by omega) (by omega) (by omega);have H1:=NR (d:=0) vd (by grind) (by grind) (by have:=kB.sub kC;rw [show (0:Rat)+0=0 by grind] at this;exact this);have H2:=NR (d:=0) hv (by grind) (by grind) kx;have S1:=kG va kB;have S2:=kG vc kC;have m1:=fX (aU va) (aU vc) (by grind) (by grind) S1 S2;have m2:=fX (aM (aU va) (aU vc)) (iX hv) (e:=3*(5*e1)) (by grind) (by grind) m1 (H2.wide (by grind));have ad:=MO (iX vd) (aM (aM (aU va) (aU vc)) (iX hv)) H1 m2;have key:Cl (20*e0) ((1-co A)/2) ((1-co (B-C))/2+si B*si C*((1-co x)/2)):=by
  have r:=(qH B C).1;unfold Tri at hT;rw [show si B*si C*((1-co x)/2)=(si B*si C-si B*si C*co x)/2 by grind];clear H1 H2 S1 S2 m1 m2 ad kB kC;generalize si B*si C*co x=x3 at*;generalize si B*si C=x4 at*;generalize co B*co C=x5 at*;unfold Cl at*;constructor<;>grind
 have N:Vl (kP a b c d e f) (60*e1) ((1-co A)/2):=(ad.near key).wide (by grind);have cX:=(yY A).1;have AH:=ahav_v N (q:=5400000-A) (t:=e0) (d:=pw 590) (by
  rw [show 1-2*((1-co A)/2)=co A by grind];exact cX.wide (by grind)) (by grind) (by grind) (by grind) (by grind) (by decide+kernel) v14 v15
 rw [show 5400000-(5400000-A)=A by grind] at AH;exact AH
theorem Tri.wide {ε f A B C x:Rat} (h:Tri ε A B C x) (k:ε≤f):Tri f A B C x:=Cl.wide h k
end
section
open Ev
open Ev (lt)
def KW (a b:Int):Bool:=cond (decide (a≤b)) (cond (decide (a≥(-1099511627776))) ((decide (b≤1099511627776))) (false)) (false)
def kKt0:bJ:=[]
theorem kKt0_ok:aJ aaZ kKt0:=fE
theorem ZN (a b:Int):aH aaZ 20 [.agg ⟨[.int .i64 a,.int .i64 b]⟩] (.bool (KW a b)):=by
 refine aF bV kKt0_ok (t:=cond (decide (a≤b)) (cond (decide (a≥(-1099511627776))) (some (.v (.bool (decide (b≤1099511627776))))) (some (.v (.bool false)))) (some (.v (.bool false)))) (by kernel_rfl) ?_;unfold KW;repeat' first | (with_reducible refine aO (fun r:Bool=>AV.v (.bool (r))) ?_ ?_) | (with_reducible refine aT (fun r:Bool=>AV.v (.bool (r))) fun _=>?_) | rfl
def AQ (a b:Int):Bool:=cond (decide (a≤b)) (cond (decide (a≥(-5400000))) ((decide (b≤5400000))) (false)) (false)
def kKt1:bJ:=(20,eP (fun a b=>.bool (KW a b)))::kKt0
theorem kKt1_ok:aJ aaZ kKt1:=(aA (dD ZN) kKt0_ok)
theorem ZJ (a b:Int):aH aaZ 19 [.agg ⟨[.int .i64 a,.int .i64 b]⟩] (.bool (AQ a b)):=by
 refine aF bV kKt1_ok (t:=cond (decide (a≤b)) (cond (decide (a≥(-5400000))) (some (.v (.bool (decide (b≤5400000))))) (some (.v (.bool false)))) (some (.v (.bool false)))) (by kernel_rfl) ?_;unfold AQ;repeat' first | (with_reducible refine aO (fun r:Bool=>AV.v (.bool (r))) ?_ ?_) | (with_reducible refine aT (fun r:Bool=>AV.v (.bool (r))) fun _=>?_) | rfl
def rtriM (a b c d e f:Int):Bool:=cond (AQ a b) (cond (AQ c d) ((KW e f)) (false)) (false)
def kKt2:bJ:=(19,eP (fun a b=>.bool (AQ a b)))::kKt1
theorem RT:aJ aaZ kKt2:=(aA (dD ZJ) kKt1_ok)
theorem ZM (a b c d e f:Int):aH aaZ 6 [.agg ⟨[.int .i64 a,.int .i64 b,.int .i64 c,.int .i64 d,.int .i64 e,.int .i64 f]⟩] (.bool (rtriM a b c d e f)):=by
 refine aF bV RT (t:=cond (AQ a b) (cond (AQ c d) (some (.v (.bool (KW e f)))) (some (.v (.bool false)))) (some (.v (.bool false)))) (by kernel_rfl) ?_;unfold rtriM;repeat' first | (with_reducible refine aO (fun r:Bool=>AV.v (.bool (r))) ?_ ?_) | (with_reducible refine aT (fun r:Bool=>AV.v (.bool (r))) fun _=>?_) | rfl
def pD (a:Int):Int:=cond (decide ((asZ a 21600000)<0)) (i64.wrap ((asZ a 21600000)+21600000)) ((asZ a 21600000))
theorem TO (a:Int):aH aaZ 42 [.int .i64 a] (.int .i64 (pD a)):=by
 refine aF bV RT (t:=cond (decide ((asZ a 21600000)<0)) (some (.v (.int .i64 (i64.wrap ((asZ a 21600000)+21600000))))) (some (.v (.int .i64 (asZ a 21600000))))) (by kernel_rfl) ?_;unfold pD;repeat' first | (with_reducible refine aO (fun r:Int=>AV.v (.int .i64 (r))) ?_ ?_) | (with_reducible refine aT (fun r:Int=>AV.v (.int .i64 (r))) fun _=>?_) | rfl
def sG (a:Int):Int:=cond (decide ((pD a)≥10800000)) (i64.wrap ((pD a)-21600000)) ((pD a))
def kKt3:bJ:=(42,eI (fun a=>.int .i64 (pD a)))::kKt2
theorem kKt3_ok:aJ aaZ kKt3:=(aA (IR TO) RT)
theorem rsgM_gives (a:Int):aH aaZ 15 [.int .i64 a] (.int .i64 (sG a)):=by
 refine aF bV kKt3_ok (t:=cond (decide ((pD a)≥10800000)) (some (.v (.int .i64 (i64.wrap ((pD a)-21600000))))) (some (.v (.int .i64 (pD a))))) (by kernel_rfl) ?_;unfold sG;repeat' first | (with_reducible refine aO (fun r:Int=>AV.v (.int .i64 (r))) ?_ ?_) | (with_reducible refine aT (fun r:Int=>AV.v (.int .i64 (r))) fun _=>?_) | rfl
def pkP (a b c:Int):Bool:=decide (-1099511627776≤a∧a≤b∧b≤1099511627776∧0≤c∧c≤4294967295)
def dL (a b c:Int):Int:=a+asZ c (b-a+1)
theorem ST {a b c:Int} (h:pkP a b c=true):a≤dL a b c∧dL a b c≤b:=by
 obtain ⟨h1,h2,h3,h4,h5⟩:=of_decide_eq_true h;have m0:=Int.tmod_nonneg (b-a+1) h4;have m1:=asJ c (show 0<b-a+1 by omega);unfold dL;omega
theorem CD (a b c:Int) (hp:pkP a b c=true):aH aaZ 7 [.agg ⟨[.int .i64 a,.int .i64 b]⟩,.int .u32 c] (.int .i64 (dL a b c)):=by
 refine aF bV kKt3_ok (t:=cond (i64.wrap ((i64.wrap (b-a))+1)==0) (none) (some (.v (.int .i64 (i64.wrap (a+(asZ (i64.wrap (c)) (i64.wrap ((i64.wrap (b-a))+1))))))))) (by kernel_rfl) ?_;have bd:=ST hp;obtain ⟨h1,h2,h3,h4,h5⟩:=of_decide_eq_true hp;unfold dL at bd;rw [bR (x:=b-a) (by omega),bR (x:=b-a+1) (by omega),bR (x:=c) (by omega),beq_eq_false_iff_ne.2 (show b-a+1≠0 by omega),bR (x:=a+asZ c (b-a+1)) (by omega)];rfl
end
section
open SM TB TA
open Ev (lt bG)
theorem tmod_emod' (a:Int):(¬asZ a 21600000<0∧asZ a 21600000=a%21600000)∨(asZ a 21600000<0∧asZ a 21600000+21600000=a%21600000):=by
 have h1:=Int.mul_tdiv_add_tmod a 21600000;have h2:=AW a 21600000;have h3:=asJ a (show (0:Int)<21600000 by omega);have h4:=asJ (-a) (show (0:Int)<21600000 by omega);rw [Int.neg_tmod] at h4;omega
theorem rwrap_eq' (a:Int):pD a=a%21600000:=by
 have m0:=aiQ a (show (21600000:Int)≠0 by omega);have m1:=agQ a (show (0:Int)<21600000 by omega);unfold pD;rcases tmod_emod' a with ⟨h,h'⟩ | ⟨h1,h2⟩
 ·rw [decide_eq_false h,cond_false,h']
 ·rw [decide_eq_true h1,cond_true,bR (by omega),h2]
theorem rsg_ok (a:Int):-10800000≤sG a∧sG a<10800000∧∃q:Int,a=sG a+21600000*q:=by
 have m0:=aiQ a (show (21600000:Int)≠0 by omega);have m1:=agQ a (show (0:Int)<21600000 by omega);unfold sG;rw [rwrap_eq'];by_cases h:a%21600000≥10800000
 ·rw [decide_eq_true h,cond_true,bR (by omega)];exact ⟨by omega,by omega,a/21600000+1,by omega⟩
 ·rw [decide_eq_false h,cond_false];exact ⟨by omega,by omega,a/21600000,by omega⟩
theorem rtri_is (a b c d e f:Int):rtriM a b c d e f=dV a b c d e f:=by
 have rv:∀a b:Int,KW a b=aE a b:=fun a b=>by
  unfold KW aE;by_cases h1:a≤b
  ·by_cases h2:a≥-1099511627776
   ·rw [decide_eq_true h1,decide_eq_true h2];simp only [cond_true];by_cases h3:b≤1099511627776
    ·rw [decide_eq_true h3];simp;omega
    ·rw [decide_eq_false h3];simp;omega
   ·rw [decide_eq_true h1,decide_eq_false h2];simp;omega
  ·rw [decide_eq_false h1];simp;omega
 have rl:∀a b:Int,AQ a b=gK a b:=fun a b=>by
  unfold AQ gK aE;by_cases h1:a≤b
  ·by_cases h2:a≥-5400000
   ·rw [decide_eq_true h1,decide_eq_true h2];simp only [cond_true];by_cases h3:b≤5400000
    ·rw [decide_eq_true h3];simp;omega
    ·rw [decide_eq_false h3];simp
   ·rw [decide_eq_true h1,decide_eq_false h2];simp
  ·rw [decide_eq_false h1];simp;omega
 unfold rtriM dV;rw [rl,rl,rv];cases gK a b<;>cases gK c d<;>rfl
theorem UO {a b c d:Int} {e f h:Rat} (v1:aE a b=true) (v2:aE c d=true) (k1:Hs e a b h) (k2:Hs f c d h) (he:e+f<1):(cR a b c d).2.2=0:=by
 have b1:=cG v1;have b2:=cG v2;have m:=k1.meet k2 he;unfold cR;rw [if_pos ⟨v1,v2⟩,if_neg];unfold mx mn;split<;>split<;>omega
theorem same_up {h h' A:Rat} (a0:-5400000≤h) (a1:h≤5400000) (b0:-5400000≤h') (b1:h'≤5400000) (k:Cl (5*e0) (si h) A) (l:Cl (5*e0) (si h') A):Cl (1/2^60) h h':=by
 have e:=dY;have ek:=gT;have sq:∀p q:Rat,-5400000≤p→p≤q→q≤5400000→Cl (10*e0) (si p) (si q)→q-p≤1/2^60:=fun p q g0 g1 g2 g3=>by
  have g:=JE g0 g1 g2;have:(q-p)*(q-p)≤1/2^120:=by unfold Cl at g3;grind
  have:=gX (f:=1/2^60) (by grind) this (by grind);exact this.2
 unfold Cl at k l ⊢;rcases (Rat.le_total:h≤h'∨h'≤h) with g | g
 ·have:=sq h h' a0 g b1 (by unfold Cl;constructor<;>grind);constructor<;>grind
 ·have:=sq h' h b0 g a1 (by unfold Cl;constructor<;>grind);constructor<;>grind
theorem side_law {x y t c q1 q2:Int} {h z:Rat} (hx:gK x x=true) (hy:gK y y=true) (c0:0≤c) (c1:c≤10800000) (hc:∃q:Int,t=c+21600000*q∨t=-c+21600000*q) (s:dE (x:Rat) (y:Rat) (t:Rat) h z) (hq:gK q1 q2=true) (k:Hs dS q1 q2 h):
  ∃lo hi:Int,NV (5400000-x) (5400000-x) (5400000-y) (5400000-y) c c=(lo,hi,0)∧(cR lo hi (5400000-q2) (5400000-q1)).2.2=0:=by
 have lx:=bW hx;have ly:=bW hy;have lq:=bW hq;have mk:∀a:Int,0≤a→a≤10800000→wD a a=true:=fun a a0 a1=>by
  unfold wD;rw [aR (by omega) (abJ a) (by omega),decide_eq_true (show a≥0 from a0),decide_eq_true a1];rfl
 have sa:=mk (5400000-x) (by omega) (by omega);have sb:=mk (5400000-y) (by omega) (by omega);have vc:aE c c=true:=aR (by omega) (abJ c) (by omega);have ex:((5400000-x:Int):Rat)=5400000-(x:Rat):=by rw [abZ];rfl
 have ey:((5400000-y:Int):Rat)=5400000-(y:Rat):=by rw [abZ];rfl
 obtain ⟨h',z',s'⟩:=vW (5400000-((5400000-x:Int):Rat)) (5400000-((5400000-y:Int):Rat)) (c:Rat);have hT:=tri_sees s';obtain ⟨b0,b1,_,_,l1,_,_⟩:=s';obtain ⟨a0,a1,_,_,k1,_,_⟩:=s;have S:=sid_v (A:=5400000-h') ⟨by omega,abJ _,by omega⟩ ⟨by omega,abJ _,by omega⟩ vc (Hs.at (abJ (5400000-x)) (abJ _)) (Hs.at (abJ (5400000-y)) (abJ _)) (Hs.at (abJ c) (abJ c)) ⟨by grind,by grind⟩ hT;obtain ⟨q1',q2',q3,q4,kA⟩:=S;have eS:=hsid_ok sa sb vc;generalize eY (kP (5400000-x) (5400000-x) (5400000-y) (5400000-y) c c).1 (kP (5400000-x) (5400000-x) (5400000-y) (5400000-y) c c).2.1=R at*;refine ⟨R.1,R.2.1,?_,?_⟩
 ·rw [eS];unfold sidE;rw [if_neg (by rw [q1'];simp)]
 ·
  have cb:co (c:Rat)=co (t:Rat):=by
   obtain ⟨q,hq | hq⟩:=hc
   ·rw [hq,acQ,acX];exact ((eQ (c:Rat) q).1).symm
   ·rw [hq,acQ,acX,Rat.intCast_neg];have e1:=(eQ (-(c:Rat)) q).1;rw [show ((21600000:Int):Rat)=21600000 by rfl,e1];by_cases h:c=10800000
    ·rw [h,show ((10800000:Int):Rat)=10800000 by rfl];have e2:=(eQ (-(10800000:Rat)) 1).1;rw [show ((1:Int):Rat)=1 by rfl,show -(10800000:Rat)+21600000*1=10800000 by grind] at e2;exact e2
    ·have g0:=aV c0;have g1:=xD (show c<10800000 by omega);rw [show ((0:Int):Rat)=0 by rfl] at g0;rw [show ((10800000:Int):Rat)=10800000 by rfl] at g1;exact ((gL (q:=(c:Rat)) (by grind) (by grind)).2).symm
  have eu:gJ (5400000-((5400000-x:Int):Rat)) (5400000-((5400000-y:Int):Rat)) (c:Rat)=gJ (x:Rat) (y:Rat) (t:Rat):=by
   rw [ex,ey,show 5400000-(5400000-(x:Rat))=(x:Rat) by grind,show 5400000-(5400000-(y:Rat))=(y:Rat) by grind];unfold gJ;rw [cb]
  rw [eu] at l1;have sm:=same_up a0 a1 b0 b1 k1 l1;have p590:pw 590≤1/2^60:=by decide+kernel
  have ds:dS≤1/2^60:=by decide+kernel
  refine UO (e:=1/2^59) (f:=1/2^59) (h:=5400000-h) (aR (by omega) q3 (by omega)) (aR (by omega) (by omega) (by omega)) ?_ ?_ (by grind)
  ·unfold Hs Cl at*;constructor<;>grind
  ·unfold Hs at*;rw [abZ,abZ,show ((5400000:Int):Rat)=5400000 by rfl];constructor<;>grind
theorem tm_law {X Y T:Int} (hv:dV X X Y Y T T=true):∃(h z:Rat) (q:jW),dE (X:Rat) (Y:Rat) (T:Rat) h z∧zI X X Y Y T T=(q.1,q.2.1,q.2.2.1,q.2.2.2,0)∧Gd h z q∧4≤(xA X X Y Y T T).length∧(-5400000≤q.1∧q.2.1≤5400000)∧
  (∀s∈xA X X Y Y T T++[q],Gd h z s∧pT q.1 q.2.1 s.1 s.2.1=true)∧
  (∃d1 d2 l1 l2:Int,bakM X X q.1 q.2.1 q.2.2.1 q.2.2.2=(d1,d2,l1,l2,0)∧d1≤Y∧Y≤d2∧oP l1 l2 T T=(true,0))∧
  (∃s1 s2 s3 s4 e:Int,klk X X Y Y T T=(s1,s2,s3,s4,e)∧e≠1∧(e=0→oP s3 s4 q.2.2.1 q.2.2.2=(true,0)∧(cR s1 s2 q.1 q.2.1).2.2=0))∧
  (-10800000≤sG T∧sG T<10800000)∧
  (∃lo hi:Int,NV (5400000-X) (5400000-X) (5400000-Y) (5400000-Y) (mx (sG T) (-sG T)) (mx (sG T) (-sG T))=(lo,hi,0)∧(cR lo hi (5400000-q.2.1) (5400000-q.1)).2.2=0):=by
 obtain ⟨h1,h2,h3⟩:=gA hv;have lx:=bW h1;have ly:=bW h2;have lt':=cG h3;obtain ⟨t1,t2,t3⟩:=OW hv;obtain ⟨h,z,hs⟩:=vW (X:Rat) (Y:Rat) (T:Rat);have hgood:=UL hv t1 t2 t3 hs;obtain ⟨q,hq,gq,hin⟩:=MV hv t1 t2 t3 hs;have vq:=jV gq.val;have bq:=cG vq.1;have dq:=cG vq.2.1;obtain ⟨H,Z,ec,_,hc⟩:=uG hv;have mem:((H.1,H.2.1,Z.1,Z.2.1):jW)∈xA X X Y Y T T:=by
  refine by_mem 1 (by omega) (by omega) ?_;have:byM 1 X X Y Y T T=(H.1,H.2.1,Z.1,Z.2.1,0):=by
   unfold byM;rw [if_pos rfl];unfold by1 MY;rw [ec];rfl
  rw [this];rfl
 have iq:=hin _ mem;dsimp only at iq;have lH:=hc.lat;have bl:-5400000≤q.1∧q.2.1≤5400000:=⟨by have:=lH.1;omega,by have:=lH.2.2.1;omega⟩;have lq:gK q.1 q.2.1=true:=CA bl.1 bq.2.1 bl.2;have ds:dS≤1/2^60:=by decide+kernel
 have r:=rsg_ok T;refine ⟨h,z,q,hs,hq,gq,hgood.1,bl,?_,?_,?_,⟨r.1,r.2.1⟩,?_⟩
 ·intro s hm;have gs:Gd h z s∧s.1≤q.1∧q.2.1≤s.2.1:=by
   rcases List.mem_append.1 hm with hm | hm
   ·exact ⟨hgood.2 s hm,hin s hm⟩
   ·rcases avX.1 hm with rfl | hm
    ·exact ⟨gq,abJ _,abJ _⟩
    ·cases hm
  refine ⟨gs.1,?_⟩;unfold pT;rw [vq.1,(jV gs.1.val).1,decide_eq_true (show q.1≥s.1 from gs.2.1),decide_eq_true gs.2.2];rfl
 ·obtain ⟨eb,bL,bD⟩:=bak_ok h1 lq vq.2.1;obtain ⟨b1,b2,b3,b4⟩:=back_hold h1 lq vq.2.1 t1 gq.up gq.az hs (by have:=aV ly.2.1;rwa [show ((-5400000:Int):Rat)=-5400000 by rfl] at this) (by have:=aV ly.2.2.2;rwa [show ((5400000:Int):Rat)=5400000 by rfl] at this);have dB4:=lvB.2.2.2.2.2.2.2.2.2.1;have dB0:=lvB.2.2.2.2.2.2.1;refine ⟨_,_,_,_,eb,?_,?_,?_⟩
  ·exact vM (e:=dB) (by unfold Hs at b2;grind) (by grind)
  ·exact vM (e:=dB) (by unfold Hs at b2;grind) (by grind)
  ·have t3':TB.Dr 0 T T (T:Rat):=⟨0,by rw [show ((0:Int):Rat)=0 by rfl,show (T:Rat)+21600000*0=(T:Rat) by grind];exact t3⟩;have n:=b4.agree t3' (by grind) b3.2.1 (abJ T);unfold oP;rw [if_pos ⟨b3.val,h3⟩,decide_eq_true n]
 ·obtain ⟨s1,s2,s3,s4,e,ek⟩:∃s1 s2 s3 s4 e,klk X X Y Y T T=(s1,s2,s3,s4,e):=⟨_,_,_,_,_,rfl⟩;obtain ⟨ne,hk⟩:=klk_ok hv;rw [ek] at ne;refine ⟨s1,s2,s3,s4,e,ek,ne,fun e0=>?_⟩;subst e0;obtain ⟨fo,b1,b2,tr⟩:=hk s1 s2 s3 s4 ek;obtain ⟨u1,u2⟩:=tr h z hs;have o:s1≤s2:=vM (e:=1/4) (by unfold Hs at u1;grind) (by grind);have v:aE s1 s2=true:=by
   have hb1:s1≤5400001:=vM (e:=1/2) (by unfold Hs at u1;rw [show ((5400001:Int):Rat)=5400001 by rfl];have:=hs.2.1;grind) (by grind);have hb2:-5400001≤s2:=vM (e:=1/2) (by unfold Hs at u1;rw [show ((-5400001:Int):Rat)=-5400001 by rfl];have:=hs.1;grind) (by grind);exact aR (by omega) o (by omega)
  have vz:aE s3 s4=true:=by unfold Fm4 at fo;exact aR (by omega) (by omega) (by omega)
  have n:=u2.agree gq.az (by grind) (cG vz).2.1 dq.2.1;refine ⟨?_,UO v vq.1 u1 gq.up (by grind)⟩;unfold oP;rw [if_pos ⟨vz,vq.2.1⟩,decide_eq_true n]
 ·refine side_law h1 h2 ?_ ?_ ?_ hs lq gq.up
  ·have:=OG (sG T) (-sG T);omega
  ·unfold mx;split<;>omega
  ·obtain ⟨k,hk⟩:=r.2.2;refine ⟨k,?_⟩;unfold mx;split<;>omega
end
section
open Ev
open Ev (lt)
def runG (E:List (TypeId×Nat)) (O:bJ) (g:FuncId) (args:List AV):Option (AV×Ev.cF):=evF aaZ E Cs O 20 6 g args [] [] fun v L=>some (v,gc [] v L)
theorem TM {E:List (TypeId×Nat)} {O:bJ} {g:FuncId} {args:List AV} {r:AV} {L':Ev.cF} {t:Option (AV×Ev.cF)} (hE:∀e∈E,nI aaZ e) (hO:aJ aaZ O) (ht:runG E O g args=t) (h:t=some (r,L')):fI aaZ g args [] r L':=by
 obtain ⟨v,L1,h1,h2⟩:=BS mixed hE GF hO 20 6 g _ _ _ _ _ (ht.trans h);simp only [afZ.injEq,Prod.mk.injEq] at h2;obtain ⟨rfl,rfl⟩:=h2;exact TN h1
def kCh0:bJ:=(234,zQ lvP (fun a b c=>.bool (oT a b c)))::[]
theorem FT:aJ aaZ kCh0:=(aA (oU yE) fE)
def chC_0 (r c:Int):List CV:=[.v (.int .i64 1),.v (.int .i64 (i64.wrap ((i64.wrap (2*r))+0))),.v (.int .i64 (i64.wrap ((i64.wrap (2*c))+0))),.v (.int .i64 1),.v (.int .i64 (i64.wrap ((i64.wrap (2*r))+0))),.v (.int .i64 (i64.wrap ((i64.wrap (2*c))+1))),.v (.int .i64 1),.v (.int .i64 (i64.wrap ((i64.wrap (2*r))+1))),.v (.int .i64 (i64.wrap ((i64.wrap (2*c))+0))),.v (.int .i64 1),.v (.int .i64 (i64.wrap ((i64.wrap (2*r))+1))),.v (.int .i64 (i64.wrap ((i64.wrap (2*c))+1)))]
theorem ch_0 (r c:Int) (hv:IH r c=true):fI aaZ 205 [.v (.agg ⟨[.int .i64 0,.int .i64 r,.int .i64 c]⟩)] [] (.t [.o [18,19] 3 0 4,.v (.int .i64 0)]) [([18,19],⟨chC_0 r c,197⟩)]:=by
 refine TM bV FT (t:=cond (!(oT 0 r c)) (some (.v (.tuple ⟨[.slice none 0 0,.int .i64 1]⟩),[])) (some (.t [.o [18,19] 3 0 4,.v (.int .i64 0)],[([18,19],⟨chC_0 r c,197⟩)]))) (by kernel_rfl) ?_;have e:oT 0 r c=IH r c:=rfl;rw [e,hv];rfl
def chC_1 (r c:Int):List CV:=[.v (.int .i64 2),.v (.int .i64 (i64.wrap ((i64.wrap (2*r))+0))),.v (.int .i64 (i64.wrap ((i64.wrap (2*c))+0))),.v (.int .i64 2),.v (.int .i64 (i64.wrap ((i64.wrap (2*r))+0))),.v (.int .i64 (i64.wrap ((i64.wrap (2*c))+1))),.v (.int .i64 2),.v (.int .i64 (i64.wrap ((i64.wrap (2*r))+1))),.v (.int .i64 (i64.wrap ((i64.wrap (2*c))+0))),.v (.int .i64 2),.v (.int .i64 (i64.wrap ((i64.wrap (2*r))+1))),.v (.int .i64 (i64.wrap ((i64.wrap (2*c))+1)))]
theorem ch_1 (r c:Int) (hv:II r c=true):fI aaZ 205 [.v (.agg ⟨[.int .i64 1,.int .i64 r,.int .i64 c]⟩)] [] (.t [.o [18,19] 3 0 4,.v (.int .i64 0)]) [([18,19],⟨chC_1 r c,197⟩)]:=by
 refine TM bV FT (t:=cond (!(oT 1 r c)) (some (.v (.tuple ⟨[.slice none 0 0,.int .i64 1]⟩),[])) (some (.t [.o [18,19] 3 0 4,.v (.int .i64 0)],[([18,19],⟨chC_1 r c,197⟩)]))) (by kernel_rfl) ?_;have e:oT 1 r c=II r c:=rfl;rw [e,hv];rfl
def chC_2 (r c:Int):List CV:=[.v (.int .i64 3),.v (.int .i64 (i64.wrap ((i64.wrap (2*r))+0))),.v (.int .i64 (i64.wrap ((i64.wrap (2*c))+0))),.v (.int .i64 3),.v (.int .i64 (i64.wrap ((i64.wrap (2*r))+0))),.v (.int .i64 (i64.wrap ((i64.wrap (2*c))+1))),.v (.int .i64 3),.v (.int .i64 (i64.wrap ((i64.wrap (2*r))+1))),.v (.int .i64 (i64.wrap ((i64.wrap (2*c))+0))),.v (.int .i64 3),.v (.int .i64 (i64.wrap ((i64.wrap (2*r))+1))),.v (.int .i64 (i64.wrap ((i64.wrap (2*c))+1)))]
theorem ch_2 (r c:Int) (hv:IJ r c=true):fI aaZ 205 [.v (.agg ⟨[.int .i64 2,.int .i64 r,.int .i64 c]⟩)] [] (.t [.o [18,19] 3 0 4,.v (.int .i64 0)]) [([18,19],⟨chC_2 r c,197⟩)]:=by
 refine TM bV FT (t:=cond (!(oT 2 r c)) (some (.v (.tuple ⟨[.slice none 0 0,.int .i64 1]⟩),[])) (some (.t [.o [18,19] 3 0 4,.v (.int .i64 0)],[([18,19],⟨chC_2 r c,197⟩)]))) (by kernel_rfl) ?_;have e:oT 2 r c=IJ r c:=rfl;rw [e,hv];rfl
def chC_3 (r c:Int):List CV:=[.v (.int .i64 4),.v (.int .i64 (i64.wrap ((i64.wrap (2*r))+0))),.v (.int .i64 (i64.wrap ((i64.wrap (2*c))+0))),.v (.int .i64 4),.v (.int .i64 (i64.wrap ((i64.wrap (2*r))+0))),.v (.int .i64 (i64.wrap ((i64.wrap (2*c))+1))),.v (.int .i64 4),.v (.int .i64 (i64.wrap ((i64.wrap (2*r))+1))),.v (.int .i64 (i64.wrap ((i64.wrap (2*c))+0))),.v (.int .i64 4),.v (.int .i64 (i64.wrap ((i64.wrap (2*r))+1))),.v (.int .i64 (i64.wrap ((i64.wrap (2*c))+1)))]
theorem ch_3 (r c:Int) (hv:IK r c=true):fI aaZ 205 [.v (.agg ⟨[.int .i64 3,.int .i64 r,.int .i64 c]⟩)] [] (.t [.o [18,19] 3 0 4,.v (.int .i64 0)]) [([18,19],⟨chC_3 r c,197⟩)]:=by
 refine TM bV FT (t:=cond (!(oT 3 r c)) (some (.v (.tuple ⟨[.slice none 0 0,.int .i64 1]⟩),[])) (some (.t [.o [18,19] 3 0 4,.v (.int .i64 0)],[([18,19],⟨chC_3 r c,197⟩)]))) (by kernel_rfl) ?_;have e:oT 3 r c=IK r c:=rfl;rw [e,hv];rfl
def chP (l r c:Int):Bool:=decide (0≤l∧l≤3)&&oT l r c
def chC (l r c:Int):List CV:=cond (l==0) (chC_0 r c) (cond (l==1) (chC_1 r c) (cond (l==2) (chC_2 r c) (chC_3 r c)))
def chE:Ent2
 | [.v (.agg ⟨[.int .i64 l,.int .i64 r,.int .i64 c]⟩)],[],nm=>some (chP l r c,.t [.o (18::19::nm) 3 0 4,.v (.int .i64 0)],[(18::19::nm,⟨chC l r c,197⟩)])
 | _,_,_=>none
theorem chE_ok (args:List AV) (L:Ev.cF) (nm:Nm) (b:Bool) (r:AV) (L':Ev.cF) (h:chE args L nm=some (b,r,L')) (hb:b=true):fI aaZ 205 args L r L':=by
 unfold chE at h;split at h
 ·rename_i l r c;cases h;unfold chP at hb;rw [Bool.and_eq_true] at hb;obtain ⟨h1,h2⟩:=hb;replace h1:=of_decide_eq_true h1;have h3:l=0∨l=1∨l=2∨l=3:=by omega
  rcases h3 with rfl | rfl | rfl | rfl
  ·exact vV (ch_0 r c h2) nm
  ·exact vV (ch_1 r c h2) nm
  ·exact vV (ch_2 r c h2) nm
  ·exact vV (ch_3 r c h2) nm
 ·cases h
end
section
open Ev
open Ev (lt)
def eSSif (p:Int→Int→Int→Int→Int→Int→Int→Int→Bool) (F:Int→Int→Int→Int→Int→Int→Int→Int→Value):zC
 | [.v (.agg ⟨[.int .i64 a,.int .i64 b,.int .i64 c,.int .i64 d]⟩),.v (.agg ⟨[.int .i64 e,.int .i64 f,.int .i64 u,.int .i64 v]⟩)],[]=>some (p a b c d e f u v,.v (F a b c d e f u v),[])
 | _,_=>none
theorem eSSif_ok {P:Program} {g:FuncId} {p:Int→Int→Int→Int→Int→Int→Int→Int→Bool} {F:Int→Int→Int→Int→Int→Int→Int→Int→Value} (h:∀a b c d e f u v,p a b c d e f u v=true→aH P g [.agg ⟨[.int .i64 a,.int .i64 b,.int .i64 c,.int .i64 d]⟩,.agg ⟨[.int .i64 e,.int .i64 f,.int .i64 u,.int .i64 v]⟩] (F a b c d e f u v)) (args:List AV) (L:Ev.cF) (z:Bool) (r:AV) (L':Ev.cF) (q:eSSif p F args L=some (z,r,L')) (hz:z=true):fI P g args L r L':=by
 unfold eSSif at q;split at q
 ·cases q;exact cS (h _ _ _ _ _ _ _ _ hz)
 ·cases q
theorem fitCell:nI aaZ (197,3):=by
 refine ⟨by kernel_rfl,fun xs ys r hx hy h w=>?_⟩;match xs,ys,hx,hy with
 | [x0,x1,x2],[y0,y1,y2],_,_=>
  obtain ⟨a,c,r1,rfl,rfl,h1,rfl⟩:=iO h;obtain ⟨b,d,r2,rfl,rfl,h2,rfl⟩:=iO h1;obtain ⟨e,f,r3,rfl,rfl,h3,rfl⟩:=iO h2;rw [yI] at h3;cases h3;have u3:=Tryz.underlying3;have a3:=Tryz.isAgg3;have z3:=Tryz.sizeOf3;have hS:aaZ.underlying 197=some (.struct (aaZ.fieldsOf 197)):=by kernel_rfl
  have hp:aaZ.stoodInHeld 197=false:=by kernel_rfl
  rw [run_equalIn_agg w 9999 197 _ _ hS hp];simp only [Program.fieldsOf,Tryz.underlying197];go_simp
  by_cases h1:a=c<;>by_cases h2:b=d<;>by_cases h3:e=f<;>simp [h1,h2,h3]
def Et:List (TypeId×Nat):=[(197,3),(23,2),(29,4)]
theorem Et_ok:∀e∈Et,nI aaZ e:=by
 intro e he;simp only [Et,avX,List.not_mem_nil,or_false] at he;rcases he with rfl | rfl | rfl
 ·exact fitCell
 ·exact fitArc
 ·exact fitSol
def bkA:bJ:=(201,zQ lvP (fun a b c=>nD (rboM a b c)))::(203,eSS (fun a b c d e f u v=>.bool (pinM a b c d e f u v)))::(232,zQ lvP (fun a b c=>pL (cpaM a b c)))::(234,zQ lvP (fun a b c=>.bool (oT a b c)))::(229,zQ lvP (fun a b c=>cU (VR a b c)))::(139,eS (fun a b c d=>.bool (vP a b c d)))::(264,eII (fun a b=>.int .i64 (ER a b)))::(262,rI (fun a b c d=>.int .i64 (ccvM a b c d)))::(135,eT (fun a b c d e f=>.bool (WD a b c d e f)))::(268,eTS (fun a b c d e f u v w x=>twoI (csidM a b c d e f u v w x)))::(285,rI (fun a b c d=>.bool (finM a b c d)))::(70,eP (fun a b=>.bool (fvaM a b)))::(65,eP (fun a b=>aP (aK a b)))::(66,eP (fun a b=>aP (aI a b)))::(67,rI (fun a b c d=>aP (bF a b c d)))::(45,rI (fun a b c d=>aP (gB a b c d)))::[]
theorem rN:aJ aaZ bkA:=(aA (oU rboM_gives) (aA (eSS_ok pinM_gives) (aA (oU cpaM_gives) (aA (oU yE) (aA (oU GZ) (aA (eS_ok EA) (aA (yG IA) (aA (dM ccvM_gives) (aA (lO DO) (aA (eTS_ok VY) (aA (dM finM_gives) (aA (dD fvaM_gives) (aA (dD (fun a b W _=>LB a b W)) (aA (dD (fun a b W _=>DL a b W)) (aA (dM jM) (aA (dM mR) fE))))))))))))))))
def ch2:xI:=[(205,chE)]
theorem yC:oA aaZ ch2:=oQ chE_ok BH
def plaA (a b c d:Int):AV:=.v (.agg ⟨[.int .i64 a,.int .i64 b,.int .i64 c,.int .i64 d]⟩)
def intA (a:Int):AV:=.v (.int .i64 a)
def runA (A:xI) (O:bJ) (lim d g:Nat) (args:List AV) (L:Ev.cF):Option (AV×Ev.cF):=evG aaZ Et Cs A O lim d g args L [] fun v L'=>some (v,gc (fQ L) v L')
end
section
open Ev
def gR (l:List Int):List CV:=l.map fun x=>.v (.int .i64 x)
def eqI:List CV→List Int→Bool
 | [],[]=>true
 | .v (.int .i64 a)::l,b::m=>cond (a==b) (eqI l m) false
 | _,_=>false
theorem eqI_eq:∀{l:List CV} {m:List Int},eqI l m=true→l=gR m
 | [],[],_=>rfl
 | .v (.int .i64 a)::l,b::m,h=>by
  unfold eqI at h;cases hb:(a==b) with
  | false=>rw [hb] at h;cases h
  | true=>
   rw [hb] at h;rw [eq_of_beq hb,eqI_eq (l:=l) h];rfl
 | [],_::_,h=>by simp [eqI] at h
theorem ren_ints (d:Nm) (l:List Int):(gR l).map (KK d)=gR l:=by
 unfold gR;rw [List.map_map];rfl
def litE (e n:Nat) (cs:List Int) (ty:Nat) (r:AV) (L':Ev.cF):Ent2
 | [.o d e' 0 n'],[(d',⟨cs',ty'⟩)],_=>cond (mZ d d'&&agJ e' e&&agJ n' n&&agJ ty' ty&&eqI cs' cs) (some (true,renA d r,TL d L')) none
 | _,_,_=>none
theorem FV {g e n:Nat} {cs:List Int} {ty:Nat} {r:AV} {L':Ev.cF} (hR:fI aaZ g [.o [] e 0 n] [([],⟨gR cs,ty⟩)] r L') (args:List AV) (L:Ev.cF) (nm:Nm) (b:Bool) (v:AV) (L2:Ev.cF) (h:litE e n cs ty r L' args L nm=some (b,v,L2)) (_:b=true):fI aaZ g args L v L2:=by
 unfold litE at h;split at h
 ·rename_i d e' n' d' cs' ty';cases hc:(mZ d d'&&agJ e' e&&agJ n' n&&agJ ty' ty&&eqI cs' cs) with
  | false=>rw [hc] at h;cases h
  | true=>
   rw [hc] at h;cases h;simp only [Bool.and_eq_true] at hc;obtain ⟨⟨⟨⟨h1,h2⟩,h3⟩,h4⟩,h5⟩:=hc;have e1:=gV.1 h1;have e2:e'=e:=adX h2;have e3:n'=n:=adX h3;have e4:ty'=ty:=adX h4;have e5:=eqI_eq h5;subst e1 e2 e3 e4 e5;have:=vV hR d;have q:TL d [([],(⟨gR cs,ty'⟩:Ev.kJ))]=[(d,⟨gR cs,ty'⟩)]:=by
    show [([]++d,(⟨(gR cs).map (KK d),ty'⟩:Ev.kJ))]=_;rw [ren_ints];rfl
   rw [q] at this;exact this
 ·cases h
def eqB:Bool→Bool→Bool
 | true,b=>b
 | false,true=>false
 | false,false=>true
theorem eqB_eq:∀{a b:Bool},eqB a b=true→a=b
 | true,true,_=>rfl
 | false,false,_=>rfl
def eqCV:CV→CV→Bool
 | .v (.int .i64 a),.v (.int .i64 b)=>a==b
 | .v (.bool a),.v (.bool b)=>eqB a b
 | .o n e i l,.o n' e' i' l'=>mZ n n'&&agJ e e'&&agJ i i'&&agJ l l'
 | _,_=>false
theorem eqCV_eq {x y:CV} (h:eqCV x y=true):x=y:=by
 unfold eqCV at h;split at h
 ·rw [eq_of_beq h]
 ·rw [eqB_eq h]
 ·simp only [Bool.and_eq_true] at h;rw [gV.1 h.1.1.1,adX h.1.1.2,adX h.1.2,adX h.2]
 ·cases h
def WI:List CV→List CV→Bool
 | [],[]=>true
 | x::l,y::m=>cond (eqCV x y) (WI l m) false
 | _,_=>false
theorem RB:∀{l m:List CV},WI l m=true→l=m
 | [],[],_=>rfl
 | x::l,y::m,h=>by
  unfold WI at h;cases hb:eqCV x y with
  | false=>rw [hb] at h;cases h
  | true=>rw [hb] at h;rw [eqCV_eq hb,RB (l:=l) h]
 | [],_::_,h=>by simp [WI] at h
 | _::_,[],h=>by simp [WI] at h
def eqAV:AV→AV→Bool
 | .v (.int .i64 a),.v (.int .i64 b)=>a==b
 | .v (.bool a),.v (.bool b)=>eqB a b
 | .o n e i l,.o n' e' i' l'=>mZ n n'&&agJ e e'&&agJ i i'&&agJ l l'
 | .t l,.t m=>WI l m
 | _,_=>false
theorem eqAV_eq {x y:AV} (h:eqAV x y=true):x=y:=by
 unfold eqAV at h;split at h
 ·rw [eq_of_beq h]
 ·rw [eqB_eq h]
 ·simp only [Bool.and_eq_true] at h;rw [gV.1 h.1.1.1,adX h.1.1.2,adX h.1.2,adX h.2]
 ·rw [RB h]
 ·cases h
def eqL:Ev.cF→Ev.cF→Bool
 | [],[]=>true
 | (n,⟨c,t⟩)::l,(n',⟨c',t'⟩)::m=>cond (mZ n n'&&agJ t t'&&WI c c') (eqL l m) false
 | _,_=>false
theorem eqL_eq:∀{l m:Ev.cF},eqL l m=true→l=m
 | [],[],_=>rfl
 | (n,⟨c,t⟩)::l,(n',⟨c',t'⟩)::m,h=>by
  unfold eqL at h;cases hb:(mZ n n'&&agJ t t'&&WI c c') with
  | false=>rw [hb] at h;cases h
  | true=>
   rw [hb] at h;simp only [Bool.and_eq_true] at hb;rw [gV.1 hb.1.1,adX hb.1.2,RB hb.2,eqL_eq (l:=l) h]
 | [],_::_,h=>by simp [eqL] at h
 | _::_,[],h=>by simp [eqL] at h
def isO:Option (AV×Ev.cF)→AV→Ev.cF→Bool
 | some (r,L),r',L'=>cond (eqAV r r') (eqL L L') false
 | none,_,_=>false
theorem isO_eq {o:Option (AV×Ev.cF)} {r:AV} {L:Ev.cF} (h:isO o r L=true):o=some (r,L):=by
 unfold isO at h;split at h
 ·rename_i r0 L0;cases hb:eqAV r0 r with
  | false=>rw [hb] at h;cases h
  | true=>rw [hb] at h;rw [eqAV_eq hb,eqL_eq h]
 ·cases h
theorem nC {A:xI} {O:bJ} {lim d g:Nat} {args:List AV} {L:Ev.cF} {r:AV} {L':Ev.cF} (hA:oA aaZ A) (hO:aJ aaZ O) (h:isO (runA A O lim d g args L) r L'=true):fI aaZ g args L r L':=by
 obtain ⟨v,L1,h1,h2⟩:=wM mixed Et_ok GF hA hO lim d g _ _ _ _ _ (isO_eq h);simp only [afZ.injEq,Prod.mk.injEq] at h2;obtain ⟨rfl,rfl⟩:=h2;exact TN h1
def mN:List Int:=[4,7,15,4,8,15,4,9,15,4,10,15,4,11,15,4,12,15,4,7,16,4,7,17,4,7,18,4,7,19,4,7,20,4,7,21,4,7,22,4,7,23,4,7,24,2,2,4,2,2,5,4,12,16,4,12,17,4,12,18,4,12,19,4,12,20,4,12,21,4,12,22,4,12,23,4,8,24,4,9,24,4,10,24,4,11,24,4,12,24]
def OP:List Int:=[2130706432,2147483648,3573547008,3590324224,3607101440,3623878656,3707764736,3724541952,3741319168,3758096384,4110417920,4127195136,4999610368,5033164800,5066719232,5100273664,5268045824,5301600256,5335154688,5368709120,6073352192,6090129408,6442450944,7012876288,7046430720,7079985152,7247757312,7281311744,7314866176,7348420608,7516192768,7532969984,7549747200,7566524416,7650410496,7667187712,7683964928,7700742144,8053063680,8069840896]
def tH:List Int:=[4,7,21,4,11,19,4,8,21,4,9,21,4,10,20,4,10,21,4,11,20,4,12,18,4,12,19,4,12,20]
def reg4:List Int:=[4,11,19,4,11,20,4,12,19,4,12,20]
def uB:List Int:=[0,0,0,0,3600000,3600000]
def uC:List Int:=[0,0,5400000,5400000,3600000,3600000]
end
end
end Go.Proofs.YtajpgkpdhcbngaaGreatDoor
