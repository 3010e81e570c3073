/-
  The reference's cosine formula, divided triangle, and rotation are the program's. The reference's haversines are the program's. The reference's half-angles are the program's. Sight reduction by a.
-/
import Derived.Test.YtmididlfnajhiaaGreatDoorU19
import Derived.Test.YtmididlfnajhiaaGreatDoorU15
import Derived.Test.YtmididlfnajhiaaGreatDoorU18
set_option maxRecDepth 100000
set_option maxHeartbeats 4000000
open Go.RowKit.Below renaming refl→acQ
open _root_.Int renaming emod_lt_of_pos→ahJ,emod_nonneg→ajQ,le_total→atQ,lt_or_le→akZ,mul_comm→akQ,mul_le_mul→aiX,mul_nonneg→aeZ,mul_one→atJ,natCast_add→aoJ
open Go.Lib renaming hid→aaQ
open _root_.List renaming mem_cons→bbX,mem_filterMap→awQ
open _root_.Nat renaming le_refl→aaX
open _root_.Option renaming some→afJ
open _root_.Rat renaming intCast_add→adQ
open Go.IntKind (i64 u64)
namespace Go.Proofs.YtmididlfnajhiaaGreatDoor
section
open Ev
open SM TB TA
open Ev (lt bJ)
namespace Hy
theorem SX {n r:Int} (h0:0≤r) (h2:n<(r+1)*(r+1)) (h:1073741824*1073741824≤n):1073741824≤r:=by
 rcases akZ r 1073741824 with q | q
 ·exfalso;have:=aiX (show r+1≤1073741824 by omega) (show r+1≤1073741824 by omega) (by omega) (by omega);omega
 ·exact q
theorem cap_lo (f:Int→Int) (hf:∀n,0≤n→n<9223372036854775808→0≤f n∧f n*f n≤n∧n<(f n+1)*(f n+1)) {x y:Int} (hx:0≤x∧x≤2147483648) (hy:0≤y∧y≤2147483648) (hb:x*x+y*y<9223372036854775808):
  min (f (min x 1073741824*min x 1073741824+min y 1073741824*min y 1073741824)) 1073741824=min (f (x*x+y*y)) 1073741824:=by
 have sq:∀z:Int,0≤z*z:=fun z=>by
  rcases atQ 0 z with h | h
  ·exact aeZ h h
  ·exact Int.mul_nonneg_of_nonpos_of_nonpos h h
 have big:∀z:Int,1073741824≤z→1073741824*1073741824≤z*z:=fun z h=>aiX h h (by omega) (by omega);have cap:∀z:Int,0≤z→min z 1073741824*min z 1073741824≤1152921504606846976:=fun z h=>by
  have:=aiX (show min z 1073741824≤1073741824 by omega) (show min z 1073741824≤1073741824 by omega) (by omega) (by omega);omega
 have a1:=sq x;have a2:=sq y;have a3:=sq (min x 1073741824);have a4:=sq (min y 1073741824);have c1:=cap x hx.1;have c2:=cap y hy.1;have s1:=hf (x*x+y*y) (by omega) hb;have s2:=hf (min x 1073741824*min x 1073741824+min y 1073741824*min y 1073741824) (by omega) (by omega);by_cases hbig:1073741824≤x∨1073741824≤y
 ·have g1:1073741824*1073741824≤x*x+y*y:=by
   rcases hbig with h | h
   ·have:=big x h;omega
   ·have:=big y h;omega
  have g2:1073741824*1073741824≤min x 1073741824*min x 1073741824+min y 1073741824*min y 1073741824:=by
   rcases hbig with h | h
   ·have:=big (min x 1073741824) (by omega);omega
   ·have:=big (min y 1073741824) (by omega);omega
  have r1:=SX s1.1 s1.2.2 g1;have r2:=SX s2.1 s2.2.2 g2;omega
 ·have e1:min x 1073741824=x:=by omega
  have e2:min y 1073741824=y:=by omega
  rw [e1,e2]
def IZ (f:Int→Int) (n:Int):Int:=if f n*f n<n then f n+1 else f n
theorem upr_ge (f:Int→Int) (n:Int):f n≤IZ f n:=by unfold IZ;split<;>omega
theorem cap_hi (f:Int→Int) (hf:∀n,0≤n→n<9223372036854775808→0≤f n∧f n*f n≤n∧n<(f n+1)*(f n+1)) {x y:Int} (hx:0≤x∧x≤2147483648) (hy:0≤y∧y≤2147483648) (hb:x*x+y*y<9223372036854775808):
  min (IZ f (min x 1073741824*min x 1073741824+min y 1073741824*min y 1073741824)) 1073741824=min (IZ f (x*x+y*y)) 1073741824:=by
 have sq:∀z:Int,0≤z*z:=fun z=>by
  rcases atQ 0 z with h | h
  ·exact aeZ h h
  ·exact Int.mul_nonneg_of_nonpos_of_nonpos h h
 have big:∀z:Int,1073741824≤z→1073741824*1073741824≤z*z:=fun z h=>aiX h h (by omega) (by omega);have cap:∀z:Int,0≤z→min z 1073741824*min z 1073741824≤1152921504606846976:=fun z h=>by
  have:=aiX (show min z 1073741824≤1073741824 by omega) (show min z 1073741824≤1073741824 by omega) (by omega) (by omega);omega
 have a1:=sq x;have a2:=sq y;have a3:=sq (min x 1073741824);have a4:=sq (min y 1073741824);have c1:=cap x hx.1;have c2:=cap y hy.1;have s1:=hf (x*x+y*y) (by omega) hb;have s2:=hf (min x 1073741824*min x 1073741824+min y 1073741824*min y 1073741824) (by omega) (by omega);by_cases hbig:1073741824≤x∨1073741824≤y
 ·have g1:1073741824*1073741824≤x*x+y*y:=by
   rcases hbig with h | h
   ·have:=big x h;omega
   ·have:=big y h;omega
  have g2:1073741824*1073741824≤min x 1073741824*min x 1073741824+min y 1073741824*min y 1073741824:=by
   rcases hbig with h | h
   ·have:=big (min x 1073741824) (by omega);omega
   ·have:=big (min y 1073741824) (by omega);omega
  have r1:=SX s1.1 s1.2.2 g1;have r2:=SX s2.1 s2.2.2 g2;have u1:=upr_ge f (x*x+y*y);have u2:=upr_ge f (min x 1073741824*min x 1073741824+min y 1073741824*min y 1073741824);omega
 ·have e1:min x 1073741824=x:=by omega
  have e2:min y 1073741824=y:=by omega
  rw [e1,e2]
end Hy
theorem rsne_eq {a b c d e f:Int} (h:cS a b c d e f=true):MH a b c d e f=((GF a b c d e f).1,(GF a b c d e f).2.1):=by
 obtain ⟨h1,h2,h3⟩:=eB h;have l1:=(bV h1).1;have l2:=(bV h2).1;have s1:=bG l1;have c1:=aU l1;have s2:=bG l2;have c2:=aU l2;have c3:=aU h3;have m1:=aR s1 s2;have k1:=aR c1 c2;have n1:=aR k1 c3;unfold MH;simp only [lt];rw [iX l1,iX l2,fG l1,fG l2,fG h3];dsimp only;rw [fQ s1.val s2.val,fQ c1.val c2.val];dsimp only;rw [fQ k1.val c3.val];dsimp only;rw [plus_eq m1.val n1.val];rfl
theorem ralt_eq {a b c d e f:Int} (h:cS a b c d e f=true):LW a b c d e f=((aV (GF a b c d e f).1 (GF a b c d e f).2.1).1,(aV (GF a b c d e f).1 (GF a b c d e f).2.1).2.1):=by
 unfold LW;simp only [lt];rw [rsne_eq h]
theorem razi_eq {a b c d e f:Int} (h:cS a b c d e f=true):LX a b c d e f=((aQ (NJ c d e f).1 (NJ c d e f).2.1 (NL a b c d e f).1 (NL a b c d e f).2.1).1,(aQ (NJ c d e f).1 (NJ c d e f).2.1 (NL a b c d e f).1 (NL a b c d e f).2.1).2.1):=by
 obtain ⟨h1,h2,h3⟩:=eB h;have l1:=(bV h1).1;have l2:=(bV h2).1;have s1:=bG l1;have c1:=aU l1;have s2:=bG l2;have c2:=aU l2;have s3:=bG h3;have c3:=aU h3;have y1:=aR c2 s3;have m1:=aR s2 c1;have k1:=aR c2 c3;have n1:=aR k1 s1;unfold LX;simp only [lt];rw [iX l1,iX l2,iX h3,fG l1,fG l2,fG h3];dsimp only;rw [fQ c2.val s3.val,fQ s2.val c1.val,fQ c2.val c3.val];dsimp only;rw [fQ k1.val s1.val,TT y1];dsimp only;rw [ZF m1.val n1.val];rfl
theorem rs25_eq {a b c d e f:Int} (h:cS a b c d e f=true):aAp a b c d e f=((iQ a b c d e f).1,(iQ a b c d e f).2.1,(iQ a b c d e f).2.2.1,(iQ a b c d e f).2.2.2.1)∧(iQ a b c d e f).2.2.2.2=0:=by
 obtain ⟨eH,eZ⟩:=OT h;obtain ⟨H,Z,hs,hA,hd⟩:=vM h;have e1:vJ a b c d e f=yF a b c d e f:=by unfold vJ zI;rw [h];rfl
 have e2:EX a b c d e f=yG a b c d e f:=by unfold EX JQ;rw [h];rfl
 have hs':=hs;have h0:(yF a b c d e f).2.2=0:=by
  rw [←e1,hA];exact hd.1.2.2.2
 unfold iQ zK at hs';simp only [lt] at hs';rw [e1,e2,h0] at hs';have z0:((0:Int) != 0)=false:=rfl;rw [z0,cond_false] at hs';cases hz:(yG a b c d e f).2.2 != 0 with
 | true=>
  rw [hz,cond_true] at hs';have k:(yG a b c d e f).2.2=0:=(congrArg (fun r:Int×Int×Int×Int×Int=>r.2.2.2.2) hs');rw [k] at hz;cases hz
 | false=>
  rw [hz,cond_false] at hs';rw [hs,←hs'];refine ⟨?_,rfl⟩;unfold aAp;simp only [lt];rw [ralt_eq h,razi_eq h,eH,eZ]
theorem rdvd_ok {a b c d e f:Int} (h:cS a b c d e f=true):CN a b c d e f=((pU c d e f).1,(pU c d e f).2.1)∧aA7 a b c d e f=((pV c d e f).1,(pV c d e f).2.1,(uO c d e f).1,(uO c d e f).2.1):=by
 obtain ⟨h1,h2,h3⟩:=eB h;have l2:=(bV h2).1;have w:CN a b c d e f=((pU c d e f).1,(pU c d e f).2.1):=by
  unfold CN;simp only [lt];rw [fG l2,iX h3];dsimp only;rw [fQ (aU l2).val (bG h3).val];rfl
 refine ⟨w,?_⟩;unfold aA7;simp only [lt];rw [w,fG l2,iX l2,fG h3];dsimp only;rw [fQ (aU l2).val (aU h3).val];rfl
theorem rsol_ok {a b c d e f:Int} (h:cS a b c d e f=true):aAs a b c d e f=((RD a b c d e f).1,(RD a b c d e f).2.1,(azE a b c d e f).1,(azE a b c d e f).2.1):=by
 obtain ⟨h1,h2,h3⟩:=eB h;have l1:=bV h1;obtain ⟨w,n,p,q⟩:=div_one h;obtain ⟨hv,hs,k1,k2,k3,k4,k5,k6,k7,k8⟩:=UF h;obtain ⟨ew,ed⟩:=rdvd_ok h;unfold aAs;simp only [lt];rw [ed,ew];dsimp only;have es:gQ (uO c d e f).1 (uO c d e f).2.1 a b=iU a b c d e f:=by
  obtain ⟨q1,q2,q3,_⟩:=q;rw [pP (by omega) q2 (by omega) (by omega) (by omega) (by omega)];rfl
 rw [es,fG p.val,fG hv,iX hv];dsimp only;have t1:dI (aN (pV c d e f).1 (pV c d e f).2.1).1 (aN (pV c d e f).1 (pV c d e f).2.1).2.1 (aN (iU a b c d e f).1 (iU a b c d e f).2).1 (aN (iU a b c d e f).1 (iU a b c d e f).2).2.1=((upM a b c d e f).1,(upM a b c d e f).2.1):=fQ k1.val k2.val;have t2:dI (aN (pV c d e f).1 (pV c d e f).2.1).1 (aN (pV c d e f).1 (pV c d e f).2.1).2.1 (aW (iU a b c d e f).1 (iU a b c d e f).2).1 (aW (iU a b c d e f).1 (iU a b c d e f).2).2.1=((noM a b c d e f).1,(noM a b c d e f).2.1):=fQ k1.val k3.val;rw [t1,t2,TT w];rfl
def aAk (a b c d:Int):Bool:=decide (-2147483648≤a∧a≤b∧b≤2147483648∧-1073741824≤c∧c≤d∧d≤1073741824)
def aA1 (a b c d e f:Int):Bool:=aG a b&&aAk c d e f
noncomputable def PV (a b c d e f:Int):Int×Int:=((alT a b (iV c d e f).1 (iV c d e f).2).1,(alT a b (iV c d e f).1 (iV c d e f).2).2.1)
noncomputable def rsolQ (a b c d e f:Int):Int×Int×Int×Int:=((BR a b c d e f).1,(BR a b c d e f).2.1,(PK a b c d e f).1,(PK a b c d e f).2.1)
noncomputable def kS250:aZ:=(99,eP (fun a b=>aL (aV a b)))::(100,nX (fun a b c d=>aD (dI a b c d).1 (dI a b c d).2))::(101,eP (fun a b=>aD (eE a b).1 (eE a b).2))::(102,nX (fun a b c d=>aL (aQ a b c d)))::(103,eP (fun a b=>aD (qH a b).1 (qH a b).2))::(105,eP (fun a b=>aD (gV a b).1 (gV a b).2))::(116,nX (fun a b c d=>aD (rJ a b c d).1 (rJ a b c d).2))::(117,nX (fun a b c d=>aD (lY a b c d).1 (lY a b c d).2))::(177,nX (fun a b c d=>aD (tL a b c d).1 (tL a b c d).2))::(214,eIif QB (fun a=>.int .i64 (bO a)))::(215,eI (fun a=>.int .i64 (dJ a)))::(216,eP (fun a b=>.int .i64 (iW a b)))::(217,eP (fun a b=>.int .i64 (gK a b)))::[]
theorem YL:aJ Tryz.prog kS250:=(aA (cF (fun a b W _=>TK a b W)) (aA (cH tT) (aA (cF qG) (aA (cH rbear) (aA (cF FT) (aA (cF wS) (aA (cH FI) (aA (cH tA) (aA (cH TQ) (aA (RU TV) (aA (FA aA4) (aA (cF TS) (aA (cF aAg) cO)))))))))))))
theorem rhyp_gives (a b c d:Int) (hp:aAk a b c d=true):aH Tryz.prog 176 [.agg ⟨[.int .i64 a,.int .i64 b]⟩,.agg ⟨[.int .i64 c,.int .i64 d]⟩] (aD (iV a b c d).1 (iV a b c d).2):=by
 refine aE bK YL (t:=cond (QB (i64.wrap ((i64.wrap ((dJ (iW a b))*(dJ (iW a b))))+(i64.wrap ((dJ (iW c d))*(dJ (iW c d))))))) (cond (QB (i64.wrap ((i64.wrap ((dJ (gK a b))*(dJ (gK a b))))+(i64.wrap ((dJ (gK c d))*(dJ (gK c d))))))) (cond (decide (i64.wrap ((bO (i64.wrap ((i64.wrap ((dJ (gK a b))*(dJ (gK a b))))+(i64.wrap ((dJ (gK c d))*(dJ (gK c d)))))))*(bO (i64.wrap ((i64.wrap ((dJ (gK a b))*(dJ (gK a b))))+(i64.wrap ((dJ (gK c d))*(dJ (gK c d))))))))<i64.wrap ((i64.wrap ((dJ (gK a b))*(dJ (gK a b))))+(i64.wrap ((dJ (gK c d))*(dJ (gK c d))))))) (some (.v (.agg ⟨[.int .i64 (dJ (bO (i64.wrap ((i64.wrap ((dJ (iW a b))*(dJ (iW a b))))+(i64.wrap ((dJ (iW c d))*(dJ (iW c d)))))))),.int .i64 (dJ (i64.wrap ((bO (i64.wrap ((i64.wrap ((dJ (gK a b))*(dJ (gK a b))))+(i64.wrap ((dJ (gK c d))*(dJ (gK c d)))))))+1)))]⟩))) (some (.v (.agg ⟨[.int .i64 (dJ (bO (i64.wrap ((i64.wrap ((dJ (iW a b))*(dJ (iW a b))))+(i64.wrap ((dJ (iW c d))*(dJ (iW c d)))))))),.int .i64 (dJ (bO (i64.wrap ((i64.wrap ((dJ (gK a b))*(dJ (gK a b))))+(i64.wrap ((dJ (gK c d))*(dJ (gK c d))))))))]⟩)))) (none)) (none)) (by kernel_rfl) ?_;obtain ⟨h1,h2,h3,h4,h5,h6⟩:=of_decide_eq_true hp;have n1:=BV h2;have n2:=BV h5;have eX:dJ (iW a b)=min (gL a b) 1073741824:=by rw [aAm h1 h2 h3,tJ]
 have eY:dJ (iW c d)=min (gL c d) 1073741824:=by rw [aAm (by omega) h5 (by omega),tJ]
 have eU:dJ (gK a b)=min (eW a b) 1073741824:=by rw [rfar_eq h1 h2 h3,tJ]
 have eV:dJ (gK c d)=min (eW c d) 1073741824:=by rw [rfar_eq (by omega) h5 (by omega),tJ]
 have hf:∀n,0≤n→n<9223372036854775808→0≤bO n∧bO n*bO n≤n∧n<(bO n+1)*(bO n+1):=fun n p q=>CB p (by omega);have s1:=fY (x:=gL a b) (m:=2147483648) n1.1 (by omega);have s2:=fY (x:=gL c d) (m:=1073741824) n2.1 (by omega);have s3:=fY (x:=eW a b) (m:=2147483648) (by omega) (by omega);have s4:=fY (x:=eW c d) (m:=1073741824) (by omega) (by omega);have c1:=Hy.cap_lo bO hf (x:=gL a b) (y:=gL c d) ⟨n1.1,by omega⟩ ⟨n2.1,by omega⟩ (by omega);have c2:=Hy.cap_hi bO hf (x:=eW a b) (y:=eW c d) ⟨by omega,by omega⟩ ⟨by omega,by omega⟩ (by omega);have eH:iV a b c d=(min (bO (min (gL a b) 1073741824*min (gL a b) 1073741824+min (gL c d) 1073741824*min (gL c d) 1073741824)) 1073741824,min (Hy.IZ bO (min (eW a b) 1073741824*min (eW a b) 1073741824+min (eW c d) 1073741824*min (eW c d) 1073741824)) 1073741824):=by
  rw [hyp_eq h1 h2 h3 h4 h5 h6,c1,c2];rfl
 rw [eX,eY,eU,eV,eH];have bx:0≤min (gL a b) 1073741824∧min (gL a b) 1073741824≤1073741824:=by omega
 have by':0≤min (gL c d) 1073741824∧min (gL c d) 1073741824≤1073741824:=by omega
 have bu:0≤min (eW a b) 1073741824∧min (eW a b) 1073741824≤1073741824:=by omega
 have bv:0≤min (eW c d) 1073741824∧min (eW c d) 1073741824≤1073741824:=by omega
 clear eX eY eU eV eH c1 c2 s1 s2 s3 s4 n1 n2 hf;generalize min (gL a b) 1073741824=x at*;generalize min (gL c d) 1073741824=y at*;generalize min (eW a b) 1073741824=u at*;generalize min (eW c d) 1073741824=v at*;have s1:=fY (x:=x) (m:=1073741824) bx.1 bx.2;have s2:=fY (x:=y) (m:=1073741824) by'.1 by'.2;have s3:=fY (x:=u) (m:=1073741824) bu.1 bu.2;have s4:=fY (x:=v) (m:=1073741824) bv.1 bv.2;rw [aX (x:=x*x) (by omega),aX (x:=y*y) (by omega),aX (x:=u*u) (by omega),aX (x:=v*v) (by omega),aX (x:=x*x+y*y) (by omega),aX (x:=u*u+v*v) (by omega)];have p1:QB (x*x+y*y)=true:=decide_eq_true ⟨by omega,by omega⟩;have p2:QB (u*u+v*v)=true:=decide_eq_true ⟨by omega,by omega⟩;rw [p1,p2,cond_true,cond_true];have r:=CB (n:=u*u+v*v) (by omega) (by omega);have z0:=aeZ r.1 r.1;have hm:u*u+v*v≤2305843009213693952:=by omega
 generalize u*u+v*v=m at*;generalize x*x+y*y=n at*;have k:bO m<4294967296:=by
  rcases akZ (bO m) 4294967296 with h | h
  ·exact h
  ·have:=fY (x:=4294967296) (m:=bO m) (by omega) h;omega
 rw [aX (x:=bO m*bO m) (by omega),aX (x:=bO m+1) (by omega),tJ,tJ,tJ];unfold Hy.IZ;by_cases c:bO m*bO m<m
 ·rw [fE c,if_pos c];rfl
 ·rw [fI c,if_neg c];rfl
noncomputable def kS251:aZ:=(176,PA aAk (fun a b c d=>aD (iV a b c d).1 (iV a b c d).2))::kS250
theorem YM:aJ Tryz.prog kS251:=(aA (BF rhyp_gives) YL)
theorem ZY (a b c d e f:Int) (hp:aA1 a b c d e f=true):aH Tryz.prog 118 [.agg ⟨[.int .i64 a,.int .i64 b]⟩,.agg ⟨[.int .i64 c,.int .i64 d]⟩,.agg ⟨[.int .i64 e,.int .i64 f]⟩] (aD (PV a b c d e f).1 (PV a b c d e f).2):=by
 refine aE bK YM (t:=lt (aV a b) fun x1=>lt (iV c d e f) fun x2=>cond (aAk c d e f) (lt (aQ a b x2.1 x2.2) fun x3=>cond (decide (i64.wrap (x3.2.1-x3.1)≥21600000)) (some (.v (.agg ⟨[.int .i64 x1.1,.int .i64 x1.2.1]⟩))) (cond (decide (x3.1≥10800000)) (lt (tL x1.1 x1.2.1 (i64.wrap (x3.1-21600000)) (i64.wrap (x3.2.1-21600000))) fun x4=>some (.v (.agg ⟨[.int .i64 x4.1,.int .i64 x4.2]⟩))) (lt (tL x1.1 x1.2.1 x3.1 x3.2.1) fun x5=>some (.v (.agg ⟨[.int .i64 x5.1,.int .i64 x5.2]⟩))))) (none)) (by kernel_rfl) ?_;obtain ⟨hv,hq⟩:=(Bool.and_eq_true _ _).mp hp;obtain ⟨h1,h2,h3,h4,h5,h6⟩:=of_decide_eq_true hq;have K:=hyp_bd h1 h2 h3 h4 h5 h6;simp only [lt];rw [hq,cond_true];unfold PV;generalize iV c d e f=k at*;obtain ⟨k1,k2⟩:=k;dsimp only at*;have kv:aG k1 k2=true:=dH (by omega) (by omega) (by omega);have D:=jJ hv kv;unfold alT;cases ho:cM a b k1 k2 with
 | true=>
  have e:aQ a b k1 k2=(0,21600000,0):=by
   unfold aQ;rw [hv,kv,ho];rfl
  rw [e];rfl
 | false=>
  have B:=yZ hv kv K.1 ho;obtain ⟨d1,d2,d3,d4,d5⟩:=D;generalize aQ a b k1 k2=r at*;rw [aX (x:=r.2.1-r.1) (by omega),fI (show ¬r.2.1-r.1≥21600000 by omega),cond_false,if_neg (by simp)];unfold GK;by_cases c:r.1≥10800000
  ·rw [fE c,cond_true,if_pos (show 10800000≤r.1 from c),aX (x:=r.1-21600000) (by omega),aX (x:=r.2.1-21600000) (by omega),aAl];rfl
  ·rw [fI c,cond_false,if_neg (show ¬10800000≤r.1 from c),aAl];rfl
noncomputable def kS252:aZ:=(118,ePPPif aA1 (fun a b c d e f=>aD (PV a b c d e f).1 (PV a b c d e f).2))::kS251
theorem kS252_ok:aJ Tryz.prog kS252:=(aA (ePPPif_ok ZY) YM)
theorem TY (a b c d e f:Int) (hp:cS a b c d e f=true):aH Tryz.prog 47 [.agg ⟨[.int .i64 a,.int .i64 b,.int .i64 c,.int .i64 d,.int .i64 e,.int .i64 f]⟩] (OB (rsolQ a b c d e f)):=by
 refine aE bK kS252_ok (t:=lt (eE a b) fun x1=>lt (gV a b) fun x2=>lt (eE c d) fun x3=>lt (eE e f) fun x4=>lt (dI x3.1 x3.2 x4.1 x4.2) fun x5=>lt (gV e f) fun x6=>lt (dI x3.1 x3.2 x6.1 x6.2) fun x7=>lt (gV c d) fun x8=>lt (dI x5.1 x5.2 x1.1 x1.2) fun x9=>lt (dI x8.1 x8.2 x2.1 x2.2) fun x10=>lt (rJ x9.1 x9.2 x10.1 x10.2) fun x11=>lt (dI x8.1 x8.2 x1.1 x1.2) fun x12=>lt (dI x5.1 x5.2 x2.1 x2.2) fun x13=>lt (lY x12.1 x12.2 x13.1 x13.2) fun x14=>lt (qH x7.1 x7.2) fun x15=>lt (aQ x15.1 x15.2 x14.1 x14.2) fun x16=>lt (PV x11.1 x11.2 x14.1 x14.2 x7.1 x7.2) fun x17=>cond (aA1 x11.1 x11.2 x14.1 x14.2 x7.1 x7.2) (some (.v (.agg ⟨[.int .i64 x17.1,.int .i64 x17.2,.int .i64 x16.1,.int .i64 x16.2.1]⟩))) (none)) (by kernel_rfl) ?_;obtain ⟨h1,h2,h3⟩:=eB hp;have l1:=(bV h1).1;have l2:=(bV h2).1;have s1:=bG l1;have c1:=aU l1;have s2:=bG l2;have c2:=aU l2;have s3:=bG h3;have c3:=aU h3;simp only [lt];rw [iX l1,fG l1,iX l2,fG l2,iX h3,fG h3];dsimp only;rw [fQ c2.val c3.val,fQ c2.val s3.val];have exE:bT (aN c d).1 (aN c d).2.1 (aN e f).1 (aN e f).2.1=xE c d e f:=rfl;have ewE:bT (aN c d).1 (aN c d).2.1 (aW e f).1 (aW e f).2.1=wE c d e f:=rfl;have xo:fJ (xE c d e f):=aR c2 c3;have wo:fJ (wE c d e f):=aR c2 s3;rw [exE,ewE];dsimp only;rw [fQ xo.val c1.val,fQ s2.val s1.val,fQ s2.val c1.val,fQ xo.val s1.val];dsimp only;have m1:=aR xo c1;have m2:=aR s2 s1;have m3:=aR s2 c1;have m4:=aR xo s1;have a1:=uX m1 m2;have a2:=CJ m3 m4;rw [plus_eq m1.val m2.val,ZF m3.val m4.val,TT wo];dsimp only;have eu:fS (bT (xE c d e f).1 (xE c d e f).2.1 (aN a b).1 (aN a b).2.1).1 (bT (xE c d e f).1 (xE c d e f).2.1 (aN a b).1 (aN a b).2.1).2.1 (bT (aW c d).1 (aW c d).2.1 (aW a b).1 (aW a b).2.1).1 (bT (aW c d).1 (aW c d).2.1 (aW a b).1 (aW a b).2.1).2.1=fP a b c d e f:=rfl;have en:mQ (bT (aW c d).1 (aW c d).2.1 (aN a b).1 (aN a b).2.1).1 (bT (aW c d).1 (aW c d).2.1 (aN a b).1 (aN a b).2.1).2.1 (bT (xE c d e f).1 (xE c d e f).2.1 (aW a b).1 (aW a b).2.1).1 (bT (xE c d e f).1 (xE c d e f).2.1 (aW a b).1 (aW a b).2.1).2.1=yB a b c d e f:=rfl;have eg:mK (wE c d e f).1 (wE c d e f).2.1=ZB c d e f:=rfl;have vu:aG (fP a b c d e f).1 (fP a b c d e f).2.1=true:=by
  rw [←eu,a1.1];exact a1.2
 have vn:aG (yB a b c d e f).1 (yB a b c d e f).2.1=true:=by
  rw [←en,a2.1];exact a2.2
 rw [eu,en,eg];have pv:aA1 (fP a b c d e f).1 (fP a b c d e f).2.1 (yB a b c d e f).1 (yB a b c d e f).2.1 (wE c d e f).1 (wE c d e f).2.1=true:=by
  have q:=fR vn;unfold aA1 aAk;rw [vu,fE ⟨q.1,q.2.1,q.2.2,wo.1,wo.2.1,wo.2.2.1⟩];rfl
 rw [pv,cond_true];rfl
end
section
open Ev
open SM TB TA
open Ev (lt bJ)
noncomputable def angP (a b c d e f u v:Int):Bool:=cS a b c d e f&&decide (0≤u∧u≤v∧v≤10800000)
theorem ang6_bd {a b c d e f u v:Int} (h:angP a b c d e f u v=true):cS a b c d e f=true∧0≤u∧u≤v∧v≤10800000:=by
 unfold angP at h;rw [Bool.and_eq_true] at h;exact ⟨h.1,of_decide_eq_true h.2⟩
theorem ahav_err {x y:Int} (hv:aG x y=true):(dN x y).2.2=0∨dN x y=(0,0,2):=by
 have b:=fR hv;unfold dN;rw [hv];simp only [Bool.true_eq_false,if_false];by_cases h:max x 0≤min y 1073741824
 ·rw [if_pos h];left;rw [acosR_in _ _ (by omega) (by omega) (by omega)]
 ·rw [if_neg h];right;rfl
theorem VG {n1 n2 d1 d2:Int} (hn:aG n1 n2=true) (hd:aG d1 d2=true) (hz:¬(d1≤0∧0≤d2)):
  (cond (eQ n1 n2 d1 d2) (lt (iB n1 n2 d1 d2) fun x10=>cond (x10.2.2 != 0)
   (lt (dN 0 1073741824) fun x11=>cond (x11.2.2 != 0) (some (AV.v (.tuple ⟨[.agg ⟨[.int .i64 0,.int .i64 0]⟩,.int .i64 23]⟩))) (some (.v (.tuple ⟨[.agg ⟨[.int .i64 x11.1,.int .i64 x11.2.1]⟩,.int .i64 0]⟩))))
   (lt (dN x10.1 x10.2.1) fun x12=>cond (x12.2.2 != 0) (some (.v (.tuple ⟨[.agg ⟨[.int .i64 0,.int .i64 0]⟩,.int .i64 23]⟩))) (some (.v (.tuple ⟨[.agg ⟨[.int .i64 x12.1,.int .i64 x12.2.1]⟩,.int .i64 0]⟩))))) none)=some (.v (aL (topS n1 n2 d1 d2))):=by
 rw [iC hn hd];simp only [lt,cond_true];unfold topS;rw [if_neg hz];rcases div_err hn hd hz with q | q
 ·rw [if_neg (by omega),if_neg (by omega),bne_eq_false_iff_eq.2 q,cond_false];rcases ahav_err (div_val q) with h | h
  ·have:BG (dN (iB n1 n2 d1 d2).1 (iB n1 n2 d1 d2).2.1)=((dN (iB n1 n2 d1 d2).1 (iB n1 n2 d1 d2).2.1).1,(dN (iB n1 n2 d1 d2).1 (iB n1 n2 d1 d2).2.1).2.1,0):=by
    unfold BG;rw [if_neg (by omega),h]
   rw [bne_eq_false_iff_eq.2 h,cond_false,this];rfl
  ·rw [h];rfl
 ·rw [if_pos q,UZ,bne_iff_ne.2 (show (iB n1 n2 d1 d2).2.2≠0 by omega),cond_true];rfl
noncomputable def kS260:aZ:=(94,eT (fun a b c d e f=>aD (MO a b c d e f).1 (MO a b c d e f).2))::(96,eP (fun a b=>aD (NY a b).1 (NY a b).2))::(98,nX (fun a b c d=>aD (gQ a b c d).1 (gQ a b c d).2))::(100,nX (fun a b c d=>aD (dI a b c d).1 (dI a b c d).2))::(101,eP (fun a b=>aD (eE a b).1 (eE a b).2))::(117,nX (fun a b c d=>aD (lY a b c d).1 (lY a b c d).2))::(156,eP (fun a b=>aD (rN a b).1 (rN a b).2))::(157,eP (fun a b=>aL (dN a b)))::(159,nX (fun a b c d=>aD (FY a b c d).1 (FY a b c d).2))::(204,PA eQ (fun a b c d=>aL (iB a b c d)))::[]
theorem YN:aJ Tryz.prog kS260:=(aA (gS aAC) (aA (cF qtrM_gives) (aA (cH tI) (aA (cH tT) (aA (cF qG) (aA (cH tA) (aA (cF FN) (aA (cF (fun a b W _=>rahav_r a b W)) (aA (cH aAO) (aA (BF rdiv_gives) cO))))))))))
theorem rang_gives (a b c d e f u v:Int) (hp:angP a b c d e f u v=true):aH Tryz.prog 158 [.agg ⟨[.int .i64 a,.int .i64 b,.int .i64 c,.int .i64 d,.int .i64 e,.int .i64 f]⟩,.agg ⟨[.int .i64 u,.int .i64 v]⟩] (aL (fB a b c d e f u v)):=by
 refine aE bK YN (t:=lt (NY u v) fun x1=>lt (NY c d) fun x2=>lt (rN x2.1 x2.2) fun x3=>lt (gQ a b x1.1 x1.2) fun x4=>lt (rN x4.1 x4.2) fun x5=>lt (lY x3.1 x3.2 x5.1 x5.2) fun x6=>lt (eE a b) fun x7=>lt (eE x1.1 x1.2) fun x8=>lt (dI x7.1 x7.2 x8.1 x8.2) fun x9=>cond (decide (x9.1≤0)) (cond (decide (x9.2≥0)) (some (.v (.tuple ⟨[.agg ⟨[.int .i64 0,.int .i64 0]⟩,.int .i64 21]⟩))) (lt (iB x6.1 x6.2 x9.1 x9.2) fun x10=>cond (eQ x6.1 x6.2 x9.1 x9.2) (cond (x10.2.2 != 0) (lt (dN 0 1073741824) fun x11=>cond (x11.2.2 != 0) (some (.v (.tuple ⟨[.agg ⟨[.int .i64 0,.int .i64 0]⟩,.int .i64 23]⟩))) (some (.v (.tuple ⟨[.agg ⟨[.int .i64 x11.1,.int .i64 x11.2.1]⟩,.int .i64 0]⟩)))) (lt (dN x10.1 x10.2.1) fun x12=>cond (x12.2.2 != 0) (some (.v (.tuple ⟨[.agg ⟨[.int .i64 0,.int .i64 0]⟩,.int .i64 23]⟩))) (some (.v (.tuple ⟨[.agg ⟨[.int .i64 x12.1,.int .i64 x12.2.1]⟩,.int .i64 0]⟩))))) (none))) (lt (iB x6.1 x6.2 x9.1 x9.2) fun x13=>cond (eQ x6.1 x6.2 x9.1 x9.2) (cond (x13.2.2 != 0) (lt (dN 0 1073741824) fun x14=>cond (x14.2.2 != 0) (some (.v (.tuple ⟨[.agg ⟨[.int .i64 0,.int .i64 0]⟩,.int .i64 23]⟩))) (some (.v (.tuple ⟨[.agg ⟨[.int .i64 x14.1,.int .i64 x14.2.1]⟩,.int .i64 0]⟩)))) (lt (dN x13.1 x13.2.1) fun x15=>cond (x15.2.2 != 0) (some (.v (.tuple ⟨[.agg ⟨[.int .i64 0,.int .i64 0]⟩,.int .i64 23]⟩))) (some (.v (.tuple ⟨[.agg ⟨[.int .i64 x15.1,.int .i64 x15.2.1]⟩,.int .i64 0]⟩))))) (none))) (by kernel_rfl) ?_;obtain ⟨ht,hu,huv,hv⟩:=ang6_bd hp;obtain ⟨h1,h2,h3⟩:=eB ht;have l1:=bV h1;have l2:=bV h2;have hh:aF (5400000-d) (5400000-c)=true:=bE (by omega) (by omega) (by omega);have hz:aF (5400000-v) (5400000-u)=true:=bE (by omega) (by omega) (by omega);have hw:aF (a-(5400000-u)) (b-(5400000-v))=true:=bE (by omega) (by omega) (by omega);have h:=(kD hh).2.2;have hh2:=(kD hw).2.2;have o1:=(kD l1.1).2.1;have o2:=(kD hz).2.1;have k:=vI (a:=a) (b:=b) (c:=5400000-v) (d:=5400000-u) (by omega) (by omega) (by omega) (by omega) (by omega) (by omega);have q:=sL l1.1 hz;have n0:=num_ok h1 h2 hu huv hv;have d0:aG (kM a b (5400000-v) (5400000-u)).1 (kM a b (5400000-v) (5400000-u)).2=true:=dH (by omega) q.2.2.2.1 (by omega);rw [top_eq h1 h2 hu huv hv];simp only [lt];rw [qtr_eq (a:=u) (b:=v) (by omega) (by omega) (by omega),qtr_eq (a:=c) (b:=d) (by omega) (by omega) (by omega)];dsimp only;rw [pP (by omega) (by omega) (by omega) (by omega) (by omega) (by omega)];dsimp only;rw [IP hh,IP hw,fG l1.1,fG hz];have em:lY (eJ (5400000-d) (5400000-c)).1 (eJ (5400000-d) (5400000-c)).2.1 (eJ (a-(5400000-u)) (b-(5400000-v))).1 (eJ (a-(5400000-u)) (b-(5400000-v))).2.1=((yD a b c d u v).1,(yD a b c d u v).2.1):=by
  unfold lY;simp only [lt];rw [rsub_eq (dH (by omega) h.2.1 (by omega)) (dH (by omega) hh2.2.1 (by omega))];unfold yD;rw [k.1]
 have et:dI (aN a b).1 (aN a b).2.1 (aN (5400000-v) (5400000-u)).1 (aN (5400000-v) (5400000-u)).2.1=kM a b (5400000-v) (5400000-u):=by
  unfold dI;simp only [lt];rw [CA (dH (by omega) o1.2.1 (by omega)) (dH (by omega) o2.2.1 (by omega)),q.1]
 dsimp only;rw [em,et];dsimp only;clear em et k q h hh2 o1 o2;have n0:=n0.2;generalize yD a b c d u v=N at*;generalize (kM a b (5400000-v) (5400000-u))=D at*;by_cases c1:D.1≤0
 ·rw [fE c1,cond_true];by_cases c2:D.2≥0
  ·rw [fE c2,cond_true];unfold topS;rw [if_pos ⟨c1,c2⟩];rfl
  ·rw [fI c2,cond_false];exact VG n0 d0 (by omega)
 ·rw [fI c1,cond_false];exact VG n0 d0 (by omega)
theorem trnd_eq {p q e f:Int} (h:aF e f=true) (h1:0≤p) (h2:p≤q) (h3:q≤10800000) (X:Int×Int×Int)
  (hX:X=(if dE e f≥10800000∧cJ e f≤21600000 then (p,q,0) else if cJ e f≤10800000 then cD (i64.wrap (21600000-q)) (i64.wrap (21600000-p)) else if i64.wrap (p+q)>10800000 then (p,i64.wrap (21600000-p),0) else cD (i64.wrap (0-q)) q)):
  FY p q e f=(X.1,X.2.1)∧X.2.2=0:=by
 subst hX;have tv:∀x y:Int,aF x y=true→fF x y=((cD x y).1,(cD x y).2.1)∧(cD x y).2.2=0:=fun x y z=>by
  rw [wU z];unfold cD;rw [if_pos z];exact ⟨rfl,rfl⟩
 have t1:=tv (21600000-q) (21600000-p) (bE (by omega) (by omega) (by omega));have t2:=tv (0-q) q (bE (by omega) (by omega) (by omega));unfold FY UM;simp only [lt];rw [wU h,aX (x:=21600000-q) (by omega),aX (x:=21600000-p) (by omega),aX (x:=p+q) (by omega),aX (x:=0-q) (by omega)];dsimp only;rw [t1.1,t2.1];have in2:(cond (decide (cJ e f≤10800000)) ((cD (21600000-q) (21600000-p)).1,(cD (21600000-q) (21600000-p)).2.1) (cond (decide (p+q>10800000)) (p,21600000-p) ((cD (0-q) q).1,(cD (0-q) q).2.1)))=
   ((if cJ e f≤10800000 then cD (21600000-q) (21600000-p) else if p+q>10800000 then (p,21600000-p,0) else cD (0-q) q).1,(if cJ e f≤10800000 then cD (21600000-q) (21600000-p) else if p+q>10800000 then (p,21600000-p,0) else cD (0-q) q).2.1)∧(if cJ e f≤10800000 then cD (21600000-q) (21600000-p) else if p+q>10800000 then (p,21600000-p,0) else cD (0-q) q).2.2=0:=by
  by_cases c:cJ e f≤10800000
  ·rw [fE c,if_pos c];exact ⟨rfl,t1.2⟩
  ·rw [fI c,if_neg c,cond_false];by_cases c':p+q>10800000
   ·rw [fE c',if_pos c'];exact ⟨rfl,rfl⟩
   ·rw [fI c',if_neg c'];exact ⟨rfl,t2.2⟩
 by_cases c1:dE e f≥10800000
 ·rw [fE c1,cond_true];by_cases c2:cJ e f≤21600000
  ·rw [fE c2,if_pos ⟨c1,c2⟩];exact ⟨rfl,rfl⟩
  ·rw [fI c2,if_neg (by omega),cond_false];exact in2
 ·rw [fI c1,if_neg (by omega),cond_false];exact in2
theorem top_two {a b c d e f:Int} (h:cS a b c d e f=true):(fB a b c d e f (dB a b c d e f).1 (dB a b c d e f).2.1).2.2=21∨((fB a b c d e f (dB a b c d e f).1 (dB a b c d e f).2.1).2.2=0∧0≤(fB a b c d e f (dB a b c d e f).1 (dB a b c d e f).2.1).1∧(fB a b c d e f (dB a b c d e f).1 (dB a b c d e f).2.1).1≤(fB a b c d e f (dB a b c d e f).1 (dB a b c d e f).2.1).2.1∧(fB a b c d e f (dB a b c d e f).1 (dB a b c d e f).2.1).2.1≤10800000):=by
 obtain ⟨x0,y0,t0⟩:=xY h;obtain ⟨h',z',s'⟩:=sees (a:Rat) (c:Rat) (e:Rat);obtain ⟨g1,g2,g3,g4,zv⟩:=zen_v h x0 y0 t0 s';obtain ⟨A,A0,A1,cA,_⟩:=fold s'.2.2.1 s'.2.2.2.1;rcases top_v h x0 y0 s' A0 A1 cA g2 g3 g4 zv with q | ⟨q1,q2,q3,q4,_⟩
 ·exact .inl q
 ·exact .inr ⟨q1,q2,q3,q4⟩
theorem azi_two {a b c d e f:Int} (h:cS a b c d e f=true):((CW a b c d e f (dB a b c d e f).1 (dB a b c d e f).2.1)=hZ a b c d e f∧(hZ a b c d e f).2.2=0)∨(CW a b c d e f (dB a b c d e f).1 (dB a b c d e f).2.1=(0,0,21)∧hZ a b c d e f=(0,21600000,0)):=by
 obtain ⟨_,_,g1,g2,g3,g4⟩:=oM h;rw [RK (u:=(dB a b c d e f).1) (v:=(dB a b c d e f).2.1) h g2 g3 g4];unfold hZ;rcases top_two h with tp | ⟨q1,q2,q3,q4⟩
 ·right;rw [tp];exact ⟨rfl,rfl⟩
 ·left;rw [q1];simp only [ne_eq,not_true_eq_false,if_false,if_true];rw [pS e f q2 q3 q4];refine ⟨?_,by
   repeat' split
   all_goals rfl⟩
  rw [←pS e f q2 q3 q4];unfold CM;generalize fB a b c d e f (dB a b c d e f).1 (dB a b c d e f).2.1=r at*;rw [aX (by omega),aX (by omega),aX (by omega),aX (by omega),Int.zero_sub]
theorem rzen_eq {a b c d e f:Int} (h:cS a b c d e f=true):MO a b c d e f=((dB a b c d e f).1,(dB a b c d e f).2.1):=by
 obtain ⟨h1,h2,h3⟩:=eB h;have l1:=bV h1;have l2:=bV h2;have k:=vI (a:=a) (b:=b) (c:=c) (d:=d) (by omega) (by omega) (by omega) (by omega) (by omega) (by omega);have q:=sL l1.1 l2.1;have o:=(kD h3).2.2;have o1:=(kD l1.1).2.1;have o2:=(kD l2.1).2.1;have z:=zsum_ok h;have m:=mul_one q.2.2.1 q.2.2.2.1 q.2.2.2.2 (by omega) o.2.1 o.2.2.1;have em:(bT (kM a b c d).1 (kM a b c d).2 (eJ e f).1 (eJ e f).2.1)=nV a b c d e f:=rfl;rw [em] at m;unfold MO;simp only [lt];rw [pP (by omega) (by omega) (by omega) (by omega) (by omega) (by omega)];dsimp only;rw [IP (bE (by omega) (by omega) (by omega)),fG l1.1,fG l2.1,IP h3];have et:dI (aN a b).1 (aN a b).2.1 (aN c d).1 (aN c d).2.1=kM a b c d:=by
  unfold dI;simp only [lt];rw [CA (dH (by omega) o1.2.1 (by omega)) (dH (by omega) o2.2.1 (by omega)),q.1]
 have e1:(eJ (a-d) (b-c)).1=(lT a b c d).1∧(eJ (a-d) (b-c)).2.1=(lT a b c d).2:=by rw [k.1];exact ⟨rfl,rfl⟩
 dsimp only;rw [et,e1.1,e1.2];have eu:dI (kM a b c d).1 (kM a b c d).2 (eJ e f).1 (eJ e f).2.1=((nV a b c d e f).1,(nV a b c d e f).2.1):=by
  unfold dI;simp only [lt];rw [CA (dH (by omega) q.2.2.2.1 (by omega)) (dH (by omega) o.2.1 (by omega))];rfl
 rw [eu];have ep:rJ (lT a b c d).1 (lT a b c d).2 (nV a b c d e f).1 (nV a b c d e f).2.1=((uT a b c d e f).1,(uT a b c d e f).2.1):=by
  unfold rJ;simp only [lt];rw [TI (dH (by omega) k.2.2.2.1 (by omega)) (dH (by omega) m.2.2.1 (by omega))];rfl
 obtain ⟨w1,w2,w3,w4,w5,w6,w7,w8,w9,w10,w11,w12,w13,w14,w15,w16,w17⟩:=lvH;have e1b:=iR;have eb:=eR;obtain ⟨x0,y0,t0⟩:=xY h;obtain ⟨h',z',g0,g1,y1,y2,n1,n2,n3⟩:=sees (a:Rat) (c:Rat) (e:Rat);have v:=zsum_v h x0 y0 t0;have kk:=ahav_v v (t:=5*TB.e0) (by rw [show 1-2*((1-yE a c e)/2)=yE a c e by grind];exact n1) g0 g1 (by grind) (by grind) w1 w4 w3;rw [ep,zen_ok h kk.1]
noncomputable def OK (a b c d e f u v:Int):Bool:=angP a b c d e f u v&&decide (u=(dB a b c d e f).1∧v=(dB a b c d e f).2.1)
noncomputable def kS261:aZ:=(158,eTPif angP (fun a b c d e f u v=>aL (fB a b c d e f u v)))::kS260
theorem YO:aJ Tryz.prog kS261:=(aA (WV rang_gives) YN)
theorem aA2 (a b c d e f u v:Int) (hp:OK a b c d e f u v=true):aH Tryz.prog 95 [.agg ⟨[.int .i64 a,.int .i64 b,.int .i64 c,.int .i64 d,.int .i64 e,.int .i64 f]⟩,.agg ⟨[.int .i64 u,.int .i64 v]⟩] (aL (CW a b c d e f u v)):=by
 refine aE bK YO (t:=lt (fB a b c d e f u v) fun x1=>cond (angP a b c d e f u v) (cond (x1.2.2 != 0) (some (.v (.tuple ⟨[.agg ⟨[.int .i64 0,.int .i64 0]⟩,.int .i64 x1.2.2]⟩))) (lt (FY x1.1 x1.2.1 e f) fun x2=>some (.v (.tuple ⟨[.agg ⟨[.int .i64 x2.1,.int .i64 x2.2]⟩,.int .i64 0]⟩)))) (none)) (by kernel_rfl) ?_;have hp':=hp;unfold OK at hp';rw [Bool.and_eq_true] at hp';obtain ⟨hp,hz⟩:=hp';obtain ⟨ht,hu,huv,hv⟩:=ang6_bd hp;obtain ⟨h1,h2,h3⟩:=eB ht;rw [hp,RK ht hu huv hv];simp only [lt,cond_true];by_cases z:(fB a b c d e f u v).2.2=0
 ·have b:0≤(fB a b c d e f u v).1∧(fB a b c d e f u v).1≤(fB a b c d e f u v).2.1∧(fB a b c d e f u v).2.1≤10800000:=by
   obtain ⟨rfl,rfl⟩:=of_decide_eq_true hz;rcases top_two ht with t | ⟨_,t⟩
   ·omega
   ·exact t
  rw [bne_eq_false_iff_eq.2 z,cond_false,if_neg (by omega)];obtain ⟨t1,t2⟩:=trnd_eq h3 b.1 b.2.1 b.2.2 _ rfl;rw [t1];unfold aL;rw [t2];rfl
 ·rw [bne_iff_ne.2 z,cond_true,if_pos z];rfl
noncomputable def aAr (a b c d e f:Int):Int×Int×Int×Int:=((mI a b c d e f).1,(mI a b c d e f).2.1,(mI a b c d e f).2.2.1,(mI a b c d e f).2.2.2.1)
noncomputable def kS262:aZ:=(95,eTPif OK (fun a b c d e f u v=>aL (CW a b c d e f u v)))::kS261
theorem kS262_ok:aJ Tryz.prog kS262:=(aA (WV aA2) YO)
theorem rs26_gives (a b c d e f:Int) (hp:cS a b c d e f=true):aH Tryz.prog 44 [.agg ⟨[.int .i64 a,.int .i64 b,.int .i64 c,.int .i64 d,.int .i64 e,.int .i64 f]⟩] (OB (aAr a b c d e f)):=by
 refine aE bK kS262_ok (t:=lt (MO a b c d e f) fun x1=>lt (CW a b c d e f x1.1 x1.2) fun x2=>cond (OK a b c d e f x1.1 x1.2) (cond (x2.2.2 != 0) (lt (NY x1.1 x1.2) fun x3=>some (.v (.agg ⟨[.int .i64 x3.1,.int .i64 x3.2,.int .i64 0,.int .i64 21600000]⟩))) (lt (NY x1.1 x1.2) fun x4=>some (.v (.agg ⟨[.int .i64 x4.1,.int .i64 x4.2,.int .i64 x2.1,.int .i64 x2.2.1]⟩)))) (none)) (by kernel_rfl) ?_;obtain ⟨h1,h2,h3⟩:=eB hp;have l1:=bV h1;have l2:=bV h2;obtain ⟨val,_,g1,z0,zz,z1⟩:=oM hp;have ha:OK a b c d e f (dB a b c d e f).1 (dB a b c d e f).2.1=true:=by
  unfold OK angP;rw [hp,decide_eq_true ⟨z0,zz,z1⟩,decide_eq_true ⟨rfl,rfl⟩];rfl
 simp only [lt];rw [rzen_eq hp];dsimp only;rw [ha,cond_true,qtr_eq (by omega) zz (by omega)];unfold aAr;rw [val];rcases azi_two hp with ⟨q,q'⟩ | ⟨q,q'⟩
 ·rw [q,q'];rfl
 ·rw [q,q'];rfl
end
section
open Ev
open SM TB TA
open Ev (lt bJ)
theorem tim_t {a b n d:Int} (h1:-100000000≤a) (h2:a≤b) (h3:b≤100000000) (h:(n=1∧(d=2∨d=4))∨(d=1∧(n=2∨n=4))):MI a b n d=true:=decide_eq_true ⟨h1,h2,h3,h⟩
theorem turn_bd {e f:Int} (h3:aF e f=true):aF (dE e f) (cJ e f)=true∧0≤dE e f∧dE e f≤cJ e f∧cJ e f≤43200000:=by
 have m0:=ajQ e (show (21600000:Int)≠0 by omega);have m1:=ahJ e (show (0:Int)<21600000 by omega);have v3:=dG h3;unfold dE cJ;split
 ·exact ⟨bE (by omega) (by omega) (by omega),by omega,by omega,by omega⟩
 ·exact ⟨bE (by omega) (by omega) (by omega),by omega,by omega,by omega⟩
noncomputable def kS280:aZ:=(98,nX (fun a b c d=>aD (gQ a b c d).1 (gQ a b c d).2))::(101,eP (fun a b=>aD (eE a b).1 (eE a b).2))::(102,nX (fun a b c d=>aL (aQ a b c d)))::(105,eP (fun a b=>aD (gV a b).1 (gV a b).2))::(106,e0 (aD (OA).1 (OA).2))::(107,ePIIif MI (fun a b c d=>aD (oH a b c d).1 (oH a b c d).2))::(108,nX (fun a b c d=>aD (yM a b c d).1 (yM a b c d).2))::(109,eP (fun a b=>aD (fF a b).1 (fF a b).2))::(114,eP (fun a b=>.bool (rarM a b)))::(115,eP (fun a b=>aD (pO a b).1 (pO a b).2))::(163,PA eQ (fun a b c d=>aL (bT a b c d)))::(171,cPI 120 (fun a b c=>aD (AN a b c).1 (AN a b c).2) CS)::(172,ePif aG (fun a b=>aL (rT a b)))::(173,PA eQ (fun a b c d=>aL (fS a b c d)))::(174,ePif aG (fun a b=>aL (bF a b)))::[]
theorem kS280_ok:aJ Tryz.prog kS280:=(aA (cH tI) (aA (cF qG) (aA (cH rbear) (aA (cF wS) (aA (e0_ok rgtM_gives) (aA (ePIIif_ok aAz) (aA (cH ZW) (aA (cF tO) (aA (cF rarM_gives) (aA (cF BW) (aA (BF rmul_gives) (aA (sH rkV_mods) (aA (RV rsqt_gives) (aA (BF radd_gives) (aA (RV rsqr_gives) cO)))))))))))))))
theorem TX (a b c d e f:Int) (hp:cS a b c d e f=true):aH Tryz.prog 46 [.agg ⟨[.int .i64 a,.int .i64 b,.int .i64 c,.int .i64 d,.int .i64 e,.int .i64 f]⟩] (dV (sU a b c d e f)):=by
 refine aE bK kS280_ok (t:=lt (OA) fun x1=>lt (gQ x1.1 x1.2 c d) fun x2=>lt (OA) fun x3=>lt (gQ x3.1 x3.2 a b) fun x4=>lt (yM x2.1 x2.2 x4.1 x4.2) fun x5=>lt (oH x5.1 x5.2 1 2) fun x6=>cond (MI x5.1 x5.2 1 2) (lt (gQ x2.1 x2.2 x4.1 x4.2) fun x7=>lt (oH x7.1 x7.2 1 2) fun x8=>cond (MI x7.1 x7.2 1 2) (lt (fF e f) fun x9=>lt (oH x9.1 x9.2 1 2) fun x10=>cond (MI x9.1 x9.2 1 2) (lt (eE x6.1 x6.2) fun x11=>lt (gV x10.1 x10.2) fun x12=>lt (bT x11.1 x11.2 x12.1 x12.2) fun x13=>cond (eQ x11.1 x11.2 x12.1 x12.2) (lt (AN x13.1 x13.2.1 x13.2.2) fun x15=>lt (CS 0 x13.1 x13.2.1 x13.2.2) fun x14=>lt (eE x8.1 x8.2) fun x16=>lt (eE x10.1 x10.2) fun x17=>lt (bT x16.1 x16.2 x17.1 x17.2) fun x18=>cond (eQ x16.1 x16.2 x17.1 x17.2) (lt (AN x18.1 x18.2.1 x18.2.2) fun x20=>lt (CS x14 x18.1 x18.2.1 x18.2.2) fun x19=>lt (gV x6.1 x6.2) fun x21=>lt (gV x10.1 x10.2) fun x22=>lt (bT x21.1 x21.2 x22.1 x22.2) fun x23=>cond (eQ x21.1 x21.2 x22.1 x22.2) (lt (AN x23.1 x23.2.1 x23.2.2) fun x25=>lt (CS x19 x23.1 x23.2.1 x23.2.2) fun x24=>lt (gV x8.1 x8.2) fun x26=>lt (eE x10.1 x10.2) fun x27=>lt (bT x26.1 x26.2 x27.1 x27.2) fun x28=>cond (eQ x26.1 x26.2 x27.1 x27.2) (lt (AN x28.1 x28.2.1 x28.2.2) fun x30=>lt (CS x24 x28.1 x28.2.1 x28.2.2) fun x29=>lt (bF x25.1 x25.2) fun x31=>cond (aG x25.1 x25.2) (lt (AN x31.1 x31.2.1 x31.2.2) fun x33=>lt (CS x29 x31.1 x31.2.1 x31.2.2) fun x32=>lt (bF x30.1 x30.2) fun x34=>cond (aG x30.1 x30.2) (lt (AN x34.1 x34.2.1 x34.2.2) fun x36=>lt (CS x32 x34.1 x34.2.1 x34.2.2) fun x35=>lt (fS x33.1 x33.2 x36.1 x36.2) fun x37=>cond (eQ x33.1 x33.2 x36.1 x36.2) (lt (AN x37.1 x37.2.1 x37.2.2) fun x39=>lt (CS x35 x37.1 x37.2.1 x37.2.2) fun x38=>lt (rT x39.1 x39.2) fun x40=>cond (aG x39.1 x39.2) (lt (AN x40.1 x40.2.1 x40.2.2) fun x42=>lt (CS x38 x40.1 x40.2.1 x40.2.2) fun x41=>lt (bF x15.1 x15.2) fun x43=>cond (aG x15.1 x15.2) (lt (AN x43.1 x43.2.1 x43.2.2) fun x45=>lt (CS x41 x43.1 x43.2.1 x43.2.2) fun x44=>lt (bF x20.1 x20.2) fun x46=>cond (aG x20.1 x20.2) (lt (AN x46.1 x46.2.1 x46.2.2) fun x48=>lt (CS x44 x46.1 x46.2.1 x46.2.2) fun x47=>lt (fS x45.1 x45.2 x48.1 x48.2) fun x49=>cond (eQ x45.1 x45.2 x48.1 x48.2) (lt (AN x49.1 x49.2.1 x49.2.2) fun x51=>lt (CS x47 x49.1 x49.2.1 x49.2.2) fun x50=>lt (rT x51.1 x51.2) fun x52=>cond (aG x51.1 x51.2) (lt (AN x52.1 x52.2.1 x52.2.2) fun x54=>lt (CS x50 x52.1 x52.2.1 x52.2.2) fun _=>lt (aQ x42.1 x42.2 x54.1 x54.2) fun x55=>cond (rarM x55.1 x55.2.1) (some (.v (.tuple ⟨[.agg ⟨[.int .i64 0,.int .i64 0,.int .i64 0,.int .i64 0]⟩,.int .i64 24]⟩))) (lt (OA) fun x56=>lt (oH x55.1 x55.2.1 2 1) fun x57=>cond (MI x55.1 x55.2.1 2 1) (lt (gQ x56.1 x56.2 x57.1 x57.2) fun x58=>lt (aQ x20.1 x20.2 x15.1 x15.2) fun x59=>lt (aQ x30.1 x30.2 x25.1 x25.2) fun x60=>cond (!(rarM x59.1 x59.2.1)) (cond (!(rarM x60.1 x60.2.1)) (lt (yM x59.1 x59.2.1 x60.1 x60.2.1) fun x61=>lt (pO x61.1 x61.2) fun x62=>lt (fF x62.1 x62.2) fun x63=>some (.v (.tuple ⟨[.agg ⟨[.int .i64 x58.1,.int .i64 x58.2,.int .i64 x63.1,.int .i64 x63.2]⟩,.int .i64 0]⟩))) (some (.v (.tuple ⟨[.agg ⟨[.int .i64 x58.1,.int .i64 x58.2,.int .i64 0,.int .i64 21600000]⟩,.int .i64 0]⟩)))) (some (.v (.tuple ⟨[.agg ⟨[.int .i64 x58.1,.int .i64 x58.2,.int .i64 0,.int .i64 21600000]⟩,.int .i64 0]⟩)))) (none))) (none)) (none)) (none)) (none)) (none)) (none)) (none)) (none)) (none)) (none)) (none)) (none)) (none)) (none)) (none)) (by kernel_rfl) ?_;obtain ⟨h1,h2,h3⟩:=eB hp;have l1:=bV h1;have l2:=bV h2;obtain ⟨vu,vv,vw⟩:=RE hp;obtain ⟨p,q,r,s⟩:=one4 hp;have L1:=zT r s;have L2:=zT p q;have S1:=iM r;have S2:=iM s;have S3:=iM p;have S4:=iM q;have V:=val4 hp;have tu:=turn_bd h3;have B:=jJ V.1 V.2.1;have DA:=jJ q.val p.val;have DC:=jJ s.val r.val;rw [hsl_ok hp];refine aP (show OA=(5400000,5400000) from rfl) ?_
 (try dsimp only)
 refine aP (show gQ 5400000 5400000 c d=(5400000-d,5400000-c) from pP (by omega) (by omega) (by omega) (by omega) (by omega) (by omega)) ?_
 (try dsimp only)
 refine aP (show OA=(5400000,5400000) from rfl) ?_
 (try dsimp only)
 refine aP (show gQ 5400000 5400000 a b=(5400000-b,5400000-a) from pP (by omega) (by omega) (by omega) (by omega) (by omega) (by omega)) ?_
 (try dsimp only)
 refine aP (show yM (5400000-d) (5400000-c) (5400000-b) (5400000-a)=(10800000-b-d,10800000-a-c) from by rw [raad_eq (by omega) (by omega) (by omega) (by omega) (by omega) (by omega),show 5400000-d+(5400000-b)=10800000-b-d by omega,show 5400000-c+(5400000-a)=10800000-a-c by omega]) ?_
 (try dsimp only)
 refine aP (show oH (10800000-b-d) (10800000-a-c) 1 2=((fU a b c d).1,(fU a b c d).2) from (by unfold oH;rw [atJ,atJ];rfl)) ?_
 (try dsimp only)
 refine oF (tim_t (by omega) (by omega) (by omega) (.inl ⟨rfl,.inl rfl⟩)) ?_;refine aP (show gQ (5400000-d) (5400000-c) (5400000-b) (5400000-a)=(a-d,b-c) from by rw [pP (by omega) (by omega) (by omega) (by omega) (by omega) (by omega),show 5400000-d-(5400000-a)=a-d by omega,show 5400000-c-(5400000-b)=b-c by omega]) ?_
 (try dsimp only)
 refine aP (show oH (a-d) (b-c) 1 2=((fV a b c d).1,(fV a b c d).2) from (by unfold oH;rw [atJ,atJ];rfl)) ?_
 (try dsimp only)
 refine oF (tim_t (by omega) (by omega) (by omega) (.inl ⟨rfl,.inl rfl⟩)) ?_;refine aP (show fF e f=(dE e f,cJ e f) from wU h3) ?_
 (try dsimp only)
 refine aP (show oH (dE e f) (cJ e f) 1 2=((fW e f).1,(fW e f).2) from (by unfold oH;rw [atJ,atJ];rfl)) ?_
 (try dsimp only)
 refine oF (tim_t (by omega) (by omega) (by omega) (.inl ⟨rfl,.inl rfl⟩)) ?_;refine aP (show eE (fU a b c d).1 (fU a b c d).2=((aN (fU a b c d).1 (fU a b c d).2).1,(aN (fU a b c d).1 (fU a b c d).2).2.1) from fG vu) ?_
 (try dsimp only)
 refine aP (show gV (fW e f).1 (fW e f).2=((aW (fW e f).1 (fW e f).2).1,(aW (fW e f).1 (fW e f).2).2.1) from iX vw) ?_
 (try dsimp only)
 refine aP (show bT (aN (fU a b c d).1 (fU a b c d).2).1 (aN (fU a b c d).1 (fU a b c d).2).2.1 (aW (fW e f).1 (fW e f).2).1 (aW (fW e f).1 (fW e f).2).2.1=jR a b c d e f from rfl) ?_
 (try dsimp only)
 refine oF (iC (aU vu).val (bG vw).val) ?_;refine aP (show AN (jR a b c d e f).1 (jR a b c d e f).2.1 (jR a b c d e f).2.2=((jR a b c d e f).1,(jR a b c d e f).2.1) from uE p.2.2.2) ?_
 (try dsimp only)
 refine aP (show CS 0 (jR a b c d e f).1 (jR a b c d e f).2.1 (jR a b c d e f).2.2=0 from GN p.2.2.2) ?_
 (try dsimp only)
 refine aP (show eE (fV a b c d).1 (fV a b c d).2=((aN (fV a b c d).1 (fV a b c d).2).1,(aN (fV a b c d).1 (fV a b c d).2).2.1) from fG vv) ?_
 (try dsimp only)
 refine aP (show eE (fW e f).1 (fW e f).2=((aN (fW e f).1 (fW e f).2).1,(aN (fW e f).1 (fW e f).2).2.1) from fG vw) ?_
 (try dsimp only)
 refine aP (show bT (aN (fV a b c d).1 (fV a b c d).2).1 (aN (fV a b c d).1 (fV a b c d).2).2.1 (aN (fW e f).1 (fW e f).2).1 (aN (fW e f).1 (fW e f).2).2.1=jT a b c d e f from rfl) ?_
 (try dsimp only)
 refine oF (iC (aU vv).val (aU vw).val) ?_;refine aP (show AN (jT a b c d e f).1 (jT a b c d e f).2.1 (jT a b c d e f).2.2=((jT a b c d e f).1,(jT a b c d e f).2.1) from uE q.2.2.2) ?_
 (try dsimp only)
 refine aP (show CS 0 (jT a b c d e f).1 (jT a b c d e f).2.1 (jT a b c d e f).2.2=0 from GN q.2.2.2) ?_
 (try dsimp only)
 refine aP (show gV (fU a b c d).1 (fU a b c d).2=((aW (fU a b c d).1 (fU a b c d).2).1,(aW (fU a b c d).1 (fU a b c d).2).2.1) from iX vu) ?_
 (try dsimp only)
 refine aP (show gV (fW e f).1 (fW e f).2=((aW (fW e f).1 (fW e f).2).1,(aW (fW e f).1 (fW e f).2).2.1) from iX vw) ?_
 (try dsimp only)
 refine aP (show bT (aW (fU a b c d).1 (fU a b c d).2).1 (aW (fU a b c d).1 (fU a b c d).2).2.1 (aW (fW e f).1 (fW e f).2).1 (aW (fW e f).1 (fW e f).2).2.1=jU a b c d e f from rfl) ?_
 (try dsimp only)
 refine oF (iC (bG vu).val (bG vw).val) ?_;refine aP (show AN (jU a b c d e f).1 (jU a b c d e f).2.1 (jU a b c d e f).2.2=((jU a b c d e f).1,(jU a b c d e f).2.1) from uE r.2.2.2) ?_
 (try dsimp only)
 refine aP (show CS 0 (jU a b c d e f).1 (jU a b c d e f).2.1 (jU a b c d e f).2.2=0 from GN r.2.2.2) ?_
 (try dsimp only)
 refine aP (show gV (fV a b c d).1 (fV a b c d).2=((aW (fV a b c d).1 (fV a b c d).2).1,(aW (fV a b c d).1 (fV a b c d).2).2.1) from iX vv) ?_
 (try dsimp only)
 refine aP (show eE (fW e f).1 (fW e f).2=((aN (fW e f).1 (fW e f).2).1,(aN (fW e f).1 (fW e f).2).2.1) from fG vw) ?_
 (try dsimp only)
 refine aP (show bT (aW (fV a b c d).1 (fV a b c d).2).1 (aW (fV a b c d).1 (fV a b c d).2).2.1 (aN (fW e f).1 (fW e f).2).1 (aN (fW e f).1 (fW e f).2).2.1=jV a b c d e f from rfl) ?_
 (try dsimp only)
 refine oF (iC (bG vv).val (aU vw).val) ?_;refine aP (show AN (jV a b c d e f).1 (jV a b c d e f).2.1 (jV a b c d e f).2.2=((jV a b c d e f).1,(jV a b c d e f).2.1) from uE s.2.2.2) ?_
 (try dsimp only)
 refine aP (show CS 0 (jV a b c d e f).1 (jV a b c d e f).2.1 (jV a b c d e f).2.2=0 from GN s.2.2.2) ?_
 (try dsimp only)
 refine aP rfl ?_
 (try dsimp only)
 refine oF (r.val) ?_;refine aP (show AN (bF (jU a b c d e f).1 (jU a b c d e f).2.1).1 (bF (jU a b c d e f).1 (jU a b c d e f).2.1).2.1 (bF (jU a b c d e f).1 (jU a b c d e f).2.1).2.2=((bF (jU a b c d e f).1 (jU a b c d e f).2.1).1,(bF (jU a b c d e f).1 (jU a b c d e f).2.1).2.1) from uE S1.2.1.2.2.2) ?_
 (try dsimp only)
 refine aP (show CS 0 (bF (jU a b c d e f).1 (jU a b c d e f).2.1).1 (bF (jU a b c d e f).1 (jU a b c d e f).2.1).2.1 (bF (jU a b c d e f).1 (jU a b c d e f).2.1).2.2=0 from GN S1.2.1.2.2.2) ?_
 (try dsimp only)
 refine aP rfl ?_
 (try dsimp only)
 refine oF (s.val) ?_;refine aP (show AN (bF (jV a b c d e f).1 (jV a b c d e f).2.1).1 (bF (jV a b c d e f).1 (jV a b c d e f).2.1).2.1 (bF (jV a b c d e f).1 (jV a b c d e f).2.1).2.2=((bF (jV a b c d e f).1 (jV a b c d e f).2.1).1,(bF (jV a b c d e f).1 (jV a b c d e f).2.1).2.1) from uE S2.2.1.2.2.2) ?_
 (try dsimp only)
 refine aP (show CS 0 (bF (jV a b c d e f).1 (jV a b c d e f).2.1).1 (bF (jV a b c d e f).1 (jV a b c d e f).2.1).2.1 (bF (jV a b c d e f).1 (jV a b c d e f).2.1).2.2=0 from GN S2.2.1.2.2.2) ?_
 (try dsimp only)
 refine aP (show fS (bF (jU a b c d e f).1 (jU a b c d e f).2.1).1 (bF (jU a b c d e f).1 (jU a b c d e f).2.1).2.1 (bF (jV a b c d e f).1 (jV a b c d e f).2.1).1 (bF (jV a b c d e f).1 (jV a b c d e f).2.1).2.1=jI (jU a b c d e f) (jV a b c d e f) from rfl) ?_
 (try dsimp only)
 refine oF (iC S1.2.1.val S2.2.1.val) ?_;refine aP (show AN (jI (jU a b c d e f) (jV a b c d e f)).1 (jI (jU a b c d e f) (jV a b c d e f)).2.1 (jI (jU a b c d e f) (jV a b c d e f)).2.2=((jI (jU a b c d e f) (jV a b c d e f)).1,(jI (jU a b c d e f) (jV a b c d e f)).2.1) from uE (by rw [L1.1])) ?_
 (try dsimp only)
 refine aP (show CS 0 (jI (jU a b c d e f) (jV a b c d e f)).1 (jI (jU a b c d e f) (jV a b c d e f)).2.1 (jI (jU a b c d e f) (jV a b c d e f)).2.2=0 from GN (by rw [L1.1])) ?_
 (try dsimp only)
 refine aP (show rT (jI (jU a b c d e f) (jV a b c d e f)).1 (jI (jU a b c d e f) (jV a b c d e f)).2.1=sT a b c d e f from rfl) ?_
 (try dsimp only)
 refine oF L1.2.2.1 ?_;refine aP (show AN (sT a b c d e f).1 (sT a b c d e f).2.1 (sT a b c d e f).2.2=((sT a b c d e f).1,(sT a b c d e f).2.1) from uE L1.2.2.2.1) ?_
 (try dsimp only)
 refine aP (show CS 0 (sT a b c d e f).1 (sT a b c d e f).2.1 (sT a b c d e f).2.2=0 from GN L1.2.2.2.1) ?_
 (try dsimp only)
 refine aP rfl ?_
 (try dsimp only)
 refine oF (p.val) ?_;refine aP (show AN (bF (jR a b c d e f).1 (jR a b c d e f).2.1).1 (bF (jR a b c d e f).1 (jR a b c d e f).2.1).2.1 (bF (jR a b c d e f).1 (jR a b c d e f).2.1).2.2=((bF (jR a b c d e f).1 (jR a b c d e f).2.1).1,(bF (jR a b c d e f).1 (jR a b c d e f).2.1).2.1) from uE S3.2.1.2.2.2) ?_
 (try dsimp only)
 refine aP (show CS 0 (bF (jR a b c d e f).1 (jR a b c d e f).2.1).1 (bF (jR a b c d e f).1 (jR a b c d e f).2.1).2.1 (bF (jR a b c d e f).1 (jR a b c d e f).2.1).2.2=0 from GN S3.2.1.2.2.2) ?_
 (try dsimp only)
 refine aP rfl ?_
 (try dsimp only)
 refine oF (q.val) ?_;refine aP (show AN (bF (jT a b c d e f).1 (jT a b c d e f).2.1).1 (bF (jT a b c d e f).1 (jT a b c d e f).2.1).2.1 (bF (jT a b c d e f).1 (jT a b c d e f).2.1).2.2=((bF (jT a b c d e f).1 (jT a b c d e f).2.1).1,(bF (jT a b c d e f).1 (jT a b c d e f).2.1).2.1) from uE S4.2.1.2.2.2) ?_
 (try dsimp only)
 refine aP (show CS 0 (bF (jT a b c d e f).1 (jT a b c d e f).2.1).1 (bF (jT a b c d e f).1 (jT a b c d e f).2.1).2.1 (bF (jT a b c d e f).1 (jT a b c d e f).2.1).2.2=0 from GN S4.2.1.2.2.2) ?_
 (try dsimp only)
 refine aP (show fS (bF (jR a b c d e f).1 (jR a b c d e f).2.1).1 (bF (jR a b c d e f).1 (jR a b c d e f).2.1).2.1 (bF (jT a b c d e f).1 (jT a b c d e f).2.1).1 (bF (jT a b c d e f).1 (jT a b c d e f).2.1).2.1=jI (jR a b c d e f) (jT a b c d e f) from rfl) ?_
 (try dsimp only)
 refine oF (iC S3.2.1.val S4.2.1.val) ?_;refine aP (show AN (jI (jR a b c d e f) (jT a b c d e f)).1 (jI (jR a b c d e f) (jT a b c d e f)).2.1 (jI (jR a b c d e f) (jT a b c d e f)).2.2=((jI (jR a b c d e f) (jT a b c d e f)).1,(jI (jR a b c d e f) (jT a b c d e f)).2.1) from uE (by rw [L2.1])) ?_
 (try dsimp only)
 refine aP (show CS 0 (jI (jR a b c d e f) (jT a b c d e f)).1 (jI (jR a b c d e f) (jT a b c d e f)).2.1 (jI (jR a b c d e f) (jT a b c d e f)).2.2=0 from GN (by rw [L2.1])) ?_
 (try dsimp only)
 refine aP (show rT (jI (jR a b c d e f) (jT a b c d e f)).1 (jI (jR a b c d e f) (jT a b c d e f)).2.1=sS a b c d e f from rfl) ?_
 (try dsimp only)
 refine oF L2.2.2.1 ?_;refine aP (show AN (sS a b c d e f).1 (sS a b c d e f).2.1 (sS a b c d e f).2.2=((sS a b c d e f).1,(sS a b c d e f).2.1) from uE L2.2.2.2.1) ?_
 (try dsimp only)
 refine aP (show CS 0 (sS a b c d e f).1 (sS a b c d e f).2.1 (sS a b c d e f).2.2=0 from GN L2.2.2.2.1) ?_
 (try dsimp only)
 refine aP (show aQ (sT a b c d e f).1 (sT a b c d e f).2.1 (sS a b c d e f).1 (sS a b c d e f).2.1=rY a b c d e f from rfl) ?_
 (try dsimp only)
 have fb:aQ (sT a b c d e f).1 (sT a b c d e f).2.1 (sS a b c d e f).1 (sS a b c d e f).2.1=rY a b c d e f:=rfl;rw [fb] at B;have Bb:=DK B;rw [rar_eq Bb.1 Bb.2.1 Bb.2.2.1 Bb.2.2.2.1];cases ho:cM (sT a b c d e f).1 (sT a b c d e f).2.1 (sS a b c d e f).1 (sS a b c d e f).2.1 with
 | true=>
  have eb:rY a b c d e f=(0,21600000,0):=by
   rw [←fb];unfold aQ;rw [V.1,V.2.1,ho];rfl
  rw [eb];rfl
 | false=>
 have F:=sE V.1 V.2.1 V.2.2.1 V.2.2.2 ho;rw [fb] at F;rw [fI (show ¬21600000≤(rY a b c d e f).2.1-(rY a b c d e f).1 by omega),cond_false,if_neg (by simp)];refine aP (show OA=(5400000,5400000) from rfl) ?_
 (try dsimp only)
 refine aP (show oH (rY a b c d e f).1 (rY a b c d e f).2.1 2 1=(2*(rY a b c d e f).1,2*(rY a b c d e f).2.1) from by unfold oH;rw [Int.ediv_one,Int.ediv_one,Int.neg_neg,akQ 2,akQ 2]) ?_
 (try dsimp only)
 refine oF (tim_t (by omega) (by omega) (by omega) (.inr ⟨rfl,.inl rfl⟩)) ?_;refine aP (show gQ 5400000 5400000 (2*(rY a b c d e f).1) (2*(rY a b c d e f).2.1)=((hfH a b c d e f).1,(hfH a b c d e f).2.1) from by rw [pP (by omega) (by omega) (by omega) (by omega) (by omega) (by omega)];rfl) ?_
 (try dsimp only)
 refine aP (show aQ (jT a b c d e f).1 (jT a b c d e f).2.1 (jR a b c d e f).1 (jR a b c d e f).2.1=hfA a b c d e f from rfl) ?_
 (try dsimp only)
 refine aP (show aQ (jV a b c d e f).1 (jV a b c d e f).2.1 (jU a b c d e f).1 (jU a b c d e f).2.1=hfC a b c d e f from rfl) ?_
 (try dsimp only)
 have Ab:=DK DA;have Cb:=DK DC;have fa:aQ (jT a b c d e f).1 (jT a b c d e f).2.1 (jR a b c d e f).1 (jR a b c d e f).2.1=hfA a b c d e f:=rfl;have fc:aQ (jV a b c d e f).1 (jV a b c d e f).2.1 (jU a b c d e f).1 (jU a b c d e f).2.1=hfC a b c d e f:=rfl;rw [fa] at Ab DA;rw [fc] at Cb DC;obtain ⟨A1,A2,A3,A4,_⟩:=DA;obtain ⟨C1,C2,C3,C4,_⟩:=DC;have eZ:hfZ a b c d e f=wM (hfA a b c d e f) (hfC a b c d e f):=rfl;rw [rar_eq Ab.1 Ab.2.1 Ab.2.2.1 Ab.2.2.2.1,rar_eq Cb.1 Cb.2.1 Cb.2.2.1 Cb.2.2.2.1,eZ];unfold wM XE;generalize hfA a b c d e f=A at*;generalize hfC a b c d e f=T at*;by_cases c1:21600000≤A.2.1-A.1
 ·rw [fE c1];rfl
 rw [fI c1];by_cases c2:21600000≤T.2.1-T.1
 ·rw [fE c2];rfl
 rw [fI c2,Bool.not_false,cond_true,cond_true];refine aP (show yM A.1 A.2.1 T.1 T.2.1=(A.1+T.1,A.2.1+T.2.1) from raad_eq (by omega) (by omega) (by omega) (by omega) (by omega) (by omega)) ?_
 (try dsimp only)
 refine aP (show pO (A.1+T.1) (A.2.1+T.2.1)=(-(A.2.1+T.2.1),-(A.1+T.1)) from raneg_eq (by omega) (by omega) (by omega)) ?_
 (try dsimp only)
 refine aP (wU (bE (by omega) (by omega) (by omega))) ?_
 (try dsimp only)
 rfl
end
section
open Ev
open SM TB TA
open Ev (lt bJ aH)
def eIT (F:Int→Int→Int→Int→Int→Int→Int→Value):CP
 | [.v (.int .i64 a),.v (.agg ⟨[.int .i64 b,.int .i64 c,.int .i64 d,.int .i64 e,.int .i64 f,.int .i64 u]⟩)],[]=>some (true,.v (F a b c d e f u),[])
 | _,_=>none
theorem eIT_ok {P:Program} {g:FuncId} {F:Int→Int→Int→Int→Int→Int→Int→Value} (h:∀a b c d e f u,aH P g [.int .i64 a,.agg ⟨[.int .i64 b,.int .i64 c,.int .i64 d,.int .i64 e,.int .i64 f,.int .i64 u]⟩] (F a b c d e f u)) (args:List AV) (L:Ev.dP) (z:Bool) (r:AV) (L':Ev.dP) (q:eIT F args L=some (z,r,L')) (_:z=true):jN P g args L r L':=by
 unfold eIT at q;split at q
 ·cases q;exact cZ (h _ _ _ _ _ _ _)
 ·cases q
noncomputable def byN (m a b c d e f:Int):Int×Int×Int×Int×Int:=if 1≤m∧m≤5 then byM m a b c d e f else (0,0,0,0,11)
def outP (m _a _b _c _d _e _f:Int):Bool:=decide (m<1∨5<m)
theorem by_no {m a b c d e f:Int} (h:cS a b c d e f=false) (h1:1≤m) (h5:m≤5):byM m a b c d e f=(0,0,0,0,1):=by
 have:m=1∨m=2∨m=3∨m=4∨m=5:=by omega
 rcases this with rfl | rfl | rfl | rfl | rfl
 ·show zH (iQ a b c d e f)=_;unfold iQ zK vJ zI;rw [h];rfl
 ·show zH (mI a b c d e f)=_;unfold mI DO dB QW;rw [h];rfl
 ·show zH (CI a b c d e f)=_;unfold CI QH;rw [h];rfl
 ·show zH (sU a b c d e f)=_;rw [hsl_no h];rfl
 ·show zH (qD a b c d e f)=_;unfold qD DT;rw [h];rfl
open Go.RowKit
def eCon:Ev.CP
 | [.s n 0 5 5,.v (.int .i64 m)],[(n',⟨[.v (.int .i64 1),.v (.int .i64 2),.v (.int .i64 3),.v (.int .i64 4),.v (.int .i64 5)],3⟩)]=>
  cond (Ev.nZ n n') (some (decide (m<1∨5<m),.v (.bool false),[(n',⟨[.v (.int .i64 1),.v (.int .i64 2),.v (.int .i64 3),.v (.int .i64 4),.v (.int .i64 5)],3⟩)])) none
 | _,_=>none
theorem eCon_ok (args:List AV) (L:Ev.dP) (z:Bool) (r:AV) (L':Ev.dP) (q:eCon args L=some (z,r,L')) (hz:z=true):Ev.jN Tryz.prog 42 args L r L':=by
 unfold eCon at q;split at q
 ·rename_i n m n';cases hn:Ev.nZ n n' with
  | false=>rw [hn] at q;cases q
  | true=>
   rw [hn] at q;cases q;have hm:=of_decide_eq_true hz;have hnm:=Ev.jB.1 hn;subst hnm;intro ρ w us hu hL;have hd:=hL.dom n;have hget:Ev.iO [(n,(⟨[.v (.int .i64 1),.v (.int .i64 2),.v (.int .i64 3),.v (.int .i64 4),.v (.int .i64 5)],3⟩:Ev.nG))] n=some ⟨[.v (.int .i64 1),.v (.int .i64 2),.v (.int .i64 3),.v (.int .i64 4),.v (.int .i64 5)],3⟩:=by
    unfold Ev.iO;rw [hn];rfl
   rw [hget] at hd;obtain ⟨g,hg⟩:=Option.isSome_iff_exists.1 (hd.trans rfl);obtain ⟨vs,hvs,hblk⟩:=hL.blk n g _ hg hget;have e1:us=[.slice (some ⟨g,0,none⟩) 5 5,.int .i64 m]:=by
    have:Ev.fN ρ [.s n 0 5 5,.v (.int .i64 m)]=some [.slice (some ⟨g,0,none⟩) 5 5,.int .i64 m]:=by
     have ha:Ev.jE ρ (.s n 0 5 5)=some (.slice (some ⟨g,0,none⟩) 5 5):=by simp only [Ev.jE,hg,Option.map_some]
     unfold Ev.fN;rw [ha];rfl
    rw [this] at hu;exact (afJ.inj hu).symm
   have e2:vs=[.int .i64 1,.int .i64 2,.int .i64 3,.int .i64 4,.int .i64 5]:=by
    have:Ev.fM ρ ([.v (.int .i64 1),.v (.int .i64 2),.v (.int .i64 3),.v (.int .i64 4),.v (.int .i64 5)]:List Ev.CV)=some [.int .i64 1,.int .i64 2,.int .i64 3,.int .i64 4,.int .i64 5]:=rfl;exact (afJ.inj (this.symm.trans hvs)).symm
   subst e1 e2;refine (con5_any g m w hblk).mono ?_;rintro e w' ⟨rfl,rfl⟩;rw [decide_eq_false (show ¬(1≤m∧m≤5) by omega)];exact ⟨_,ρ,rfl,Ev.Nxt.refl ρ w,rfl,hL⟩
 ·cases q
def by0 (_m _a _b _c _d _e _f:Int):Int×Int×Int×Int×Int:=(0,0,0,0,11)
noncomputable def kB580:aZ:=(10,e0 (.bool (true)))::(15,eT (fun a b c d e f=>.bool (FU a b c d e f)))::(42,eCon)::(43,eT (fun a b c d e f=>OB (aAp a b c d e f)))::(44,eTif cS (fun a b c d e f=>OB (aAr a b c d e f)))::(45,eT (fun a b c d e f=>OB (aAs a b c d e f)))::(46,eTif cS (fun a b c d e f=>dV (sU a b c d e f)))::(47,eTif cS (fun a b c d e f=>OB (rsolQ a b c d e f)))::[]
theorem XQ:aJ Tryz.prog kB580:=(aA (e0_ok nD) (aA (gS wT) (aA eCon_ok (aA (gS aAq) (aA (HJ rs26_gives) (aA (gS aAu) (aA (HJ TX) (aA (HJ TY) cO))))))))
theorem by0_gives (a b c d e f u:Int) (hp:outP a b c d e f u=true):aH Tryz.prog 11 [.int .i64 a,.agg ⟨[.int .i64 b,.int .i64 c,.int .i64 d,.int .i64 e,.int .i64 f,.int .i64 u]⟩] (dV (by0 a b c d e f u)):=by
 refine aE bK XQ (t:=cond (decide (a<1∨5<a)) (some (.v (.tuple ⟨[.agg ⟨[.int .i64 0,.int .i64 0,.int .i64 0,.int .i64 0]⟩,.int .i64 11]⟩))) (none)) (by kernel_rfl) ?_;have h:=of_decide_eq_true hp;rw [fE h];rfl
theorem byN_gives (m a b c d e f:Int):aH Tryz.prog 11 [.int .i64 m,kW a b c d e f] (dV (byN m a b c d e f)):=by
 unfold byN;by_cases h:1≤m∧m≤5
 ·rw [if_pos h];exact OO m a b c d e f h.1 h.2
 ·rw [if_neg h];exact by0_gives m a b c d e f (decide_eq_true (by omega))
noncomputable def kB581:aZ:=(11,eIT (fun a b c d e f u=>dV (byN a b c d e f u)))::kB580
theorem XR:aJ Tryz.prog kB581:=(aA (eIT_ok byN_gives) XQ)
theorem PY (a b c d e f u:Int):aH Tryz.prog 12 [.int .i64 a,.agg ⟨[.int .i64 b,.int .i64 c,.int .i64 d,.int .i64 e,.int .i64 f,.int .i64 u]⟩] (dV (byN a b c d e f u)):=by
 refine aE bK XR (t:=cond (decide (a<1)) (some (.v (.tuple ⟨[.agg ⟨[.int .i64 0,.int .i64 0,.int .i64 0,.int .i64 0]⟩,.int .i64 11]⟩))) (cond (decide (a>5)) (some (.v (.tuple ⟨[.agg ⟨[.int .i64 0,.int .i64 0,.int .i64 0,.int .i64 0]⟩,.int .i64 11]⟩))) (cond (!(FU b c d e f u)) (some (.v (.tuple ⟨[.agg ⟨[.int .i64 0,.int .i64 0,.int .i64 0,.int .i64 0]⟩,.int .i64 1]⟩))) (cond (a==1) (lt (aAp b c d e f u) fun x1=>some (.v (.tuple ⟨[.agg ⟨[.int .i64 x1.1,.int .i64 x1.2.1,.int .i64 x1.2.2.1,.int .i64 x1.2.2.2]⟩,.int .i64 0]⟩))) (cond (a==2) (lt (aAr b c d e f u) fun x2=>cond (cS b c d e f u) (some (.v (.tuple ⟨[.agg ⟨[.int .i64 x2.1,.int .i64 x2.2.1,.int .i64 x2.2.2.1,.int .i64 x2.2.2.2]⟩,.int .i64 0]⟩))) (none)) (cond (a==3) (lt (aAs b c d e f u) fun x3=>some (.v (.tuple ⟨[.agg ⟨[.int .i64 x3.1,.int .i64 x3.2.1,.int .i64 x3.2.2.1,.int .i64 x3.2.2.2]⟩,.int .i64 0]⟩))) (cond (a==4) (lt (sU b c d e f u) fun x4=>cond (cS b c d e f u) (some (.v (.tuple ⟨[.agg ⟨[.int .i64 x4.1,.int .i64 x4.2.1,.int .i64 x4.2.2.1,.int .i64 x4.2.2.2.1]⟩,.int .i64 x4.2.2.2.2]⟩))) (none)) (lt (rsolQ b c d e f u) fun x5=>cond (cS b c d e f u) (some (.v (.tuple ⟨[.agg ⟨[.int .i64 x5.1,.int .i64 x5.2.1,.int .i64 x5.2.2.1,.int .i64 x5.2.2.2]⟩,.int .i64 0]⟩))) (none))))))))) (by kernel_rfl) ?_;unfold byN;by_cases m1:a<1
 ·rw [fE m1,cond_true,if_neg (by omega)];rfl
 rw [fI m1,cond_false];by_cases m2:a>5
 ·rw [fE m2,cond_true,if_neg (by omega)];rfl
 rw [fI m2,cond_false,if_pos (by omega),TZ];cases ht:cS b c d e f u with
 | false=>
  rw [by_no ht (by omega) (by omega)];rfl
 | true=>
  simp only [lt,Bool.not_true,cond_false];have:a=1∨a=2∨a=3∨a=4∨a=5:=by omega
  rcases this with rfl | rfl | rfl | rfl | rfl
  ·obtain ⟨h1,h2⟩:=rs25_eq ht;have em:byM 1 b c d e f u=iQ b c d e f u:=by
    show zH (iQ b c d e f u)=_;unfold zH;rw [if_pos h2]
   rw [em,h1];show _=some (AV.v (.tuple ⟨[.agg ⟨[.int .i64 (iQ b c d e f u).1,.int .i64 (iQ b c d e f u).2.1,.int .i64 (iQ b c d e f u).2.2.1,.int .i64 (iQ b c d e f u).2.2.2.1]⟩,.int .i64 (iQ b c d e f u).2.2.2.2]⟩));rw [h2];rfl
  ·have h2:=(oM ht).1;have em:byM 2 b c d e f u=mI b c d e f u:=by
    show zH (mI b c d e f u)=_;rw [h2];rfl
   rw [em];unfold aAr;rw [h2];rfl
  ·have h2:=sol_ok ht;have em:byM 3 b c d e f u=CI b c d e f u:=by
    show zH (CI b c d e f u)=_;rw [h2];rfl
   rw [em,rsol_ok ht,h2];rfl
  ·have h2:=hsl_ok ht;have em:byM 4 b c d e f u=sU b c d e f u:=by
    show zH (sU b c d e f u)=_;rw [h2];split<;>rfl
   rw [em];rfl
  ·have h2:=(PJ ht).1;have em:byM 5 b c d e f u=qD b c d e f u:=by
    show zH (qD b c d e f u)=_;rw [h2];rfl
   rw [em,h2];unfold rsolQ;rfl
def allIT (_m _a _b _c _d _e _f:Int):Bool:=true
noncomputable def kB582:aZ:=(12,eIT (fun a b c d e f u=>dV (byN a b c d e f u)))::kB581
theorem kB582_ok:aJ Tryz.prog kB582:=(aA (eIT_ok PY) XR)
theorem ZE (a b c d e f u:Int):aH Tryz.prog 3 [.int .i64 a,.agg ⟨[.int .i64 b,.int .i64 c,.int .i64 d,.int .i64 e,.int .i64 f,.int .i64 u]⟩] (.bool (allIT a b c d e f u)):=by
 refine aE bK kB582_ok (t:=cond (!(true)) (some (.v (.bool false))) (lt (byN a b c d e f u) fun x1=>lt (byN a b c d e f u) fun x2=>cond ((x1.1==x2.1)&&((x1.2.1==x2.2.1)&&((x1.2.2.1==x2.2.2.1)&&((x1.2.2.2.1==x2.2.2.2.1)&&true)))) (some (.v (.bool (x1.2.2.2.2==x2.2.2.2.2)))) (some (.v (.bool false))))) (by kernel_rfl) ?_;simp only [lt];generalize byN a b c d e f u=y;simp [allIT]
end
section
open SM TB TA
structure Gd (h z:Rat) (s:gR):Prop where
 val:gB s=true
 up:Hs dS s.1 s.2.1 h
 az:Dr dS s.2.2.1 s.2.2.2 z
theorem dS2:dS+dS<1:=by decide+kernel
theorem gd_of {a b c d e f:Int} {H Z:Int×Int×Int} {x y t h z:Rat} (k:Hold a b c d e f H Z) (hx:Hs 0 a b x) (hy:Hs 0 c d y) (ht:Hs 0 e f t) (s:sA x y t h z):Gd h z (H.1,H.2.1,Z.1,Z.2.1):=by
 refine ⟨?_,k.up x y t hx hy ht h z s,k.az x y t hx hy ht h z s⟩;have l:=k.lat;have d:=k.dir;have f:=k.form;obtain ⟨d1,d2,d3,d4,_⟩:=d;unfold gB;rw [l.val,k.dir.val];simp only [Bool.true_and,Bool.or_eq_true,Bool.and_eq_true,beq_iff_eq,decide_eq_true_eq];omega
theorem form_of {s:gR} (h:gB s=true):(s.2.2.1=0∧s.2.2.2=21600000)∨(0≤s.2.2.1∧s.2.2.1<21600000∧s.2.2.1≤s.2.2.2∧s.2.2.2-s.2.2.1<21600000):=by
 have b:=jL h;have v:=dG b.2.1;unfold gB at h;simp only [Bool.and_eq_true,Bool.or_eq_true,beq_iff_eq,decide_eq_true_eq] at h;omega
theorem Dr_shift {d:Rat} {a b:Int} {z:Rat} (m k:Int) (h:Hs d a b (z+21600000*(m:Rat))):Hs d (a+21600000*k) (b+21600000*k) (z+21600000*((m+k:Int):Rat)):=by
 unfold Hs at*;rw [adQ,adQ,Rat.intCast_mul,adQ,show ((21600000:Int):Rat)=21600000 by rfl];constructor<;>grind
theorem dirs_good {a b c d:Int} {z:Rat} (fa:(a=0∧b=21600000)∨(0≤a∧a<21600000∧a≤b∧b-a<21600000)) (fc:(c=0∧d=21600000)∨(0≤c∧c<21600000∧c≤d∧d-c<21600000)) (ha:Dr dS a b z) (hc:Dr dS c d z):
  (dD a b c d).2.2=0∧Dr dS (dD a b c d).1 (dD a b c d).2.1 z∧(((dD a b c d).1=0∧(dD a b c d).2.1=21600000)∨(0≤(dD a b c d).1∧(dD a b c d).1<21600000∧(dD a b c d).1≤(dD a b c d).2.1∧(dD a b c d).2.1-(dD a b c d).1<21600000)):=by
 unfold dD;by_cases h1:a=0∧b=21600000
 ·rw [if_pos h1];exact ⟨rfl,hc,fc⟩
 rw [if_neg h1];by_cases h2:c=0∧d=21600000
 ·rw [if_pos h2];exact ⟨rfl,ha,fa⟩
 rw [if_neg h2];have fa':=fa.resolve_left h1;have fc':=fc.resolve_left h2;obtain ⟨m,hm⟩:=ha;obtain ⟨n,hn⟩:=hc;have hs:=Dr_shift n (m-n) hn;rw [show n+(m-n)=m by omega] at hs;have mt:=hm.meet hs dS2;generalize hk:m-n=k at*;have hk3:k=-1∨k=0∨k=1:=by omega
 have hin:(mx a (c+21600000*k),mn b (d+21600000*k))∈rA a b c d 3:=by
  unfold rA;rw [awQ];refine ⟨21600000*k,?_,?_⟩
  ·rcases hk3 with rfl | rfl | rfl<;>simp [aAP]
  ·unfold DJ;rw [if_neg];unfold mx mn;split<;>split<;>omega
 have hp:Hs dS (mx a (c+21600000*k)) (mn b (d+21600000*k)) (z+21600000*(m:Rat)):=by
  unfold Hs at*;unfold mx mn;constructor
  ·split
   ·exact hs.1
   ·exact hm.1
  ·split
   ·exact hs.2
   ·exact hm.2
 have hle:mx a (c+21600000*k)≤mn b (d+21600000*k):=by
  unfold mx mn;split<;>split<;>omega
 have hbd:0≤mx a (c+21600000*k)∧mx a (c+21600000*k)<100000000∧mn b (d+21600000*k)≤100000000:=by
  unfold mx mn;refine ⟨?_,?_,?_⟩
  ·split<;>omega
  ·split<;>omega
  ·split<;>omega
 generalize mx a (c+21600000*k)=X at*;generalize mn b (d+21600000*k)=Y at*;cases hL:rA a b c d 3 with
 | nil=>rw [hL] at hin;cases hin
 | cons p L=>
  cases L with
  | nil=>
   rw [hL] at hin;have e:(X,Y)=p:=by simpa using hin
   subst e;simp only [zL];rw [MY (by omega) hle (by omega)];have td:=MZ hle;obtain ⟨⟨t1,t2,t3,t4,_⟩,t5⟩:=td;refine ⟨rfl,EL hle ⟨m,hp⟩ (by decide+kernel),?_⟩;dsimp only at*;omega
  | cons q L=>
   simp only [zL];split
   ·exact ⟨rfl,⟨n,hn⟩,.inr fc'⟩
   ·exact ⟨rfl,⟨m,hm⟩,.inr fa'⟩
theorem meetO_good {h z:Rat} {o s:gR} (go:Gd h z o) (gs:Gd h z s):∃x,qC o s=some x∧Gd h z x∧o.1≤x.1∧s.1≤x.1∧x.2.1≤o.2.1∧x.2.1≤s.2.1:=by
 have bo:=jL go.val;have bs:=jL gs.val;have vo:=dG bo.1;have vs:=dG bs.1;have mt:=go.up.meet gs.up dS2;have hd:=dirs_good (form_of go.val) (form_of gs.val) go.az gs.az;have hmx:o.1≤mx o.1 s.1∧s.1≤mx o.1 s.1∧mx o.1 s.1≤mn o.2.1 s.2.1∧mn o.2.1 s.2.1≤o.2.1∧mn o.2.1 s.2.1≤s.2.1:=by
  unfold mx mn;refine ⟨?_,?_,?_,?_,?_⟩<;>(try split)<;>(try split)<;>omega
 have ha:dF o.1 o.2.1 s.1 s.2.1=(mx o.1 s.1,mn o.2.1 s.2.1,0):=by
  unfold dF;rw [if_pos ⟨bo.1,bs.1⟩,if_neg (by omega)]
 have hup:Hs dS (mx o.1 s.1) (mn o.2.1 s.2.1) h:=by
  have u1:=go.up;have u2:=gs.up;unfold Hs at*;unfold mx mn;constructor
  ·split
   ·exact u2.1
   ·exact u1.1
  ·split
   ·exact u2.2
   ·exact u1.2
 refine ⟨(mx o.1 s.1,mn o.2.1 s.2.1,(dD o.2.2.1 o.2.2.2 s.2.2.1 s.2.2.2).1,(dD o.2.2.1 o.2.2.2 s.2.2.1 s.2.2.2).2.1),?_,⟨?_,hup,hd.2.1⟩,hmx.1,hmx.2.1,hmx.2.2.2.1,hmx.2.2.2.2⟩
 ·unfold qC;rw [ha,if_pos ⟨rfl,hd.1⟩]
 ·unfold gB;dsimp only;have f:=hd.2.2;rw [avm (by omega) hmx.2.2.1 (by omega),avm (by omega) (by omega) (by omega)];simp only [Bool.true_and,Bool.or_eq_true,Bool.and_eq_true,beq_iff_eq,decide_eq_true_eq];omega
theorem LJ {h z:Rat}:∀(l:List gR) (o:gR),Gd h z o→(∀s∈l,Gd h z s)→∃x,qB o l=some x∧Gd h z x∧o.1≤x.1∧x.2.1≤o.2.1∧∀s∈l,s.1≤x.1∧x.2.1≤s.2.1
 | [],o,go,_=>⟨o,rfl,go,by omega,by omega,fun s hs=>by cases hs⟩
 | s::l,o,go,gl=>by
  obtain ⟨x,hx,gx,h1,h2,h3,h4⟩:=meetO_good go (gl s (by simp));obtain ⟨y,hy,gy,k1,k2,k3⟩:=LJ l x gx (fun s hs=>gl s (by simp [hs]));refine ⟨y,?_,gy,by omega,by omega,fun t ht=>?_⟩
  ·simp only [qB];rw [hx];exact hy
  ·rcases bbX.1 ht with rfl | ht
   ·omega
   ·exact k3 t ht
theorem meetR_good {h z:Rat} {l:List gR} (hl:l≠[]) (hn:l.length≤1000) (gl:∀s∈l,Gd h z s):∃x:gR,iL l=(x.1,x.2.1,x.2.2.1,x.2.2.2,0)∧Gd h z x∧∀s∈l,s.1≤x.1∧x.2.1≤s.2.1:=by
 cases l with
 | nil=>exact absurd rfl hl
 | cons s r=>
  obtain ⟨x,hx,gx,h1,h2,h3⟩:=LJ r s (gl s (by simp)) (fun t ht=>gl t (by simp [ht]));have hb:(s::r).any (fun s=> !gB s)=false:=by
   rw [List.any_eq_false];intro t ht;rw [(gl t ht).val];simp
  refine ⟨x,?_,gx,fun t ht=>?_⟩
  ·rw [BS (by omega) hb,hx]
  ·rcases bbX.1 ht with rfl | ht
   ·exact ⟨h1,h2⟩
   ·exact h3 t ht
theorem by_good {a b c d e f:Int} {x y t h z:Rat} (hv:cS a b c d e f=true) (hx:Hs 0 a b x) (hy:Hs 0 c d y) (ht:Hs 0 e f t) (s:sA x y t h z) (m:Int) (h1:1≤m) (h5:m≤5):
  (m≠4→∃q:gR,byM m a b c d e f=(q.1,q.2.1,q.2.2.1,q.2.2.2,0))∧(∀q,okS (byM m a b c d e f)=some q→Gd h z q)∧((byM m a b c d e f).2.2.2.2=0∨(byM m a b c d e f).2.2.2.2=24):=by
 have key:∀(r:Int×Int×Int×Int×Int) (H Z:Int×Int×Int),r=(H.1,H.2.1,Z.1,Z.2.1,0)→Hold a b c d e f H Z→(∃q:gR,zH r=(q.1,q.2.1,q.2.2.1,q.2.2.2,0))∧(∀q,okS (zH r)=some q→Gd h z q)∧((zH r).2.2.2.2=0∨(zH r).2.2.2.2=24):=by
  intro r H Z e k;subst e;refine ⟨⟨(H.1,H.2.1,Z.1,Z.2.1),rfl⟩,fun q hq=>?_,.inl rfl⟩;have:q=(H.1,H.2.1,Z.1,Z.2.1):=(afJ.inj hq).symm;rw [this];exact gd_of k hx hy ht s
 have:m=1∨m=2∨m=3∨m=4∨m=5:=by omega
 rcases this with rfl | rfl | rfl | rfl | rfl
 ·obtain ⟨H,Z,e1,_,k⟩:=vM hv;have:=key _ H Z e1 k;exact ⟨fun _=>this.1,this.2⟩
 ·obtain ⟨e1,k,_⟩:=oM hv;have:=key _ _ _ e1 k;exact ⟨fun _=>this.1,this.2⟩
 ·have e1:=sol_ok hv;have:=key _ _ _ e1 (UY hv);exact ⟨fun _=>this.1,this.2⟩
 ·refine ⟨fun h=>absurd rfl h,?_⟩;show (∀q,okS (zH (sU a b c d e f))=some q→Gd h z q)∧((zH (sU a b c d e f)).2.2.2.2=0∨(zH (sU a b c d e f)).2.2.2.2=24);rw [hsl_ok hv];split
  ·exact ⟨fun q hq=>(by cases hq),.inr rfl⟩
  ·rename_i ho;exact (key _ _ _ rfl (half_hold hv (by simpa using ho))).2
 ·obtain ⟨e1,k⟩:=PJ hv;have:=key _ _ _ e1 k;exact ⟨fun _=>this.1,this.2⟩
theorem VB {a b c d e f:Int} {x y t h z:Rat} (hv:cS a b c d e f=true) (hx:Hs 0 a b x) (hy:Hs 0 c d y) (ht:Hs 0 e f t) (s:sA x y t h z):
  4≤(uZ a b c d e f).length∧∀q∈uZ a b c d e f,Gd h z q:=by
 have B:=fun m h1 h5=>by_good hv hx hy ht s m h1 h5;constructor
 ·have o:∀m:Int,1≤m→m≤5→m≠4→((okS (byM m a b c d e f)).toList).length=1:=by
   intro m h1 h5 h4;obtain ⟨q,hq⟩:=(B m h1 h5).1 h4;rw [hq];rfl
  unfold uZ;rw [kJ,kJ,kJ,kJ,kJ];simp only [List.length_append];have o1:=o 1 (by omega) (by omega) (by omega);have o2:=o 2 (by omega) (by omega) (by omega);have o3:=o 3 (by omega) (by omega) (by omega);have o5:=o 5 (by omega) (by omega) (by omega);have c0:(((0:Nat):Int)+1)=1:=rfl;have c1:(((1:Nat):Int)+1)=2:=rfl;have c2:(((2:Nat):Int)+1)=3:=rfl;have c4:(((4:Nat):Int)+1)=5:=rfl;rw [c0,c1,c2,c4];omega
 ·intro q hq;unfold uZ nY at hq;rw [awQ] at hq;obtain ⟨j,hj,hq⟩:=hq;have:=List.mem_range.1 hj;exact (B ((j:Int)+1) (by omega) (by omega)).2.1 q hq
theorem by_mem {a b c d e f:Int} (m:Int) (h1:1≤m) (h5:m≤5) {q:gR} (hq:okS (byM m a b c d e f)=some q):q∈uZ a b c d e f:=by
 unfold uZ nY;rw [awQ];refine ⟨(m-1).toNat,List.mem_range.2 (by omega),?_⟩;rw [show (((m-1).toNat:Nat):Int)+1=m by omega];exact hq
theorem best_good {a b c d e f:Int} {x y t h z:Rat} (hv:cS a b c d e f=true) (hx:Hs 0 a b x) (hy:Hs 0 c d y) (ht:Hs 0 e f t) (s:sA x y t h z):
  ∃q:gR,oC a b c d e f=(q.1,q.2.1,q.2.2.1,q.2.2.2,0)∧Gd h z q∧∀s∈uZ a b c d e f,s.1≤q.1∧q.2.1≤s.2.1:=by
 obtain ⟨h4,hg⟩:=VB hv hx hy ht s;have h5:=vC a b c d e f;unfold oC;rw [if_pos hv];exact meetR_good (by intro h;rw [h] at h4;simp at h4) (by omega) hg
end
section
open Go.RowKit
open Ev (gF aH)
theorem at1' {P:Program} {g:FuncId} {a V:Value} (h:aH P g [a] V) {w:World} (hg:gF w):Calls P g #[a] w (GP V w):=h w hg
theorem eqSol (a b:gR) (w:World):(Op.equalIn 10000 28 (.agg #[.int .i64 a.1,.int .i64 a.2.1,.int .i64 a.2.2.1,.int .i64 a.2.2.2]) (.agg #[.int .i64 b.1,.int .i64 b.2.1,.int .i64 b.2.2.1,.int .i64 b.2.2.2])).run Tryz.prog w=.ok (eqS a b) w:=by
 have:=fitSol.2 [.int .i64 a.1,.int .i64 a.2.1,.int .i64 a.2.2.1,.int .i64 a.2.2.2] [.int .i64 b.1,.int .i64 b.2.1,.int .i64 b.2.2.1,.int .i64 b.2.2.2] (eqS a b) rfl rfl (by unfold eqS;simp [Ev.vR]) w;exact this
end
section
open Go.RowKit
open Ev (gF aH)
theorem BJ {s:gR} (h:gB s=true):(s.2.2.1=0∧s.2.2.2=21600000)∨(0≤s.2.2.1∧s.2.2.1<21600000∧s.2.2.1≤s.2.2.2∧s.2.2.2-s.2.2.1<21600000):=by
 have b:=jL h;have v:=dG b.2.1;unfold gB at h;simp only [Bool.and_eq_true,Bool.or_eq_true,beq_iff_eq,decide_eq_true_eq] at h;omega
theorem dirs_form {a b c d:Int} (fa:(a=0∧b=21600000)∨(0≤a∧a<21600000∧a≤b∧b-a<21600000)) (fc:(c=0∧d=21600000)∨(0≤c∧c<21600000∧c≤d∧d-c<21600000)) (h0:(dD a b c d).2.2=0):
  (((dD a b c d).1=0∧(dD a b c d).2.1=21600000)∨(0≤(dD a b c d).1∧(dD a b c d).1<21600000∧(dD a b c d).1≤(dD a b c d).2.1∧(dD a b c d).2.1-(dD a b c d).1<21600000)):=by
 unfold dD at*;by_cases h1:a=0∧b=21600000
 ·rw [if_pos h1] at*;exact fc
 rw [if_neg h1] at*;by_cases h2:c=0∧d=21600000
 ·rw [if_pos h2] at*;exact fa
 rw [if_neg h2] at*;have fa':=fa.resolve_left h1;have fc':=fc.resolve_left h2;cases hL:rA a b c d 3 with
 | nil=>rw [hL] at h0;cases h0
 | cons p L=>
  cases L with
  | nil=>
   have hp:p∈rA a b c d 3:=by rw [hL];simp
   unfold rA at hp;rw [awQ] at hp;obtain ⟨k,hk,hp⟩:=hp;unfold DJ at hp;split at hp
   ·cases hp
   ·cases hp;rename_i hle;have m1:a≤mx a (c+k)∧mn b (d+k)≤b∧mx a (c+k)≤mn b (d+k):=by
     refine ⟨?_,?_,by omega⟩
     ·unfold mx;split<;>omega
     ·unfold mn;split<;>omega
    generalize mx a (c+k)=X at*;generalize mn b (d+k)=Y at*;simp only [zL];unfold cD;rw [if_pos (avm (by omega) (by omega) (by omega))];dsimp only;unfold dE cJ;rw [if_neg (by omega),if_neg (by omega)];have m0:=ajQ X (show (21600000:Int)≠0 by omega);have m2:=ahJ X (show (0:Int)<21600000 by omega);omega
  | cons q L=>
   simp only [zL];split
   ·exact .inr fc'
   ·exact .inr fa'
theorem meetO_sval {o s x:gR} (ho:gB o=true) (hs:gB s=true) (hx:qC o s=some x):gB x=true:=by
 have bo:=jL ho;have bs:=jL hs;have vo:=dG bo.1;have vs:=dG bs.1;unfold qC at hx;split at hx
 ·rename_i hh;cases hx;have f:=dirs_form (BJ ho) (BJ hs) hh.2;have ha:=hh.1;unfold dF at ha;rw [if_pos ⟨bo.1,bs.1⟩] at ha;have e:dF o.1 o.2.1 s.1 s.2.1=(mx o.1 s.1,mn o.2.1 s.2.1,0):=by
   unfold dF;rw [if_pos ⟨bo.1,bs.1⟩];split
   ·rename_i hgt;rw [if_pos hgt] at ha;cases ha
   ·rfl
  have hle:mx o.1 s.1≤mn o.2.1 s.2.1:=by
   by_cases h:mx o.1 s.1>mn o.2.1 s.2.1
   ·rw [if_pos h] at ha;cases ha
   ·omega
  have hb:o.1≤mx o.1 s.1∧mn o.2.1 s.2.1≤o.2.1:=by unfold mx mn;constructor<;>split<;>omega
  unfold gB;rw [e];dsimp only;rw [avm (by omega) hle (by omega),avm (by omega) (by omega) (by omega)];simp only [Bool.true_and,Bool.or_eq_true,Bool.and_eq_true,beq_iff_eq,decide_eq_true_eq];omega
 ·cases hx
theorem rmeetO_eq {o s:gR} (ho:gB o=true) (hs:gB s=true):AF yN o s=qC o s:=by
 have bo:=jL ho;have bs:=jL hs;have hc:=rcom_eq (BJ ho) (BJ hs);unfold AF qC;have e:dF o.1 o.2.1 s.1 s.2.1=if mx o.1 s.1>mn o.2.1 s.2.1 then (0,0,23) else (mx o.1 s.1,mn o.2.1 s.2.1,0):=by
  unfold dF;rw [if_pos ⟨bo.1,bs.1⟩]
 rw [hc,e];by_cases h1:(dD o.2.2.1 o.2.2.2 s.2.2.1 s.2.2.2).2.2=0
 ·rw [if_pos h1];by_cases h2:mx o.1 s.1>mn o.2.1 s.2.1
  ·rw [if_pos h2,if_neg (by simp [h2]),if_neg (by simp)]
  ·rw [if_neg h2,if_pos ⟨rfl,h2⟩,if_pos ⟨rfl,h1⟩]
 ·rw [if_neg h1,if_neg (by simp),if_neg (fun h=>h1 h.2)]
theorem PZ:∀(l:List gR) (o:gR),gB o=true→(∀s∈l,gB s=true)→mP yN o l=qB o l
 | [],_,_,_=>rfl
 | s::l,o,ho,hl=>by
  simp only [mP,qB];rw [rmeetO_eq ho (hl s (by simp))];cases hx:qC o s with
  | none=>rfl
  | some x=>exact PZ l x (meetO_sval ho (hl s (by simp)) hx) (fun t ht=>hl t (by simp [ht]))
end
section
open Go.RowKit
open Ev (gF aH)
def AQ (l:List gR) (w:World) (e:Ending) (w':World):Prop:=∃A c,e=.returned (.slice A l.length c)∧w'.ownsRow w.heap.size 28 4 (.slice A l.length c) l.length (mA l)∧Below w.heap.size w w'
structure RAllRel (by_:Int→Int×Int×Int×Int×Int) (W wr:World) (B:Nat) (v3 v4:Value) (i:Nat):Prop where
 le:i≤5
 num:v4=.int .i64 ((i:Int)+1)
 own:wr.ownsRow B 28 4 v3 (nY by_ i).length (mA (nY by_ i))
 below:Below B W wr
theorem rall_any {by_:Int→Int×Int×Int×Int×Int} {a b c d e f:Int} (hby:∀m,1≤m→m≤5→aH Tryz.prog 12 [.int .i64 m,kW a b c d e f] (dV (by_ m))) (w:World) (hg:gF w):
  Calls Tryz.prog 17 #[kW a b c d e f] w (AQ (nY by_ 5) w):=by
 have HBY:=aaQ hby;have HG:=aaQ hg;have HB0:=aaQ ((acQ w.heap.size w).alloc (aaX _) (.cells ⟨[.int .i64 a,.int .i64 b,.int .i64 c,.int .i64 d,.int .i64 e,.int .i64 f]⟩ 25));have HK0:=aaQ (show Tk (w.alloc (.cells ⟨[.int .i64 a,.int .i64 b,.int .i64 c,.int .i64 d,.int .i64 e,.int .i64 f]⟩ 25)) w.heap.size a b c d e f from heap_alloc_new w _);obtain ⟨W,hW,HST,HK2,HB2⟩:∃W,W=w.alloc (.cells ⟨[.int .i64 a,.int .i64 b,.int .i64 c,.int .i64 d,.int .i64 e,.int .i64 f]⟩ 25)∧RowKit.Hid (RAllRel by_ W W W.heap.size (.slice none 0 0) (.int .i64 1) 0)∧RowKit.Hid (Tk W w.heap.size a b c d e f)∧RowKit.Hid (Below w.heap.size w W):=
  ⟨_,rfl,aaQ ⟨by omega,rfl,by simpa [nY,mA] using World.ownsRow_nil _ _ 28 4,acQ _ _⟩,HK0,HB0⟩
 clear hby hg HB0 HK0;unfold kW;go_enter Tryz.func17,Tryz.ntmps17;go_wp2_with fail
 rw [←hW];have hWs:=HB2.out.size;clear hW;go_loopw [3,4] (fun v3 v4 wr=>∃i,RAllRel by_ W wr W.heap.size v3 v4 i) (fun _ v _=>6-(intOf v).toNat)
 case atStart=>exact ⟨_,HST.out⟩
 case round=>
  clear HST;obtain ⟨i,hi,rfl,hown,hbel⟩:=hrel;have HB:=aaQ hbel;have HO:=aaQ hown;have hsr:=hbel.size;clear hown;by_cases hlt:i<5
  ·have hle:(i:Int)+1≤5:=by omega
   obtain ⟨p0,p1,p2,p3,p4,p5⟩:=(HK2.out.below hbel HK2.out.lt).keep;have HBW:=aaQ (HB2.out.trans (hbel.mono HB2.out.size));have HC:=aaQ (at2 (HBY.out ((i:Int)+1) (by omega) (by omega)) (HG.out.below HBW.out));have HS:=aaQ (kJ by_ i);clear hbel;unfold kW at HC;go_wp2_with fail
   refine HC.out.mono ?_;rintro e w3 ⟨rfl,hb3⟩;obtain ⟨x1,x2,x3,x4,xe,hx⟩:∃x1 x2 x3 x4 xe,by_ ((i:Int)+1)=(x1,x2,x3,x4,xe):=⟨_,_,_,_,_,rfl⟩;rw [hx];rw [hx] at HS;have hs3:=hb3.size;have HB3:=aaQ ((HB.out.trans (hb3.mono hsr)).alloc (by omega) (.cells #[.int .i64 x1,.int .i64 x2,.int .i64 x3,.int .i64 x4] 28));have HO3:=aaQ ((pM HO.out hb3).alloc (.cells #[.int .i64 x1,.int .i64 x2,.int .i64 x3,.int .i64 x4] 28));clear hb3 hx HC p0 p1 p2 p3 p4 p5;unfold dV;by_cases hxe:xe=0
   ·subst hxe;rw [show okS (x1,x2,x3,x4,0)=some (x1,x2,x3,x4) from rfl] at HS;have HO4:=aaQ (HO3.out.alloc (.cells #[.int .i64 x1,.int .i64 x2,.int .i64 x3,.int .i64 x4] 28));have HB4:=aaQ (HB3.out.alloc (by simp;omega) (.cells #[.int .i64 x1,.int .i64 x2,.int .i64 x3,.int .i64 x4] 28));obtain ⟨i0,hi0,hz0,hz1,hz2⟩:=gJ aAH;go_wp2_with (at_builtin;refine wpList_append_own _ rfl (.tmp 19) (.tmp 21) 35 rfl W.heap.size 28 i0 (.agg #[.int .i64 0,.int .i64 0,.int .i64 0,.int .i64 0]) 4 32 Tryz.underlying35 hi0 hz0 hz1 hz2 rfl (by decide) u3 (nY by_ i).length _ rfl HO4.out ⟨w3.heap.size+1,0,none⟩ 1 1 [.int .i64 x1,.int .i64 x2,.int .i64 x3,.int .i64 x4] rfl rfl ?c1 ?c2 ?c3 ?c4 ?c5 ?_)
    case c1=>exact XC w3 _ x1 x2 x3 x4
    case c2=>intro u hu;simp at hu;rcases hu with rfl | rfl | rfl | rfl<;>rfl
    case c3=>have:=uY by_ i;unfold maxLen;omega
    case c4=>have:=uY by_ i;omega
    case c5=>simp;omega
    intro v' w4 hown4 hg _;rw [←KI _ (x1,x2,x3,x4)] at hown4;have HB5:=aaQ (HB4.out.grown hg (by simp;omega) (fun q hq=>(HO4.out.lt q hq).1));have HST:=aaQ (show RAllRel by_ W w4 W.heap.size v' (.int .i64 ((i:Int)+1+1)) (i+1) from ⟨hlt,by rw [aoJ];rfl,by rw [HS.out];simpa using hown4,HB5.out⟩);clear hg hown4;go_wp2;go_roundw
    case rel=>exact ⟨_,HST.out⟩
    case measure=>simp [intOf];omega
   ·have he:(xe==0)=false:=beq_eq_false_iff_ne.2 hxe;rw [show okS (x1,x2,x3,x4,xe)=none by unfold okS;rw [if_neg hxe]] at HS;have HST:=aaQ (show RAllRel by_ W (w3.alloc (.cells #[.int .i64 x1,.int .i64 x2,.int .i64 x3,.int .i64 x4] 28)) W.heap.size u3 (.int .i64 ((i:Int)+1+1)) (i+1) from ⟨hlt,by rw [aoJ];rfl,by rw [HS.out];simpa using HO3.out,HB3.out⟩);clear hxe;go_wp2;go_roundw
    case rel=>exact ⟨_,HST.out⟩
    case measure=>simp [intOf];omega
  ·have hi5:i=5:=by omega
   subst hi5;obtain ⟨A,cp,rfl⟩:=tE HO.out;have HF:=aaQ (show AQ (nY by_ 5) w (.returned (.slice A (nY by_ 5).length cp)) wr from ⟨A,cp,rfl,PS HO.out (by omega),HB2.out.trans (hbel.mono HB2.out.size)⟩);clear hbel;go_wp2;go_ret;exact HF.out
noncomputable def AA (l:List gR):gR:=match mP yN (l.getD 0 qO) (l.drop 1) with
 | none=>qO
 | some x=>x
theorem PX {a b c d e f:Int} {l:List gR} (hl:0<l.length∧l.length≤1000) (ha:∀w,gF w→Calls Tryz.prog 17 #[kW a b c d e f] w (AQ l w)) (w:World) (hg:gF w):
  Calls Tryz.prog 18 #[kW a b c d e f] w (GP (solC (AA l)) w):=by
 have HG:=aaQ hg;have HL:=aaQ hl;have HB0:=aaQ (((acQ w.heap.size w).alloc (aaX _) (.cells ⟨[.int .i64 a,.int .i64 b,.int .i64 c,.int .i64 d,.int .i64 e,.int .i64 f]⟩ 25)).alloc (by simp) (.cells #[.int .i64 0,.int .i64 0,.int .i64 0,.int .i64 0] 28));have HK0:=aaQ (show Bk ((w.alloc (.cells ⟨[.int .i64 a,.int .i64 b,.int .i64 c,.int .i64 d,.int .i64 e,.int .i64 f]⟩ 25)).alloc (.cells #[.int .i64 0,.int .i64 0,.int .i64 0,.int .i64 0] 28)) (w.heap.size+1) qO by
  have:=Bk.new (w.alloc (.cells ⟨[.int .i64 a,.int .i64 b,.int .i64 c,.int .i64 d,.int .i64 e,.int .i64 f]⟩ 25)) qO;simpa [qO] using this)
 have HA:=aaQ (ha _ (hg.below HB0.out));clear ha hg hl;unfold kW at HA ⊢;go_enter Tryz.func18,Tryz.ntmps18;go_wp2_with fail
 refine HA.out.mono ?_;rintro e w1 ⟨A,cp,rfl,hown,hb1⟩;have HB1:=aaQ (HB0.out.trans (hb1.mono (by simp;omega)));have HK1:=aaQ (HK0.out.below hb1 (by simp));have hs1:=hb1.size;simp at hs1;have HM:=aaQ (rmeet_any aA5 A _ cp l _ (HG.out.below HB1.out) (IX hown (by have:=HL.out;omega)) HL.out.1 HL.out.2);clear hb1 hown HA;go_wp2_with fail
 refine HM.out.mono ?_;rintro e w2 ⟨rfl,hb2⟩;have HB2:=aaQ (HB1.out.trans (hb2.mono HB1.out.size));have HK2:=aaQ (HK1.out.next hb2);clear hb2;obtain ⟨x1,x2,x3,x4,o,hx,hr⟩:∃x1 x2 x3 x4 o,AA l=(x1,x2,x3,x4)∧rmV (mP yN (l.getD 0 qO) (l.drop 1))=.tuple #[.agg #[.int .i64 x1,.int .i64 x2,.int .i64 x3,.int .i64 x4],.bool o]:=by
  unfold AA;cases mP yN (l.getD 0 qO) (l.drop 1) with
  | none=>exact ⟨0,0,0,0,false,rfl,rfl⟩
  | some x=>exact ⟨x.1,x.2.1,x.2.2.1,x.2.2.2,true,rfl,rfl⟩
 have HF:=aaQ (show ∀w',Below w.heap.size w w'→GP (solC (AA l)) w (.returned (.agg #[.int .i64 x1,.int .i64 x2,.int .i64 x3,.int .i64 x4])) w' from fun w' hb=>⟨by rw [hx];rfl,hb⟩);rw [hr];clear hx hr;have HN:=aaQ (Bk.new w2 (x1,x2,x3,x4));obtain ⟨⟨r0,r1,r2,r3⟩,l0,l1,l2,l3⟩:=HN.out.keep;obtain ⟨⟨q0,q1,q2,q3⟩,m0,m1,m2,m3⟩:=HK2.out.keep;have hlt:=HN.out.lt;have hlk:=HK2.out.lt;dsimp only at r0 r1 r2 r3;obtain ⟨⟨z0,z1,z2,z3⟩,_⟩:=((show Bk _ (w.heap.size+1) (x1,x2,x3,x4) from HK2.out.write (x1,x2,x3,x4)).next ((acQ _ _).alloc (aaX _) (.cells #[.int .i64 x1,.int .i64 x2,.int .i64 x3,.int .i64 x4] 28))).keep;dsimp only at z0 z1 z2 z3;have hs2:=HB2.out.size;go_wp2;refine bodyPost_ret (v:=.agg #[.int .i64 x1,.int .i64 x2,.int .i64 x3,.int .i64 x4]) (by simp [results,Tryz.results18,go_sem,z0,z1,z2,z3]) rfl (HF.out _ ?_);exact (Below.set4 HB2.out (by omega) _ _ _ _).alloc (by simp;omega) _
theorem equalS_any (A A':Option Addr) (n c c':Nat) (l:List gR) (w:World) (h:Sols w A n l) (h':Sols w A' n l):
  Calls Tryz.prog 16 #[.slice A n c,.slice A' n c'] w (GP (.bool true) w):=by
 have hn:=h.le;have HS:=aaQ h;have HT:=aaQ h';have HF:=aaQ (show ∀w',Below w.heap.size w w'→GP (.bool true) w (.returned (.bool true)) w' from fun w' hb=>⟨rfl,hb⟩);clear h h';go_enter Tryz.func16,Tryz.ntmps16;go_wp2;go_loopw [13] (fun i wr=>∃k:Nat,k≤n∧i=.int .i64 k∧Below w.heap.size w wr) (fun i _=>n-(intOf i).toNat)
 case atStart=>exact ⟨0,Nat.zero_le _,rfl,acQ _ _⟩
 case round=>
  obtain ⟨k,hk,rfl,hbel⟩:=hrel;have HB:=aaQ hbel;by_cases hlt:k<n
  ·obtain ⟨b,off,a1,a2,a3,a4,rfl,hb,hy,d0,d1,d2,d3⟩:=HS.out.at_ hlt hbel;obtain ⟨b',off',a1',a2',a3',a4',rfl,hb',hy',d0',d1',d2',d3'⟩:=HT.out.at_ hlt hbel;rw [hy] at hy';obtain ⟨rfl,rfl,rfl,rfl⟩:a1=a1'∧a2=a2'∧a3=a3'∧a4=a4':=by
    simpa using hy'
   have hq:=fun w=>eqSol (a1,a2,a3,a4) (a1,a2,a3,a4) w;rw [(eqS_iff _ _).2 rfl] at hq;dsimp only at hq;clear hbel hy hy';go_wp2_with fail
   go_quiet (fail)
   go_wp2;go_roundw
   case rel=>exact ⟨k+1,by omega,by go_num,RL HB.out _⟩
   case measure=>simp [intOf];omega
  ·clear hbel;go_wp2;go_ret;exact HF.out _ HB.out
open SM TB TA in
theorem CZ {a b c d e f:Int} (hv:cS a b c d e f=true):∃x:gR,oC a b c d e f=(x.1,x.2.1,x.2.2.1,x.2.2.2,0)∧AA (uZ a b c d e f)=x∧0<(uZ a b c d e f).length∧-5400000≤x.1∧x.1≤x.2.1∧x.2.1≤5400000:=by
 obtain ⟨x0,y0,t0⟩:=xY hv;obtain ⟨h',z',s'⟩:=sees (a:Rat) (c:Rat) (e:Rat);obtain ⟨q,e1,gq,hin⟩:=best_good hv x0 y0 t0 s';obtain ⟨h4,hg⟩:=VB hv x0 y0 t0 s';have h5:=vC a b c d e f;obtain ⟨H,Z,c1,_,hd⟩:=vM hv;have hm:=by_mem (a:=a) (b:=b) (c:=c) (d:=d) (e:=e) (f:=f) 1 (by omega) (by omega) (q:=(H.1,H.2.1,Z.1,Z.2.1)) (by
  show okS (zH (iQ a b c d e f))=_;rw [c1];rfl)
 have hb:=hin _ hm;have hl:=hd.lat;have va:=dG (jL gq.val).1;have hl1:-5400000≤H.1:=hl.1;have hl2:H.2.1≤5400000:=hl.2.2.1;have hb1:H.1≤q.1:=hb.1;have hb2:q.2.1≤H.2.1:=hb.2;refine ⟨q,e1,?_,by omega,by omega,va.2.1,by omega⟩;unfold oC at e1;rw [if_pos hv] at e1;cases hL:uZ a b c d e f with
 | nil=>rw [hL] at h4;simp at h4
 | cons s r=>
  rw [hL] at e1 hg h5;have hany:(s::r).any (fun s=> !gB s)=false:=by
   rw [List.any_eq_false];intro t ht;rw [(hg t ht).val];simp
  rw [BS (by omega) hany] at e1;have hr:=PZ r s (hg s (by simp)).val (fun t ht=>(hg t (by simp [ht])).val);unfold AA;show (match mP yN s r with | none=>qO | some x=>x)=q;rw [hr];cases hx:qB s r with
  | none=>
   rw [hx] at e1;have h23:(23:Int)=0:=congrArg (fun r:Int×Int×Int×Int×Int=>r.2.2.2.2) e1;omega
  | some x=>
   rw [hx] at e1;obtain ⟨x1,x2,x3,x4⟩:=x;obtain ⟨q1,q2,q3,q4⟩:=q;simp only [Prod.mk.injEq] at e1;obtain ⟨h1,h2,h3,h4,_⟩:=e1;show (x1,x2,x3,x4)=(q1,q2,q3,q4);rw [h1,h2,h3,h4]
theorem rby5 {a b c d e f:Int}:∀m,1≤m→m≤5→aH Tryz.prog 12 [.int .i64 m,kW a b c d e f] (dV (byM m a b c d e f)):=fun m h1 h5=>by
 have:=PY m a b c d e f;unfold byN at this;rwa [if_pos ⟨h1,h5⟩] at this
theorem ralls {a b c d e f:Int} (w:World) (hg:gF w):Calls Tryz.prog 17 #[kW a b c d e f] w (AQ (uZ a b c d e f) w):=rall_any rby5 w hg
end
end Go.Proofs.YtmididlfnajhiaaGreatDoor
