/-
  Enclosures grow with what they enclose: sines over arcs, products, sums, differences, quotients, haversines' angles. No program here. What the program's enclosures hold: sines, cosines, haversines,.
-/
import Derived.Test.YtmididlfnajhiaaGreatDoorU5
import Derived.Test.YtmididlfnajhiaaGreatDoorU6
import Derived.Test.YtmididlfnajhiaaGreatDoorU2
set_option maxRecDepth 100000
set_option maxHeartbeats 4000000
open _root_.Int renaming ediv_mul_le→aqQ,ediv_nonneg→asQ,le_refl→aeX,le_total→atQ,lt_or_le→akZ,mul_comm→akQ,mul_le_mul_of_nonneg_left→afX,mul_le_mul_of_nonneg_right→adZ,mul_nonneg→aeZ,natCast_mul→aiQ,neg_neg→ayJ
open _root_.Nat renaming mul_le_mul→agQ,zero_le→adX
open _root_.Rat renaming intCast_add→adQ,intCast_le_intCast→acJ,intCast_mul→abJ,intCast_natCast→agZ,intCast_neg→afZ,intCast_sub→acZ,le_total→adJ,mul_assoc→asX,mul_comm→aoZ,mul_le_mul_of_nonneg_left→aaJ,mul_le_mul_of_nonneg_right→abQ,mul_nonneg→aaZ,one_mul→baX
namespace Go.Proofs.YtmididlfnajhiaaGreatDoor
section
open SM
theorem YX {m n:Int} (h0:-5400000≤m) (h:m≤n) (h1:n≤5400000):fZ m≤fZ n:=by
 have a:=(SO (-m) (by omega) (by omega)).1;have b:=(SO (-n) (by omega) (by omega)).1;have c:=pE (m:=-n) (n:=-m) (by omega) (by omega) (by omega);rw [ayJ] at a b;omega
theorem lob_cong {m n:Int} (h:m%21600000=n%21600000):fZ m=fZ n∧jF m=jF n:=by
 unfold fZ jF dW gZ;rw [h];exact ⟨rfl,rfl⟩
def fD (n:Int):Int:=(n+5400000)%21600000-5400000
theorem mZ (n:Int):fZ n=fZ (fD n)∧jF n=jF (fD n):=lob_cong (by unfold fD;omega)
theorem BP {m:Int} (_h0:5400000≤m) (_h1:m≤16200000):fZ m=fZ (10800000-m)∧jF m=jF (10800000-m):=by
 have:=lob_sym (m-5400000);rw [show m-5400000+5400000=m by omega,show 5400000-(m-5400000)=10800000-m by omega] at this;exact this
theorem KA {lo hi n:Int} (h1:lo≤n) (h2:n≤hi):mX lo hi≤fZ n:=by
 unfold mX;by_cases hm:kB lo hi 16200000=true
 ·rw [if_pos hm];have:=lO n;omega
 ·rw [if_neg hm];have hm':¬(16200000-lo)%21600000≤hi-lo:=fun q=>hm (decide_eq_true q);have e1:fD n=fD lo+(n-lo):=by unfold fD;omega
  have e2:fD hi=fD lo+(hi-lo):=by unfold fD;omega
  have b1:-5400000<fD lo:=by unfold fD;omega
  have b2:fD hi<16200000:=by unfold fD;omega
  rw [(mZ n).1,(mZ lo).1,(mZ hi).1];by_cases q:fD n≤5400000
  ·have:=YX (m:=fD lo) (n:=fD n) (by omega) (by omega) q;omega
  ·rw [(BP (m:=fD n) (by omega) (by omega)).1];have h3:=(BP (m:=fD hi) (by omega) (by omega)).1;have:=YX (m:=10800000-fD hi) (n:=10800000-fD n) (by omega) (by omega) (by omega);omega
theorem JZ {lo hi n:Int} (h1:lo≤n) (h2:n≤hi):jF n≤mW lo hi:=by
 unfold mW;by_cases hm:kB lo hi 5400000=true
 ·rw [if_pos hm];have:=lO n;omega
 ·rw [if_neg hm];have hm':¬(5400000-lo)%21600000≤hi-lo:=fun q=>hm (decide_eq_true q);by_cases q:fD n≤5400000
  ·by_cases q2:fD hi≤5400000∧fD n≤fD hi
   ·have:=pE (m:=fD n) (n:=fD hi) (by unfold fD;omega) q2.2 q2.1;rw [(mZ n).2,(mZ hi).2];omega
   ·exfalso;unfold fD at q q2;omega
  ·have b1:fD n<16200000:=by unfold fD;omega
   have e1:5400000<fD lo∧fD lo≤fD n:=by unfold fD at*;omega
   rw [(mZ n).2,(mZ lo).2,(BP (m:=fD n) (by omega) (by omega)).2];have h3:=(BP (m:=fD lo) (by omega) (by omega)).2;have:=pE (m:=10800000-fD n) (n:=10800000-fD lo) (by omega) (by omega) (by omega);omega
theorem PB {a b:Int} (h:a≤b):mX a b≤mW a b:=by
 have h1:=KA (lo:=a) (hi:=b) (n:=a) (by omega) h;have h2:=JZ (lo:=a) (hi:=b) (n:=a) (by omega) h;have:=lO a;omega
def Within (r s:Int×Int×Int):Prop:=r.2.2=0∧s.2.2=0∧s.1≤r.1∧r.1≤r.2.1∧r.2.1≤s.2.1
theorem bE {a b:Int} (h1:-1099511627776≤a) (h2:a≤b) (h3:b≤1099511627776):aF a b=true:=decide_eq_true ⟨h1,h2,h3⟩
theorem kD {a b:Int} (h:aF a b=true):(-1073741824≤(aW a b).1∧(aW a b).1≤(aW a b).2.1∧(aW a b).2.1≤1073741824∧(aW a b).2.2=0)∧(-1073741824≤(aN a b).1∧(aN a b).1≤(aN a b).2.1∧(aN a b).2.1≤1073741824∧(aN a b).2.2=0)∧
  (0≤(eJ a b).1∧(eJ a b).1≤(eJ a b).2.1∧(eJ a b).2.1≤1073741824∧(eJ a b).2.2=0):=by
 have hv:=dG h;have h1:=RW a b;have h2:=RW (a+5400000) (b+5400000);have h3:=PB (a:=a) (b:=b) (by omega);have h4:=PB (a:=a+5400000) (b:=b+5400000) (by omega);simp [aW,aN,eJ,h];omega
theorem lin_x {a x b:Int} (y:Int) (h1:a≤x) (h2:x≤b):(a*y≤x*y∧x*y≤b*y)∨(b*y≤x*y∧x*y≤a*y):=by
 rcases atQ 0 y with h | h
 ·exact .inl ⟨adZ h1 h,adZ h2 h⟩
 ·exact .inr ⟨Int.mul_le_mul_of_nonpos_right h2 h,Int.mul_le_mul_of_nonpos_right h1 h⟩
theorem lin_y {c y d:Int} (x:Int) (h1:c≤y) (h2:y≤d):(x*c≤x*y∧x*y≤x*d)∨(x*d≤x*y∧x*y≤x*c):=by
 have:=lin_x (a:=c) (x:=y) (b:=d) x h1 h2;rw [akQ c x,akQ y x,akQ d x] at this;exact this
theorem mn4 (p q r s:Int):(mn (mn (mn p q) r) s≤p∧mn (mn (mn p q) r) s≤q∧mn (mn (mn p q) r) s≤r∧mn (mn (mn p q) r) s≤s)∧
  (mn (mn (mn p q) r) s=p∨mn (mn (mn p q) r) s=q∨mn (mn (mn p q) r) s=r∨mn (mn (mn p q) r) s=s):=by
 have h1:=wG p q;have h2:=wG (mn p q) r;have h3:=wG (mn (mn p q) r) s;omega
theorem mx4 (p q r s:Int):(p≤mx (mx (mx p q) r) s∧q≤mx (mx (mx p q) r) s∧r≤mx (mx (mx p q) r) s∧s≤mx (mx (mx p q) r) s)∧
  (mx (mx (mx p q) r) s=p∨mx (mx (mx p q) r) s=q∨mx (mx (mx p q) r) s=r∨mx (mx (mx p q) r) s=s):=by
 have h1:=wJ p q;have h2:=wJ (mx p q) r;have h3:=wJ (mx (mx p q) r) s;omega
theorem mul_has {a b c d x y:Int} (h1:a≤x) (h2:x≤b) (h3:c≤y) (h4:y≤d):pI a b c d≤x*y∧x*y≤pH a b c d:=by
 have e1:=lin_x y h1 h2;have e2:=lin_y a h3 h4;have e3:=lin_y b h3 h4;have l:=(mn4 (a*c) (a*d) (b*c) (b*d)).1;have u:=(mx4 (a*c) (a*d) (b*c) (b*d)).1;unfold pI pH;omega
theorem mulL_at (a b c d:Int):∃x y,(x=a∨x=b)∧(y=c∨y=d)∧pI a b c d=x*y:=by
 rcases (mn4 (a*c) (a*d) (b*c) (b*d)).2 with h | h | h | h
 ·exact ⟨a,c,.inl rfl,.inl rfl,h⟩
 ·exact ⟨a,d,.inl rfl,.inr rfl,h⟩
 ·exact ⟨b,c,.inr rfl,.inl rfl,h⟩
 ·exact ⟨b,d,.inr rfl,.inr rfl,h⟩
theorem mulH_at (a b c d:Int):∃x y,(x=a∨x=b)∧(y=c∨y=d)∧pH a b c d=x*y:=by
 rcases (mx4 (a*c) (a*d) (b*c) (b*d)).2 with h | h | h | h
 ·exact ⟨a,c,.inl rfl,.inl rfl,h⟩
 ·exact ⟨a,d,.inl rfl,.inr rfl,h⟩
 ·exact ⟨b,c,.inr rfl,.inl rfl,h⟩
 ·exact ⟨b,d,.inr rfl,.inr rfl,h⟩
theorem fR {a b:Int} (h:aG a b=true):-2147483648≤a∧a≤b∧b≤2147483648:=by simpa [aG] using h
theorem dH {a b:Int} (h1:-2147483648≤a) (h2:a≤b) (h3:b≤2147483648):aG a b=true:=decide_eq_true ⟨h1,h2,h3⟩
theorem iC {a b c d:Int} (h1:aG a b=true) (h2:aG c d=true):eQ a b c d=true:=by unfold eQ;rw [h1,h2];rfl
theorem fit_ok {a b:Int} (h:(kN a b).2.2=0):aG a b=true∧kN a b=(a,b,0):=by
 unfold kN at h ⊢;split at h
 ·rename_i hv;exact ⟨hv,by rw [if_pos hv]⟩
 ·cases h
theorem KH {a b:Int} (h:aG a b=true):kN a b=(a,b,0):=by unfold kN;rw [if_pos h]
theorem RM {f:Int×Int×Int} {a b c d:Int} (h:(if eQ a b c d=true then f else (0,0,1)).2.2=0):eQ a b c d=true∧f.2.2=0:=by
 split at h
 ·rename_i hb;exact ⟨hb,h⟩
 ·cases h
theorem PN {a b c d:Int} (h1:a≤b) (h2:c≤d):pI a b c d≤pH a b c d:=by
 have:=mul_has (a:=a) (b:=b) (c:=c) (d:=d) (x:=a) (y:=c) (by omega) h1 (by omega) h2;omega
theorem mul_one {a b c d:Int} (h1:-1073741824≤a) (h2:a≤b) (h3:b≤1073741824) (h4:-1073741824≤c) (h5:c≤d) (h6:d≤1073741824):
  (bT a b c d).2.2=0∧-1073741824≤(bT a b c d).1∧(bT a b c d).1≤(bT a b c d).2.1∧(bT a b c d).2.1≤1073741824:=by
 have bd:∀x y:Int,-1073741824≤x→x≤1073741824→-1073741824≤y→y≤1073741824→-1152921504606846976≤x*y∧x*y≤1152921504606846976:=fun x y p q r s=>by
  have h:(x*y).natAbs=x.natAbs*y.natAbs:=Int.natAbs_mul x y;have:x.natAbs*y.natAbs≤1073741824*1073741824:=agQ (by omega) (by omega);omega
 unfold bT;rw [if_pos (iC (dH (by omega) h2 (by omega)) (dH (by omega) h5 (by omega)))];obtain ⟨x,y,hx,hy,e⟩:=mulL_at a b c d;obtain ⟨x2,y2,hx2,hy2,e2⟩:=mulH_at a b c d;have q1:=bd x y (by omega) (by omega) (by omega) (by omega);have q2:=bd x2 y2 (by omega) (by omega) (by omega) (by omega);have q3:=PN h2 h5;rw [KH (dH (by omega) (by omega) (by omega))];refine ⟨rfl,?_,?_,?_⟩<;>dsimp only<;>omega
theorem sN {x x' y:Int} (hy:0<y) (h:x≤x'):x/y≤x'/y:=Int.ediv_le_ediv hy h
theorem sO {x y y':Int} (hy:0<y) (h:y≤y'):(0≤x→x/y'≤x/y)∧(x≤0→x/y≤x/y'):=by
 constructor
 ·intro hx;have h0:0≤x/y':=asQ hx (by omega);have h1:x/y'*y'≤x:=aqQ x (by omega);have h2:x/y'*y≤x/y'*y':=afX h h0;exact (Int.le_ediv_iff_mul_le hy).2 (by omega)
 ·intro hx;have h0:x/y≤0:=Int.ediv_nonpos_of_nonpos_of_neg hx (by omega);have h1:x/y*y≤x:=aqQ x (by omega);have h2:x/y*y'≤x/y*y:=Int.mul_le_mul_of_nonpos_left h0 h;exact (Int.le_ediv_iff_mul_le (by omega)).2 (by omega)
theorem div_mid {x c y d:Int} (hc:0<c) (h1:c≤y) (h2:y≤d):(x/c≤x/y∧x/y≤x/d)∨(x/d≤x/y∧x/y≤x/c):=by
 rcases atQ 0 x with h | h
 ·exact .inr ⟨(sO (y:=y) (y':=d) (by omega) h2).1 h,(sO (y:=c) (y':=y) hc h1).1 h⟩
 ·exact .inl ⟨(sO (y:=c) (y':=y) hc h1).2 h,(sO (y:=y) (y':=d) (by omega) h2).2 h⟩
theorem RY {x c y d:Int} (hz:0<c∨d<0) (h1:c≤y) (h2:y≤d):(iZ x c≤iZ x y∧iZ x y≤iZ x d)∨(iZ x d≤iZ x y∧iZ x y≤iZ x c):=by
 unfold iZ;rcases hz with hz | hz
 ·rw [if_pos (by omega),if_pos (by omega),if_pos (by omega)];exact div_mid hz h1 h2
 ·rw [if_neg (by omega),if_neg (by omega),if_neg (by omega)];have:=div_mid (x:=-x) (c:=-d) (y:=-y) (d:=-c) (by omega) (by omega) (by omega);omega
theorem fl_x {a x b y:Int} (hy:y≠0) (h1:a≤x) (h2:x≤b):(iZ a y≤iZ x y∧iZ x y≤iZ b y)∨(iZ b y≤iZ x y∧iZ x y≤iZ a y):=by
 unfold iZ;by_cases h:0<y
 ·rw [if_pos h,if_pos h,if_pos h];exact .inl ⟨sN h h1,sN h h2⟩
 ·rw [if_neg h,if_neg h,if_neg h];exact .inr ⟨sN (by omega) (by omega),sN (by omega) (by omega)⟩
theorem mn5 (z p q r s:Int) (hz:z=p):(mn (mn (mn (mn z p) q) r) s≤p∧mn (mn (mn (mn z p) q) r) s≤q∧mn (mn (mn (mn z p) q) r) s≤r∧mn (mn (mn (mn z p) q) r) s≤s)∧
  (mn (mn (mn (mn z p) q) r) s=p∨mn (mn (mn (mn z p) q) r) s=q∨mn (mn (mn (mn z p) q) r) s=r∨mn (mn (mn (mn z p) q) r) s=s):=by
 have h0:=wG z p;have h1:=wG (mn z p) q;have h2:=wG (mn (mn z p) q) r;have h3:=wG (mn (mn (mn z p) q) r) s;omega
theorem mx5 (z p q r s:Int) (hz:z=p):(p≤mx (mx (mx (mx z p) q) r) s∧q≤mx (mx (mx (mx z p) q) r) s∧r≤mx (mx (mx (mx z p) q) r) s∧s≤mx (mx (mx (mx z p) q) r) s)∧
  (mx (mx (mx (mx z p) q) r) s=p∨mx (mx (mx (mx z p) q) r) s=q∨mx (mx (mx (mx z p) q) r) s=r∨mx (mx (mx (mx z p) q) r) s=s):=by
 have h0:=wJ z p;have h1:=wJ (mx z p) q;have h2:=wJ (mx (mx z p) q) r;have h3:=wJ (mx (mx (mx z p) q) r) s;omega
theorem BE {a b c d x y:Int} (hz:0<c∨d<0) (h1:a≤x) (h2:x≤b) (h3:c≤y) (h4:y≤d):zN a b c d≤iZ (x*1073741824) y∧oE (x*1073741824) y≤zM a b c d:=by
 have e1:=fl_x (a:=a*1073741824) (x:=x*1073741824) (b:=b*1073741824) (y:=y) (by omega) (by omega) (by omega);have e2:=RY (x:=a*1073741824) hz h3 h4;have e3:=RY (x:=b*1073741824) hz h3 h4;have f1:=fl_x (a:=-(b*1073741824)) (x:=-(x*1073741824)) (b:=-(a*1073741824)) (y:=y) (by omega) (by omega) (by omega);have f2:=RY (x:=-(a*1073741824)) hz h3 h4;have f3:=RY (x:=-(b*1073741824)) hz h3 h4;have l:=(mn5 (iZ (a*1073741824) c) (iZ (a*1073741824) c) (iZ (a*1073741824) d) (iZ (b*1073741824) c) (iZ (b*1073741824) d) rfl).1;have u:=(mx5 (oE (a*1073741824) c) (oE (a*1073741824) c) (oE (a*1073741824) d) (oE (b*1073741824) c) (oE (b*1073741824) d) rfl).1;unfold zN zM;unfold oE at u ⊢;omega
theorem fl_ce (x y:Int) (hy:y≠0):iZ x y≤oE x y:=by
 unfold oE iZ;by_cases h:0<y
 ·rw [if_pos h,if_pos h];have h1:x/y*y≤x:=aqQ x (by omega);have h2:-x/y*y≤-x:=aqQ (-x) (by omega);have h3:(x/y+-x/y)*y≤0:=by rw [Int.add_mul];omega
  have:x/y+-x/y≤0:=by
   rcases akZ 0 (x/y+-x/y) with q | q
   ·have:=Int.mul_pos q h;omega
   ·exact q
  omega
 ·rw [if_neg h,if_neg h,ayJ];have hy':0< -y:=by omega
  have h1:-x/ -y*-y≤-x:=aqQ (-x) (by omega);have h2:x/ -y*-y≤x:=aqQ x (by omega);have h3:(-x/ -y+x/ -y)*-y≤0:=by rw [Int.add_mul];omega
  have:-x/ -y+x/ -y≤0:=by
   rcases akZ 0 (-x/ -y+x/ -y) with q | q
   ·have:=Int.mul_pos q hy';omega
   ·exact q
  omega
theorem asn_order {u v:Int} (hu:-1073741824≤u) (h:u≤v) (hv:v≤1073741824):mF u≤-mF (-v):=by
 have a:=pA u hu;have b:=pA (-v) (by omega);obtain ⟨a1,a2,a3,_⟩:=a;obtain ⟨b1,b2,b3,_⟩:=b;have c:=(SO (mF (-v)) b1 b2).1;rcases akZ (-mF (-v)) (mF u) with q | q
 ·have:=strict (m:=-mF (-v)) (n:=mF u) (by omega) q a2;omega
 ·exact q
theorem asin_ok {x y:Int} (h:(aV x y).2.2=0):aG x y=true∧max x (-1073741824)≤min y 1073741824∧aV x y=(mF (max x (-1073741824)),-mF (-min y 1073741824),0):=by
 unfold aV at h ⊢;cases hv:aG x y with
 | false=>rw [hv] at h;simp at h
 | true=>
  rw [hv] at h;simp only [Bool.true_eq_false,if_false] at h ⊢;split at h
  ·rename_i q;exact ⟨trivial,q,by rw [if_pos q]⟩
  ·cases h
theorem asin_grow {a b c d:Int} (hv:aG c d=true) (h:(aV a b).2.2=0) (h1:c≤a) (h3:b≤d):Within (aV a b) (aV c d):=by
 obtain ⟨v1,v2,v3⟩:=asin_ok h;have e:aV c d=(mF (max c (-1073741824)),-mF (-min d 1073741824),0):=by
  unfold aV;rw [hv];simp only [Bool.true_eq_false,if_false];rw [if_pos (by omega)]
 rw [v3,e];have q1:=VO (u:=max c (-1073741824)) (v:=max a (-1073741824)) (by omega) (by omega);have q2:=VO (u:=-min d 1073741824) (v:=-min b 1073741824) (by omega) (by omega);have q3:=asn_order (u:=max a (-1073741824)) (v:=min b 1073741824) (by omega) v2 (by omega);refine ⟨rfl,rfl,?_,?_,?_⟩<;>dsimp only<;>omega
end
section
namespace TB
open SM TA
theorem DP (a b:Int):((a+b:Int):Rat)=(a:Rat)+(b:Rat):=adQ a b
theorem cQ {a b:Int} (h:a≤b):(a:Rat)≤(b:Rat):=acJ.2 h
theorem GJ {a b:Int} (h:a<b):(a:Rat)+1≤(b:Rat):=by
 have:=cQ (show a+1≤b by omega);rw [DP] at this;exact this
theorem c_le {a b:Int} (h:(a:Rat)≤(b:Rat)):a≤b:=acJ.1 h
theorem LO {a b:Int} {e:Rat} (h:(a:Rat)≤(b:Rat)+e) (he:e<1):a≤b:=by
 rcases akZ b a with q | q
 ·have:=GJ q;grind
 ·exact q
theorem mod_eq (n:Int):si (n:Rat)=si ((n%21600000:Int):Rat)∧co (n:Rat)=co ((n%21600000:Int):Rat):=by
 have e:(n:Rat)=((n%21600000:Int):Rat)+21600000*((n/21600000:Int):Rat):=by
  have h:((n%21600000+21600000*(n/21600000):Int):Rat)=(n:Rat):=by rw [Int.emod_add_mul_ediv]
  rw [DP,abJ] at h;exact h.symm
 have t:=iF ((n%21600000:Int):Rat) (n/21600000);rw [←e] at t;exact ⟨t.2,t.1⟩
theorem LY (q:Rat):Cl (22000*u0) (si (10800000-q)) (si q):=by
 have o:=(oppq (-q)).2;have n:=(BU q).2.neg;have u:=cT;rw [show -q+10800000=10800000-q by grind] at o;rw [show- -si q=si q by grind] at n;exact (o.trans n).wide (by grind)
theorem th_near:-(1/2^80)≤(tb-th)*5400000∧(tb-th)*5400000≤1/2^80:=by decide+kernel
theorem tail_B:En 652 (8/5)-En 100 (8/5)≤1/2^100:=by decide+kernel
theorem tail_0:En 100 (1/2^80)-En 0 (1/2^80)≤1/2^79:=by decide+kernel
theorem near_TB (k:Nat) (h:k≤5400000):Cl (1/2^60) (si (k:Rat)) (T k):=by
 have n:=near_T k h;have k0:(0:Rat)≤(k:Rat):=by exact_mod_cast adX k
 have k1:(k:Rat)≤5400000:=by
  have:(k:Rat)≤((5400000:Nat):Rat):=by exact_mod_cast h
  exact this
 have e:rd (k:Int)=(k:Int):=by unfold rd;omega
 have ek:((k:Int):Rat)=(k:Rat):=rfl;have es:si (k:Rat)=Sn 652 (tb*(k:Rat)):=by
  unfold si;rw [tK (by grind) (by grind)];rfl
 have eq:kG (k:Int)=Sn 100 (th*(k:Rat)):=by
  unfold kG;rw [e,ek]
 have x:=tb_q k0 k1;have a:=QL 100 552 652 rfl (x:=tb*(k:Rat)) (X:=8/5) (by grind) x.2 tail_B;have t:=th_near;have t0:=th_bd;have d:-(1/2^80)≤(tb-th)*(k:Rat)∧(tb-th)*(k:Rat)≤1/2^80:=by
  have z:(0:Rat)≤1/2^80:=by decide+kernel
  have e:(tb-th)*(k:Rat)*5400000=(tb-th)*5400000*(k:Rat):=by grind
  have m1:=aaZ (show 0≤1/2^80-(tb-th)*5400000 by grind) k0;have m2:=aaZ (show 0≤1/2^80+(tb-th)*5400000 by grind) k0;have m3:=aaZ z (show 0≤5400000-(k:Rat) by grind);generalize (tb-th)*(k:Rat)=y at*;constructor<;>grind
 have hy:-(32/5)≤(tb-th)*(k:Rat)∧(tb-th)*(k:Rat)≤32/5:=by constructor<;>grind
 have hx:-(32/5)≤th*(k:Rat)∧th*(k:Rat)≤32/5:=by
  have:th*(k:Rat)=tb*(k:Rat)-(tb-th)*(k:Rat):=by grind
  rw [this];constructor<;>grind
 have ad:=(oZ 100 (x:=th*(k:Rat)) (y:=(tb-th)*(k:Rat)) (X:=32/5) hx.1 hx.2 hy.1 hy.2).2;have r:=BX;have b:=TD hx.1 hx.2;have c:=aAJ 0 100 100 rfl (x:=(tb-th)*(k:Rat)) (X:=1/2^80) d.1 d.2 tail_0;have s:=QL 0 100 100 rfl (x:=(tb-th)*(k:Rat)) (X:=1/2^80) d.1 d.2 tail_0;have c0:Cn 0 ((tb-th)*(k:Rat))=1:=by simp [Cn,sm,sc,P];grind
 have s0:Sn 0 ((tb-th)*(k:Rat))=0:=by simp [Sn,sm,ss,P];grind
 rw [c0] at c;rw [s0] at s;rw [show th*(k:Rat)+(tb-th)*(k:Rat)=tb*(k:Rat) by grind] at ad;have m1:=gT b.2 (c:=Cn 100 ((tb-th)*(k:Rat))-1) (k:=1/2^79) ⟨by grind,by grind⟩;have m2:=gT b.1 (c:=Sn 100 ((tb-th)*(k:Rat))-0) (k:=1/2^79) ⟨by grind,by grind⟩;rw [eq] at n;rw [es];unfold Cl;clear b c s d hx hy x t t0;generalize Sn 100 (th*(k:Rat))=A at*;generalize Cn 100 (th*(k:Rat))=B at*;generalize Cn 100 ((tb-th)*(k:Rat))=D at*;generalize Sn 100 ((tb-th)*(k:Rat))=E at*;generalize Sn 100 (tb*(k:Rat))=F at*;generalize Sn 652 (tb*(k:Rat))=G at*;generalize rest 100 (32/5)=R at*;constructor<;>grind
def Sq (q:Rat):Rat:=1073741824*si q
def Cq (q:Rat):Rat:=1073741824*co q
theorem tW:1073741824*1048576*e0≤e1:=by decide+kernel
theorem flo_B (k:Nat) (hk:k≤5400000):(lX k:Rat)-e1≤Sq (k:Rat)∧Sq (k:Rat)≤(uS k:Rat)+e1:=by
 have g:iA=77371252455336267181195264:=rfl;have eb:=iR;unfold Sq;cases hx:jP k with
 | false=>
  have n:=near_TB k hk;have e:((uS k:Int):Rat)=(lX k:Rat)+1:=by
   unfold uS;rw [hx];show (((lX k:Int)+1:Int):Rat)=_;rw [adQ];rfl
  have p:=gap k hk hx;rw [g] at p;rw [e];unfold Cl at n;generalize si (k:Rat)=s at*;generalize T k=t at*;generalize (lX k:Rat)=f at*;constructor<;>grind
 | true=>
  have e:((uS k:Int):Rat)=(lX k:Rat):=by
   unfold uS;rw [hx];rfl
  rw [e];have h0:k=0∨k=1800000∨k=5400000:=by
   unfold jP at hx;simp only [Bool.or_eq_true,beq_iff_eq] at hx;omega
  have f0:((lX 0:Nat):Rat)=0:=rfl;have f1:((lX 1800000:Nat):Rat)=536870912:=rfl;have f2:((lX 5400000:Nat):Rat)=1073741824:=rfl;have u:=cT;have ee:e0=1048576*u0:=rfl;have be:=tW;rcases h0 with rfl | rfl | rfl
  ·rw [f0,show ((0:Nat):Rat)=0 by rfl,si_0];constructor<;>grind
  ·have x:=third_B;have y:si ((1800000:Nat):Rat)=Sn 652 (tb*1800000):=by
    unfold si;rw [show ((1800000:Nat):Rat)=1800000 by rfl,tK (by grind) (by grind)];rfl
   rw [f1,y];generalize Sn 652 (tb*1800000)=s at*;constructor<;>grind
  ·have x:=LU.2;rw [f2,show ((5400000:Nat):Rat)=5400000 by rfl];unfold Cl at x;generalize si 5400000=s at*;constructor<;>grind
theorem red_B (n:Int):(gZ n=false→Cl e0 (si (n:Rat)) (si (dW n:Rat)))∧(gZ n=true→Cl e0 (si (n:Rat)) (-si (dW n:Rat))):=by
 have ee:e0=1048576*u0:=rfl;have u:=cT;have cast:∀(m:Int) (k:Nat),(k:Int)=m→(k:Rat)=(m:Rat):=fun m k h=>by subst h;rfl
 unfold gZ dW;have m0:=Int.emod_nonneg n (show (21600000:Int)≠0 by omega);have m1:=Int.emod_lt_of_pos n (show (0:Int)<21600000 by omega);rw [(mod_eq n).1];generalize n%21600000=m at*;have z1:((10800000:Int):Rat)=10800000:=rfl;have z2:((21600000:Int):Rat)=21600000:=rfl;constructor
 ·intro h;have h:=of_decide_eq_false h;dsimp only;by_cases c:m≤5400000
  ·rw [if_pos c,cast m _ (by omega)];exact Cl.refl _ (by grind)
  ·rw [if_neg c,if_pos (by omega),cast (10800000-m) _ (by omega),acZ,z1];exact (LY _).symm.wide (by grind)
 ·intro h;have h:=of_decide_eq_true h;dsimp only;rw [if_neg (by omega),if_neg (by omega)];by_cases c:m≤16200000
  ·rw [if_pos c,cast (m-10800000) _ (by omega),acZ,z1];have o:=(oppq ((m:Rat)-10800000)).2;rw [show (m:Rat)-10800000+10800000=(m:Rat) by grind] at o;exact o.wide (by grind)
  ·rw [if_neg c,cast (21600000-m) _ (by omega),acZ,z2];have o:=(BU ((21600000:Rat)-m)).2;have t:=iF (-((21600000:Rat)-m)) 1;rw [show ((1:Int):Rat)=1 by rfl,show -((21600000:Rat)-m)+21600000*1=(m:Rat) by grind] at t;rw [←t.2] at o;exact o.wide (by grind)
theorem lob_B (n:Int):(fZ n:Rat)-2*e1≤Sq (n:Rat)∧Sq (n:Rat)≤(jF n:Rat)+2*e1:=by
 have f:=flo_B (dW n) (wN n);have r:=red_B n;have be:=tW;have eb:=eR;unfold fZ jF;unfold Sq at*;cases hs:gZ n with
 | false=>
  have r:=r.1 hs;simp only [Bool.false_eq_true,if_false];have e:(((lX (dW n):Nat):Int):Rat)=(lX (dW n):Rat):=rfl;rw [e];unfold Cl at r;generalize si (n:Rat)=x at*;generalize si (dW n:Rat)=y at*;generalize (lX (dW n):Rat)=p at*;generalize (uS (dW n):Rat)=q at*;constructor<;>grind
 | true=>
  have r:=r.2 hs;simp only [if_true];have e:(((lX (dW n):Nat):Int):Rat)=(lX (dW n):Rat):=rfl;rw [afZ,afZ,e];unfold Cl at r;generalize si (n:Rat)=x at*;generalize si (dW n:Rat)=y at*;generalize (lX (dW n):Rat)=p at*;generalize (uS (dW n):Rat)=q at*;constructor<;>grind
def Hs (e:Rat) (lo hi:Int) (X:Rat):Prop:=(lo:Rat)-e≤X∧X≤(hi:Rat)+e
theorem Hs.wide {e f:Rat} {lo hi lo' hi':Int} {X:Rat} (h:Hs e lo hi X) (he:e≤f) (h1:lo'≤lo) (h2:hi≤hi'):Hs f lo' hi' X:=by
 have a:=cQ h1;have b:=cQ h2;unfold Hs at*;constructor<;>grind
theorem Hs.near {e f:Rat} {lo hi:Int} {X Y:Rat} (h:Hs e lo hi X) (k:Cl f Y X):Hs (e+f) lo hi Y:=by
 unfold Hs Cl at*;constructor<;>grind
theorem Hs.int {e:Rat} {lo hi n:Int} (he:0≤e) (h1:lo≤n) (h2:n≤hi):Hs e lo hi (n:Rat):=by
 have a:=cQ h1;have b:=cQ h2;unfold Hs;constructor<;>grind
theorem Hs.meet {e f:Rat} {a b c d:Int} {X:Rat} (h:Hs e a b X) (k:Hs f c d X) (he:e+f<1):a≤d∧c≤b:=by
 unfold Hs at*;constructor
 ·refine LO (e:=e+f) ?_ he;grind
 ·refine LO (e:=e+f) ?_ he;grind
theorem Hs.clamp {e:Rat} {a b:Int} {X:Rat} (he:0≤e) (h:Hs e a b X) (hab:a≤b):∃X':Rat,(a:Rat)≤X'∧X'≤(b:Rat)∧Cl e X X':=by
 have q:=cQ hab;unfold Hs at h;unfold Cl;by_cases c1:X≤(a:Rat)
 ·exact ⟨a,by grind,by grind,by grind,by grind⟩
 ·by_cases c2:(b:Rat)≤X
  ·exact ⟨b,by grind,by grind,by grind,by grind⟩
  ·exact ⟨X,by grind,by grind,by grind,by grind⟩
theorem Hs.neg {e:Rat} {a b:Int} {X:Rat} (h:Hs e a b X):Hs e (-b) (-a) (-X):=by
 unfold Hs at*;rw [afZ,afZ];constructor<;>grind
theorem Hs.add {e f:Rat} {a b c d:Int} {X Y:Rat} (h1:Hs e a b X) (h2:Hs f c d Y):Hs (e+f) (a+c) (b+d) (X+Y):=by
 unfold Hs at*;rw [adQ,adQ];constructor<;>grind
theorem Hs.sub {e f:Rat} {a b c d:Int} {X Y:Rat} (h1:Hs e a b X) (h2:Hs f c d Y):Hs (e+f) (a-d) (b-c) (X-Y):=by
 unfold Hs at*;rw [acZ,acZ];constructor<;>grind
theorem between (q:Rat):(si ((q.floor:Int):Rat)≤si q+9*e0∧si q≤si ((q.floor+1:Int):Rat)+9*e0)∨(si ((q.floor+1:Int):Rat)≤si q+9*e0∧si q≤si ((q.floor:Int):Rat)+9*e0):=by
 have f0:=Rat.floor_le q;have f1:=Rat.lt_floor_add_one q;rw [DP] at f1 ⊢;have z:((1:Int):Rat)=1:=rfl;rw [z] at f1 ⊢;generalize q.floor=n at*;have ee:e0=1048576*u0:=rfl;have u:=cT;obtain ⟨m,hm⟩:∃m:Int,m=(n+5400000)/21600000:=⟨_,rfl⟩;have s0:-5400000≤n-21600000*m:=by omega
 have s1:n-21600000*m<16200000:=by omega
 clear hm;have t1:=(iF q (-m)).2;have t2:=(iF (n:Rat) (-m)).2;have t3:=(iF ((n:Rat)+1) (-m)).2;have c0:-5400000≤(n:Rat)-21600000*(m:Rat):=by
  have:=cQ s0;rw [acZ,abJ] at this;exact this
 rw [afZ] at t1 t2 t3;rw [←t1,←t2,←t3];have sqa:=lK (q-(n:Rat));have sqb:=lK ((n:Rat)+1-q);by_cases c:n-21600000*m<5400000
 ·left;have c1:(n:Rat)-21600000*(m:Rat)+1≤5400000:=by
   have:=GJ c;rw [acZ,abJ] at this;exact this
  have g1:=grow (p:=(n:Rat)+21600000*-(m:Rat)) (q:=q+21600000*-(m:Rat)) (by grind) (by grind) (by grind);have g2:=grow (p:=q+21600000*-(m:Rat)) (q:=(n:Rat)+1+21600000*-(m:Rat)) (by grind) (by grind) (by grind);rw [show q+21600000*-(m:Rat)-((n:Rat)+21600000*-(m:Rat))=q-(n:Rat) by grind] at g1;rw [show (n:Rat)+1+21600000*-(m:Rat)-(q+21600000*-(m:Rat))=(n:Rat)+1-q by grind] at g2;generalize si (q+21600000*-(m:Rat))=y at*;generalize si ((n:Rat)+21600000*-(m:Rat))=y1 at*;generalize si ((n:Rat)+1+21600000*-(m:Rat))=y2 at*;generalize (q-(n:Rat))*(q-(n:Rat))=w1 at*;generalize ((n:Rat)+1-q)*((n:Rat)+1-q)=w2 at*;constructor<;>grind
 ·right;have c1:5400000≤(n:Rat)-21600000*(m:Rat):=by
   have:=cQ (show 5400000≤n-21600000*m by omega);rw [acZ,abJ] at this;exact this
  have c2:(n:Rat)-21600000*(m:Rat)+1≤16200000:=by
   have:=GJ s1;rw [acZ,abJ] at this;exact this
  have r1:=LY (q+21600000*-(m:Rat));have r2:=LY ((n:Rat)+21600000*-(m:Rat));have r3:=LY ((n:Rat)+1+21600000*-(m:Rat));have g1:=grow (p:=10800000-(q+21600000*-(m:Rat))) (q:=10800000-((n:Rat)+21600000*-(m:Rat))) (by grind) (by grind) (by grind);have g2:=grow (p:=10800000-((n:Rat)+1+21600000*-(m:Rat))) (q:=10800000-(q+21600000*-(m:Rat))) (by grind) (by grind) (by grind);rw [show 10800000-((n:Rat)+21600000*-(m:Rat))-(10800000-(q+21600000*-(m:Rat)))=q-(n:Rat) by grind] at g1;rw [show 10800000-(q+21600000*-(m:Rat))-(10800000-((n:Rat)+1+21600000*-(m:Rat)))=(n:Rat)+1-q by grind] at g2;unfold Cl at r1 r2 r3;generalize si (10800000-(q+21600000*-(m:Rat)))=z at*;generalize si (10800000-((n:Rat)+21600000*-(m:Rat)))=z1 at*;generalize si (10800000-((n:Rat)+1+21600000*-(m:Rat)))=z2 at*;generalize si (q+21600000*-(m:Rat))=y at*;generalize si ((n:Rat)+21600000*-(m:Rat))=y1 at*;generalize si ((n:Rat)+1+21600000*-(m:Rat))=y2 at*;generalize (q-(n:Rat))*(q-(n:Rat))=w1 at*;generalize ((n:Rat)+1-q)*((n:Rat)+1-q)=w2 at*;constructor<;>grind
theorem enc_real {lo hi:Int} {q:Rat} (h1:(lo:Rat)≤q) (h2:q≤(hi:Rat)):Hs (3*e1) (mX lo hi) (mW lo hi) (Sq q):=by
 have f0:=Rat.floor_le q;have f1:=Rat.lt_floor_add_one q;have be:=tW;have eb:=eR;have b:=between q;have l0:lo≤q.floor:=Rat.le_floor_iff.2 h1;have l1:q.floor≤hi:=c_le (by grind);have a1:=lob_B q.floor;have p1:=cQ (KA l0 l1);have p2:=cQ (JZ l0 l1);by_cases c:q.floor=hi
 ·
  have e:q=((q.floor:Int):Rat):=by rw [c] at f0 ⊢;grind
  rw [←e] at a1;unfold Hs;have:=iR;generalize Sq q=s at*;constructor<;>grind
 ·have a2:=lob_B (q.floor+1);have q1:=cQ (KA (lo:=lo) (hi:=hi) (n:=q.floor+1) (by omega) (by omega));have q2:=cQ (JZ (lo:=lo) (hi:=hi) (n:=q.floor+1) (by omega) (by omega));unfold Sq at*;unfold Hs;generalize si q=s at*;generalize si ((q.floor:Int):Rat)=s1 at*;generalize si ((q.floor+1:Int):Rat)=s2 at*;generalize (fZ q.floor:Rat)=x1 at*;generalize (jF q.floor:Rat)=x2 at*;generalize (fZ (q.floor+1):Rat)=x3 at*;generalize (jF (q.floor+1):Rat)=x4 at*;generalize (mX lo hi:Rat)=y1 at*;generalize (mW lo hi:Rat)=y2 at*;clear f0 f1 h1 h2;rcases b with b | b<;>constructor<;>grind
theorem Sq_near {d p q:Rat} (h:Cl d p q) (hd:d≤1):Cl (2000*d+e1) (Sq p) (Sq q)∧Cl (2000*d+e1) (Cq p) (Cq q):=by
 have be:=tW;have eb:=eR;unfold Cl at h;unfold Sq Cq;rcases (adJ:p≤q∨q≤p) with c | c
 ·have l:=lip c (by grind);unfold Cl at*;generalize si p=x1 at*;generalize si q=x2 at*;generalize co p=x3 at*;generalize co q=x4 at*;refine ⟨⟨?_,?_⟩,?_,?_⟩<;>grind
 ·have l:=lip c (by grind);unfold Cl at*;generalize si p=x1 at*;generalize si q=x2 at*;generalize co p=x3 at*;generalize co q=x4 at*;refine ⟨⟨?_,?_⟩,?_,?_⟩<;>grind
theorem enc_B {d:Rat} {lo hi:Int} {q:Rat} (hd:0≤d) (hd1:d≤1) (hl:lo≤hi) (h:Hs d lo hi q):Hs (2000*d+4*e1) (mX lo hi) (mW lo hi) (Sq q):=by
 obtain ⟨q',a,b,c⟩:=h.clamp hd hl;have k:=(enc_real a b).near (Sq_near c hd1).1;exact k.wide (by grind) (aeX _) (aeX _)
theorem Cq_Sq (q:Rat):Cl e1 (Cq q) (Sq (q+5400000)):=by
 have a:=(WJ (-q)).1;have n:=(BU q).1;have u:=cT;have ee:e0=1048576*u0:=rfl;have be:=tW;rw [show 5400000- -q=q+5400000 by grind] at a;unfold Cq Sq;unfold Cl at*;generalize si (q+5400000)=x at*;generalize co (-q)=y at*;generalize co q=z at*;constructor<;>grind
theorem aval_le {a b:Int} (h:aF a b=true):a≤b:=by
 have:-1099511627776≤a∧a≤b∧b≤1099511627776:=by simpa [aF] using h
 omega
theorem sin_B {d:Rat} {lo hi:Int} {q:Rat} (hv:aF lo hi=true) (hd:0≤d) (hd1:d≤1) (h:Hs d lo hi q):Hs (2000*d+4*e1) (aW lo hi).1 (aW lo hi).2.1 (Sq q):=by
 have k:=enc_B hd hd1 (aval_le hv) h;have e1:(aW lo hi).1=mX lo hi:=by simp [aW,hv]
 have e2:(aW lo hi).2.1=mW lo hi:=by simp [aW,hv]
 rw [e1,e2];exact k
theorem cos_B {d:Rat} {lo hi:Int} {q:Rat} (hv:aF lo hi=true) (hd:0≤d) (hd1:d≤1) (h:Hs d lo hi q):Hs (2000*d+5*e1) (aN lo hi).1 (aN lo hi).2.1 (Cq q):=by
 have hq:Hs d (lo+5400000) (hi+5400000) (q+5400000):=by
  unfold Hs at*;rw [DP,DP];have z:((5400000:Int):Rat)=5400000:=rfl;rw [z];constructor<;>grind
 have k:=(enc_B hd hd1 (by have:=aval_le hv;omega) hq).near (Cq_Sq q);have e1:(aN lo hi).1=mX (lo+5400000) (hi+5400000):=by simp [aN,hv]
 have e2:(aN lo hi).2.1=mW (lo+5400000) (hi+5400000):=by simp [aN,hv]
 rw [e1,e2];exact k.wide (by grind) (aeX _) (aeX _)
theorem YW {a x b:Rat} (y:Rat) (h1:a≤x) (h2:x≤b):(a*y≤x*y∧x*y≤b*y)∨(b*y≤x*y∧x*y≤a*y):=by
 by_cases hy:0≤y
 ·have p:=aaZ (show 0≤x-a by grind) hy;have q:=aaZ (show 0≤b-x by grind) hy;left;constructor<;>grind
 ·have p:=aaZ (show 0≤x-a by grind) (show 0≤-y by grind);have q:=aaZ (show 0≤b-x by grind) (show 0≤-y by grind);right;constructor<;>grind
theorem mul_q {a b c d:Int} {X Y:Rat} (h1:(a:Rat)≤X) (h2:X≤(b:Rat)) (h3:(c:Rat)≤Y) (h4:Y≤(d:Rat)):((pI a b c d:Int):Rat)≤X*Y∧X*Y≤((pH a b c d:Int):Rat):=by
 have l:=mn4 (a*c) (a*d) (b*c) (b*d);have u:=mx4 (a*c) (a*d) (b*c) (b*d);have l1:=cQ l.1.1;have l2:=cQ l.1.2.1;have l3:=cQ l.1.2.2.1;have l4:=cQ l.1.2.2.2;have u1:=cQ u.1.1;have u2:=cQ u.1.2.1;have u3:=cQ u.1.2.2.1;have u4:=cQ u.1.2.2.2;rw [abJ] at l1 l2 l3 l4 u1 u2 u3 u4;have p:=YW Y h1 h2;have q:=YW (a:Rat) h3 h4;have r:=YW (b:Rat) h3 h4;rw [aoZ (c:Rat),aoZ Y,aoZ (d:Rat)] at q r;unfold pI pH;generalize (mn (mn (mn (a*c) (a*d)) (b*c)) (b*d):Rat)=m at*;generalize (mx (mx (mx (a*c) (a*d)) (b*c)) (b*d):Rat)=n at*;generalize X*Y=xy at*;generalize (a:Rat)*Y=ay at*;generalize (b:Rat)*Y=yb at*;generalize (a:Rat)*(c:Rat)=ac at*;generalize (a:Rat)*(d:Rat)=ad at*;generalize (b:Rat)*(c:Rat)=bc at*;generalize (b:Rat)*(d:Rat)=bd at*;constructor<;>grind
theorem ID (x:Int):((x/1073741824:Int):Rat)*1073741824≤(x:Rat):=by
 have h:((x/1073741824*1073741824:Int):Rat)≤(x:Rat):=cQ (by omega);rw [abJ] at h;exact h
theorem mul_B {a b c d:Int} {e X Y:Rat} (he:0≤e) (he1:e≤1/4) (h1:Hs e a b X) (h2:Hs e c d Y) (ab:a≤b) (cd:c≤d)
  (ha:-1073741824≤a) (hb:b≤1073741824) (hc:-1073741824≤c) (hd:d≤1073741824):
  Hs (3*e) (bT a b c d).1 (bT a b c d).2.1 (X*Y/1073741824):=by
 obtain ⟨x,x1,x2,x3,x4⟩:=h1.clamp he ab;obtain ⟨y,y1,y2,y3,y4⟩:=h2.clamp he cd;have m:=mul_one ha ab hb hc cd hd;have ev:bT a b c d=(pI a b c d/1073741824,-(-pH a b c d/1073741824),0):=by
  have:=m.1;unfold bT at this ⊢;obtain ⟨hb,hf⟩:=RM this;rw [if_pos hb];exact (fit_ok hf).2
 rw [ev];have z:((1073741824:Int):Rat)=1073741824:=rfl;have za:-1073741824≤(a:Rat):=cQ (a:=-1073741824) ha;have zb:(b:Rat)≤1073741824:=cQ (b:=1073741824) hb;have zc:-1073741824≤(c:Rat):=cQ (a:=-1073741824) hc;have zd:(d:Rat)≤1073741824:=cQ (b:=1073741824) hd;have r:=mul_q x1 x2 y1 y2;have f:=ID (pI a b c d);have g:=ID (-pH a b c d);rw [afZ] at g;have k1:=aM (a:=X-x) (b:=y) (A:=e) (B:=1073741824) x3 x4 (by grind) (by grind);have k2:=aM (a:=x) (b:=Y-y) (A:=1073741824) (B:=e) (by grind) (by grind) y3 y4;have k3:=aM (a:=X-x) (b:=Y-y) (A:=e) (B:=e) x3 x4 y3 y4;have k4:e*e≤e:=by have:=aaZ he (show 0≤1-e by grind);grind
 have ex:X*Y=x*y+(X-x)*y+x*(Y-y)+(X-x)*(Y-y):=by grind
 unfold Hs;dsimp only;rw [ex,afZ];generalize (pI a b c d:Rat)=L at*;generalize (pH a b c d:Rat)=U at*;generalize ((pI a b c d/1073741824:Int):Rat)=L' at*;generalize ((-pH a b c d/1073741824:Int):Rat)=U' at*;generalize x*y=p0 at*;generalize (X-x)*y=p1 at*;generalize x*(Y-y)=p2 at*;generalize (X-x)*(Y-y)=p3 at*;clear ex;constructor<;>grind
theorem asn_B {v:Int} {q e d:Rat} (he:0≤e) (hv:-1073741824≤v) (q0:-5400000≤q) (_q1:q≤5400000) (h:(v:Rat)≤Sq q+e) (hd0:0≤d) (hd:100000*(e+3*e1)≤d*d):(mF v:Rat)≤q+d:=by
 obtain ⟨a0,a1,a2,a3⟩:=pA v hv;rcases (adJ:(mF v:Rat)≤q∨q≤(mF v:Rat)) with c | c
 ·grind
 ·have p1:(mF v:Rat)≤5400000:=cQ (b:=5400000) a1;have g:=grow q0 c p1;have l:=(lob_B (mF v)).2;have m:=cQ a2;have be:=tW;have eb:=eR;have e1b:=iR;unfold Sq at*;have k:=kH (z:=(mF v:Rat)-q) (f:=d) (e:=100000*(e+3*e1)) hd0 ?_ hd
  ·have:=k.2;grind
  ·generalize si (mF v:Rat)=s1 at*;generalize si q=s2 at*;generalize (jF (mF v):Rat)=h1 at*;generalize (v:Rat)=v' at*;generalize ((mF v:Rat)-q)*((mF v:Rat)-q)=w at*;grind
theorem Sq_neg {q:Rat} (h0:-10800000<q) (h1:q<10800000):Sq (-q)=-Sq q:=by
 unfold Sq;rw [(AJ h0 h1).1];grind
theorem asin_B {lo hi:Int} {q e d:Rat} (_hv:aG lo hi=true) (ok:(aV lo hi).2.2=0) (q0:-5400000≤q) (q1:q≤5400000) (he:0≤e) (h:Hs e lo hi (Sq q)) (hd0:0≤d) (hd:100000*(e+4*e1)≤d*d):Hs d (aV lo hi).1 (aV lo hi).2.1 q:=by
 obtain ⟨_,hm,ev⟩:=asin_ok ok;have be:=tW;have eb:=eR;have e1b:=iR;have u:=cT;have ee:e0=1048576*u0:=rfl;have b:=(bdq q).2;have z:((1073741824:Int):Rat)=1073741824:=rfl;have zn:((-1073741824:Int):Rat)=-1073741824:=rfl;have s0:-1073741824-e1≤Sq q∧Sq q≤1073741824+e1:=by
  unfold Sq;generalize si q=s at*;constructor<;>grind
 unfold Hs at h;have x1:((max lo (-1073741824):Int):Rat)≤Sq q+(e+e1):=by
  rcases atQ lo (-1073741824) with c | c
  ·rw [Int.max_eq_right c,zn];grind
  ·rw [Int.max_eq_left c];grind
 have x2:((-min hi 1073741824:Int):Rat)≤Sq (-q)+(e+e1):=by
  rw [Sq_neg (by grind) (by grind),afZ];rcases atQ hi 1073741824 with c | c
  ·rw [Int.min_eq_left c];grind
  ·rw [Int.min_eq_right c,z];grind
 have y1:=asn_B (v:=max lo (-1073741824)) (show 0≤e+e1 by grind) (by omega) q0 q1 x1 hd0 (by grind);have y2:=asn_B (v:=-min hi 1073741824) (show 0≤e+e1 by grind) (by omega) (q:=-q) (by grind) (by grind) x2 hd0 (by grind);rw [ev];unfold Hs;dsimp only;rw [afZ];constructor<;>grind
theorem asin_has {lo hi:Int} {q e:Rat} (hv:aG lo hi=true) (_he:0≤e) (he1:e≤1/4) (h:Hs e lo hi (Sq q)):(aV lo hi).2.2=0:=by
 have be:=tW;have eb:=eR;have e1b:=iR;have u:=cT;have ee:e0=1048576*u0:=rfl;have b:=(bdq q).2;have s0:-1073741824-e1≤Sq q∧Sq q≤1073741824+e1:=by
  unfold Sq;generalize si q=s at*;constructor<;>grind
 have v:=fR hv;unfold Hs at h;have c1:lo≤1073741824:=LO (e:=1/2) (by rw [show ((1073741824:Int):Rat)=1073741824 by rfl];grind) (by grind);have c2:-1073741824≤hi:=LO (e:=1/2) (by rw [show ((-1073741824:Int):Rat)=-1073741824 by rfl];grind) (by grind);unfold aV;rw [hv];simp only [Bool.true_eq_false,if_false];rw [if_pos (by omega)]
end TB
end
namespace SM
def tl (o:Nat) (Y:Rat):Nat→Nat→Rat
 | _,0=>1
 | k,n+1=>1-1/(((2*k+1+o)*(2*k+2+o):Nat):Rat)*(Y*tl o Y (k+1) n)
theorem XH (o:Nat) (Y:Rat):∀k n,1-hR o Y k (1-tl o Y k n)=tl o Y 0 (k+n)
 | 0,n=>by unfold hR;rw [Nat.zero_add];grind
 | k+1,n=>by
  have ih:=XH o Y k (n+1);unfold hR;have e:(1:Rat)-(1-tl o Y (k+1) n)=tl o Y (k+1) n:=by grind
  rw [e];have e2:1/(((2*k+1+o)*(2*k+2+o):Nat):Rat)*(Y*tl o Y (k+1) n)=1-tl o Y k (n+1):=by rw [tl];grind
  rw [e2,ih,show k+1+n=k+(n+1) by omega]
theorem MV (o:Nat) (Y:Rat) (hY:0≤Y∧Y≤1):∀n k,0≤tl o Y k n∧tl o Y k n≤1
 | 0,k=>by unfold tl;constructor<;>grind
 | n+1,k=>by
  have ih:=MV o Y hY n (k+1);have hd:2≤(2*k+1+o)*(2*k+2+o):=by
   have:1*2≤(2*k+1+o)*(2*k+2+o):=agQ (by omega) (by omega);omega
  have i1:=iS hd;have i0:=cY (((2*k+1+o)*(2*k+2+o):Nat):Rat) (by exact_mod_cast adX _);have y0:=aaZ hY.1 ih.1;have y1:Y*tl o Y (k+1) n≤1:=by
   have:=aaJ ih.2 hY.1;grind
  have s0:=aaZ i0 y0;have s1:=aaJ y1 i0;unfold tl;constructor<;>grind
def high (a b:Int):Int:=a/2147483648*(b/2147483648)+a/2147483648*(b%2147483648)/2147483648+a%2147483648*(b/2147483648)/2147483648
def ZR:Rat:=4611686018427387904
theorem lN (a b:Int) (ha:0≤a) (hb:0≤b):0≤high a b∧high a b*4611686018427387904≤a*b∧a*b≤(high a b+3)*4611686018427387904:=by
 have ea:a=a/2147483648*2147483648+a%2147483648:=by omega
 have eb:b=b/2147483648*2147483648+b%2147483648:=by omega
 have a0:0≤a/2147483648:=by omega
 have b0:0≤b/2147483648:=by omega
 have r0:0≤a%2147483648∧a%2147483648≤2147483647:=by omega
 have s0:0≤b%2147483648∧b%2147483648≤2147483647:=by omega
 unfold high;generalize a/2147483648=a1 at*;generalize b/2147483648=b1 at*;generalize a%2147483648=a2 at*;generalize b%2147483648=b2 at*;have e:a*b=a1*b1*4611686018427387904+(a1*b2+a2*b1)*2147483648+a2*b2:=by rw [ea,eb];grind
 have p1:=aeZ a0 b0;have p2:=aeZ a0 s0.1;have p3:=aeZ r0.1 b0;have p4:=aeZ r0.1 s0.1;have p5:a2*b2≤2147483647*2147483647:=Int.mul_le_mul r0.2 s0.2 s0.1 (by decide);rw [e];generalize a1*b1=p at*;generalize a1*b2=q at*;generalize a2*b1=r at*;generalize a2*b2=s at*;clear ea eb e;omega
def mN (sq:Int):Nat→Int→Int→Int→Int
 | 0,sum,_,_=>sum
 | f+1,sum,term,d=>if 0<term then
   mN sq f (sum+term-high term sq/(d*(d+1))) (high (high term sq/(d*(d+1))) sq/((d+2)*(d+3))) (d+4) else sum
theorem aAL {t sq u d:Int} {D:Nat} (hD:(D:Int)=d) (hd:2≤D) (ht:0≤t) (hsq:0≤sq) (hu:u=high t sq/d)
  {τ Y:Rat} (hτ:0≤τ∧τ≤1) (hY:0≤Y∧Y≤7/10) (e1:aY ((t:Rat)-ZR*τ) 10) (e2:0≤ZR*Y-(sq:Rat)∧ZR*Y-(sq:Rat)≤6):
  0≤u∧aY ((u:Rat)-ZR*(1/(D:Rat)*(Y*τ))) 10∧0≤1/(D:Rat)*(Y*τ)∧1/(D:Rat)*(Y*τ)≤1:=by
 obtain ⟨h0,h1,h2⟩:=lN t sq ht hsq;have i1:=iS hd;have i0:=cY (D:Rat) (by exact_mod_cast adX _);have hd2:(2:Rat)≤(D:Rat):=by exact_mod_cast hd
 have hid:(1/(D:Rat))*(D:Rat)=1:=by grind
 have hdp:0<d:=by omega
 have u0:0≤u:=by rw [hu];exact asQ h0 (by omega)
 have hq1:u*d≤high t sq:=by rw [hu];exact aqQ _ (by omega)
 have hq2:high t sq≤u*d+d:=by rw [hu];have:=Int.lt_ediv_add_one_mul_self (high t sq) hdp;rw [Int.add_mul] at this;omega
 generalize high t sq=H at*;have r1:((H:Int):Rat)*ZR≤(t:Rat)*(sq:Rat):=by
  have:=acJ.2 h1;rw [abJ,abJ] at this;exact this
 have r2:(t:Rat)*(sq:Rat)≤((H:Int):Rat)*ZR+3*ZR:=by
  have:=acJ.2 h2;rw [abJ,abJ,adQ] at this;have c:((3:Int):Rat)=3:=rfl;have c2:((4611686018427387904:Int):Rat)=ZR:=rfl;rw [c,c2] at this;grind
 have hDR:(d:Rat)=(D:Rat):=by rw [←hD];rfl
 have r3:(u:Rat)*(D:Rat)≤(H:Rat):=by
  have:=acJ.2 hq1;rw [abJ,hDR] at this;exact this
 have r4:(H:Rat)≤(u:Rat)*(D:Rat)+(D:Rat):=by
  have:=acJ.2 hq2;rw [adQ,abJ,hDR] at this;exact this
 have hz:(1/ZR)*ZR=1:=by unfold ZR;grind
 have z0:0≤1/ZR:=by unfold ZR;grind
 have z1:0≤ZR:=by unfold ZR;grind
 have sqb:aY ((1/ZR)*(sq:Rat)) (7/10):=by
  have:(0:Rat)≤(sq:Rat):=by exact_mod_cast hsq
  have s1:=aaZ z0 this;have s2:=aaJ (show (sq:Rat)≤ZR*Y by grind) z0;have s3:1/ZR*(ZR*Y)=Y:=by rw [←asX,hz,baX]
  rw [s3] at s2;unfold aY;generalize 1/ZR*(sq:Rat)=A at*;clear e1 e2 r1 r2 r3 r4 hz z0 z1;constructor<;>grind
 have w1:=e1.mul sqb;have w2:=(show aY τ 1 from ⟨by grind,hτ.2⟩).mul (show aY (ZR*Y-(sq:Rat)) 6 from ⟨by grind,e2.2⟩);have eT:(t:Rat)*((1/ZR)*(sq:Rat))-ZR*(Y*τ)=((t:Rat)-ZR*τ)*((1/ZR)*(sq:Rat))-τ*(ZR*Y-(sq:Rat)):=by
  generalize 1/ZR=z at*;grind
 have zc:∀a:Rat,1/ZR*(a*ZR)=a:=fun a=>by rw [aoZ a,←asX,hz,baX]
 have zt:1/ZR*((t:Rat)*(sq:Rat))=(t:Rat)*(1/ZR*(sq:Rat)):=by rw [←asX,aoZ (1/ZR),asX]
 have wH1:(H:Rat)≤(t:Rat)*((1/ZR)*(sq:Rat)):=by
  have:=aaJ r1 z0;rw [zc,zt] at this;exact this
 have wH2:(t:Rat)*((1/ZR)*(sq:Rat))≤(H:Rat)+3:=by
  have:=aaJ r2 z0;rw [Rat.mul_add,zc,zc,zt] at this;exact this
 have yt0:=aaZ hY.1 hτ.1;have yt1:Y*τ≤1:=by
  have:=aaJ hτ.2 hY.1;grind
 have wH:aY ((H:Rat)-ZR*(Y*τ)) 16:=by
  unfold aY at w1 w2 ⊢;generalize (t:Rat)*((1/ZR)*(sq:Rat))=A at*;generalize ((t:Rat)-ZR*τ)*((1/ZR)*(sq:Rat))=B at*;generalize τ*(ZR*Y-(sq:Rat))=C at*;generalize ZR*(Y*τ)=E at*;clear e1 e2 r1 r2 r3 r4 hz z0 z1 zc zt sqb hu h1 h2 hq1 hq2 hid i0 i1;constructor<;>grind
 have dc:∀a:Rat,1/(D:Rat)*(a*(D:Rat))=a:=fun a=>by rw [aoZ a,←asX,hid,baX]
 have v1:(u:Rat)≤1/(D:Rat)*(H:Rat):=by
  have:=aaJ r3 i0;rw [dc] at this;exact this
 have v2:1/(D:Rat)*(H:Rat)≤(u:Rat)+1:=by
  have:=aaJ r4 i0;rw [Rat.mul_add,dc,hid] at this;exact this
 have wI:=(show aY (1/(D:Rat)) (1/2) from ⟨by grind,i1⟩).mul wH;refine ⟨u0,?_,aaZ i0 yt0,?_⟩
 ·have eI:1/(D:Rat)*((H:Rat)-ZR*(Y*τ))=1/(D:Rat)*(H:Rat)-ZR*(1/(D:Rat)*(Y*τ)):=by grind
  rw [eI] at wI;unfold aY at wI ⊢;generalize 1/(D:Rat)*(H:Rat)=A at*;generalize ZR*(1/(D:Rat)*(Y*τ))=B at*;clear e1 e2 r1 r2 r3 r4 hz z0 z1 zc zt sqb hu h1 h2 hq1 hq2 hid i0 i1 dc;constructor<;>grind
 ·have:=aaJ yt1 i0;grind
def oA (o:Nat):Nat→Rat
 | 0=>1
 | k+1=>7/10*(1/(((2*k+1+o)*(2*k+2+o):Nat):Rat))*oA o k
theorem taub0:4611686018427387904*oA 0 10≤1:=by decide+kernel
theorem taub1:4611686018427387904*oA 1 10≤1:=by decide+kernel
theorem OW (o k:Nat):2≤(2*k+1+o)*(2*k+2+o):=by
 have:1*2≤(2*k+1+o)*(2*k+2+o):=agQ (by omega) (by omega);omega
theorem CL {o k:Nat} {Y τ:Rat} (hY:0≤Y∧Y≤7/10) (hτ:0≤τ) (h:τ≤oA o k):1/(((2*k+1+o)*(2*k+2+o):Nat):Rat)*(Y*τ)≤oA o (k+1):=by
 have i0:=cY (((2*k+1+o)*(2*k+2+o):Nat):Rat) (by exact_mod_cast adX _);have a1:=aaJ h hY.1;have a2:=abQ hY.2 (show 0≤oA o k by grind);have a3:=aaJ (show Y*τ≤7/10*oA o k by grind) i0;unfold oA;generalize 1/(((2*k+1+o)*(2*k+2+o):Nat):Rat)=i at*;grind
theorem qA {t sq:Int} (ht:0≤t) (hsq:0≤sq) (h:sq≤4611686018427387904):high t sq≤t:=by
 obtain ⟨h0,h1,h2⟩:=lN t sq ht hsq;have:=afX h ht;omega
theorem DZ {o:Nat} (ho:o≤1) {sq:Int} (hsq:0≤sq) (hsq2:sq≤4611686018427387904) {Y:Rat} (hY:0≤Y∧Y≤7/10) (e2:0≤ZR*Y-(sq:Rat)∧ZR*Y-(sq:Rat)≤6) (total:Rat):
  ∀(p k f:Nat) (S t:Int) (τ E:Rat),k+2*p=10→p+2≤f→0≤t→0≤τ→τ≤1→τ≤oA o k→aY ((t:Rat)-ZR*τ) 10→0≤E→
   aY (ZR*total-(S:Rat)-ZR*(τ*tl o Y k (2*p))) E→aY (ZR*total-(mN sq f S t (2*(k:Int)+1+(o:Int)):Rat)) (E+20*(p:Rat)+30)
 | 0,k,f,S,t,τ,E,hk,hf,ht,h0,h1,hb,e1,hE,hS=>by
  obtain rfl:k=10:=by omega
  obtain ⟨f,rfl⟩:∃g,f=g+2:=⟨f-2,by omega⟩;have hz:ZR*τ≤1:=by
   have z0:(0:Rat)≤ZR:=by unfold ZR;grind
   have:=aaJ hb z0;rcases (show o=0∨o=1 by omega) with rfl | rfl
   ·have t0:=taub0;unfold ZR at*;grind
   ·have t0:=taub1;unfold ZR at*;grind
  have ht11:t≤11:=by
   have:(t:Rat)≤((11:Int):Rat):=by
    have c:((11:Int):Rat)=11:=rfl;rw [c];unfold aY at e1;grind
   exact acJ.1 this
  have hz0:0≤ZR*τ:=aaZ (by unfold ZR;grind) h0;have e:tl o Y 10 (2*0)=1:=rfl;rw [e,Rat.mul_one] at hS;have c0:((0:Nat):Rat)=0:=rfl;rw [c0];by_cases hp:0<t
  ·have hl:=qA ht hsq hsq2;have hh:=lN t sq ht hsq;have q1:high t sq/((2*((10:Nat):Int)+1+(o:Int))*(2*((10:Nat):Int)+1+(o:Int)+1))=0:=by
    rcases (show o=0∨o=1 by omega) with rfl | rfl
    ·exact Int.ediv_eq_zero_of_lt hh.1 (by omega)
    ·exact Int.ediv_eq_zero_of_lt hh.1 (by omega)
   have q2:high 0 sq=0:=by
    have a:=qA (t:=0) (by omega) hsq hsq2;have b:=lN 0 sq (by omega) hsq;omega
   have eq:mN sq (f+2) S t (2*((10:Nat):Int)+1+(o:Int))=S+t:=by
    rw [mN,if_pos hp,q1,q2,Int.zero_ediv,mN,if_neg (by omega)];omega
   rw [eq,adQ];unfold aY at*;constructor<;>grind
  ·have t0:t=0:=by omega
   subst t0;rw [show f+2=f+1+1 from rfl,mN,if_neg (by omega)];unfold aY at*;constructor<;>grind
 | p+1,k,f,S,t,τ,E,hk,hf,ht,h0,h1,hb,e1,hE,hS=>by
  obtain ⟨f,rfl⟩:∃g,f=g+1:=⟨f-1,by omega⟩;have cp:((p+1:Nat):Rat)=(p:Rat)+1:=by rw [Rat.natCast_add];rfl
  have pn:(0:Rat)≤(p:Rat):=by exact_mod_cast adX p
  rw [cp];by_cases hp:0<t
  ·have D1:((((2*k+1+o)*(2*k+2+o):Nat)):Int)=(2*(k:Int)+1+(o:Int))*(2*(k:Int)+1+(o:Int)+1):=by
    rw [aiQ];have a:((2*k+1+o:Nat):Int)=2*(k:Int)+1+(o:Int):=by omega
    have b:((2*k+2+o:Nat):Int)=2*(k:Int)+1+(o:Int)+1:=by omega
    rw [a,b]
   have D2:((((2*(k+1)+1+o)*(2*(k+1)+2+o):Nat)):Int)=(2*(k:Int)+1+(o:Int)+2)*(2*(k:Int)+1+(o:Int)+3):=by
    rw [aiQ];have a:((2*(k+1)+1+o:Nat):Int)=2*(k:Int)+1+(o:Int)+2:=by omega
    have b:((2*(k+1)+2+o:Nat):Int)=2*(k:Int)+1+(o:Int)+3:=by omega
    rw [a,b]
   obtain ⟨u0,u1,u2,u3⟩:=aAL D1 (OW o k) ht hsq rfl ⟨h0,h1⟩ hY e1 e2;have b1:=CL (o:=o) (k:=k) hY h0 hb;obtain ⟨v0,v1,v2,v3⟩:=aAL D2 (OW o (k+1)) u0 hsq rfl ⟨u2,u3⟩ hY u1 e2;have b2:=CL (o:=o) (k:=k+1) hY u2 b1;rw [mN,if_pos hp];have ed:2*(k:Int)+1+(o:Int)+4=2*((k+2:Nat):Int)+1+(o:Int):=by omega
   rw [ed];have tle:τ*tl o Y k (2*(p+1))=τ-1/(((2*k+1+o)*(2*k+2+o):Nat):Rat)*(Y*τ)+1/(((2*(k+1)+1+o)*(2*(k+1)+2+o):Nat):Rat)*(Y*(1/(((2*k+1+o)*(2*k+2+o):Nat):Rat)*(Y*τ)))*tl o Y (k+2) (2*p):=by
    rw [show 2*(p+1)=2*p+1+1 by omega,tl,tl];generalize 1/(((2*k+1+o)*(2*k+2+o):Nat):Rat)=i;generalize 1/(((2*(k+1)+1+o)*(2*(k+1)+2+o):Nat):Rat)=j;grind
   rw [tle] at hS;have ih:=DZ ho hsq hsq2 hY e2 total p (k+2) f (S+t-high t sq/((2*(k:Int)+1+(o:Int))*(2*(k:Int)+1+(o:Int)+1))) _ _ (E+20) (by omega) (by omega) v0 v2 v3 b2 v1 (by grind) (by
    rw [acZ,adQ];clear v1 v2 v3 b2 b1 u2 u3 tle e2;generalize (high t sq/((2*(k:Int)+1+(o:Int))*(2*(k:Int)+1+(o:Int)+1)):Int)=T1 at*;generalize 1/(((2*k+1+o)*(2*k+2+o):Nat):Rat)*(Y*τ)=τ1 at*;generalize 1/(((2*(k+1)+1+o)*(2*(k+1)+2+o):Nat):Rat)*(Y*τ1)*tl o Y (k+2) (2*p)=R at*;unfold aY at*;constructor<;>grind)
   exact ih.mono (by grind)
  ·have t0:t=0:=by omega
   subst t0;rw [mN,if_neg (by omega)];have hb2:=MV o Y ⟨hY.1,by grind⟩ (2*(p+1)) k;have m0:=aaZ h0 hb2.1;have m1:τ*tl o Y k (2*(p+1))≤τ:=by
    have:=aaJ hb2.2 h0;grind
   have z0:(0:Rat)≤ZR:=by unfold ZR;grind
   have n0:=aaZ z0 m0;have n1:=aaJ m1 z0;generalize ZR*(τ*tl o Y k (2*(p+1)))=R at*;have c0:((0:Int):Rat)=0:=rfl;unfold aY at*;rw [c0] at e1;generalize ZR*τ=R2 at*;generalize ZR*total=R3 at*;clear e2 hb2 m0 m1 z0;constructor<;>grind
def mO (r:Int):Int:=r*2620088056*512+r*658911831/4194304
def dT (r:Int) (cosine:Bool):Int:=if cosine then mN (high (mO r) (mO r)) 20 0 4611686018427387904 1 else mN (high (mO r) (mO r)) 20 0 (mO r) 2
theorem quickX_bd (n:Nat) (hn:n≤2700000):0≤mO (n:Int)∧0≤ZR*xR n-(mO (n:Int):Rat)∧ZR*xR n-(mO (n:Int):Rat)≤17/10:=by
 unfold mO;have h0:(0:Int)≤(n:Int)*658911831/4194304:=by omega
 have e1:(n:Int)*658911831/4194304*4194304≤(n:Int)*658911831:=by omega
 have e2:(n:Int)*658911831≤(n:Int)*658911831/4194304*4194304+4194304:=by omega
 generalize hw:(n:Int)*658911831/4194304=W at*;have r1:(W:Rat)*4194304≤(n:Rat)*658911831:=by
  have:=acJ.2 e1;rw [abJ,abJ] at this;exact this
 have r2:(n:Rat)*658911831≤(W:Rat)*4194304+4194304:=by
  have:=acJ.2 e2;rw [adQ,abJ,abJ] at this;exact this
 have n0:(0:Rat)≤(n:Rat):=by exact_mod_cast adX n
 have n1:(n:Rat)≤((2700000:Nat):Rat):=Rat.natCast_le_natCast.2 hn;have c1:((2700000:Nat):Rat)=2700000:=rfl;rw [c1] at n1;have hx:(((n:Int)*2620088056*512+W:Int):Rat)=(n:Rat)*2620088056*512+(W:Rat):=by
  rw [adQ,abJ,abJ];rfl
 rw [hx];refine ⟨by omega,?_,?_⟩
 ·clear hx hw e1 e2 h0 hn;unfold xR th LS ZR;grind
 ·clear hx hw e1 e2 h0 hn;unfold xR th LS ZR;grind
theorem sq_err {x:Int} {X:Rat} (h0:0≤x) (hX:0≤X∧X≤4/5) (h1:0≤ZR*X-(x:Rat)) (h2:ZR*X-(x:Rat)≤17/10):0≤high x x∧high x x≤4611686018427387904∧0≤ZR*(X*X)-(high x x:Rat)∧ZR*(X*X)-(high x x:Rat)≤6:=by
 obtain ⟨g0,g1,g2⟩:=lN x x h0 h0;have x0:(0:Rat)≤(x:Rat):=by exact_mod_cast h0
 have r1:(high x x:Rat)*ZR≤(x:Rat)*(x:Rat):=by
  have:=acJ.2 g1;rw [abJ,abJ] at this;exact this
 have r2:(x:Rat)*(x:Rat)≤(high x x:Rat)*ZR+3*ZR:=by
  have:=acJ.2 g2;rw [abJ,abJ,adQ] at this;have c:((3:Int):Rat)=3:=rfl;have c2:((4611686018427387904:Int):Rat)=ZR:=rfl;rw [c,c2] at this;grind
 have hz:(1/ZR)*ZR=1:=by unfold ZR;grind
 have z0:0≤1/ZR:=by unfold ZR;grind
 have zc:∀a:Rat,1/ZR*(a*ZR)=a:=fun a=>by rw [aoZ a,←asX,hz,baX]
 have d0:0≤X-1/ZR*(x:Rat)∧X-1/ZR*(x:Rat)≤17/10*(1/ZR):=by
  have a:=aaJ h2 z0;have b:=aaZ z0 h1;have e:1/ZR*(ZR*X-(x:Rat))=X-1/ZR*(x:Rat):=by
   rw [Rat.sub_eq_add_neg,Rat.mul_add,←asX,hz,baX,Rat.mul_neg,←Rat.sub_eq_add_neg]
  rw [e] at a b;constructor
  ·exact b
  ·grind
 have f1:(high x x:Rat)≤(x:Rat)*(1/ZR*(x:Rat)):=by
  have:=aaJ r1 z0;rw [zc,←asX,aoZ (1/ZR),asX] at this;exact this
 have f2:(x:Rat)*(1/ZR*(x:Rat))≤(high x x:Rat)+3:=by
  have:=aaJ r2 z0;rw [Rat.mul_add,zc,zc,←asX,aoZ (1/ZR),asX] at this;exact this
 have k0:0≤1/ZR*(x:Rat):=aaZ z0 x0;have e:ZR*(X*X)-(x:Rat)*(1/ZR*(x:Rat))=(ZR*X-(x:Rat))*X+(x:Rat)*(X-1/ZR*(x:Rat)):=by
  generalize 1/ZR*(x:Rat)=a;grind
 have p1:=aaZ h1 hX.1;have p2:=abQ h2 hX.1;have p3:=aaZ x0 d0.1;have p4:=aaJ d0.2 x0;have p5:(x:Rat)*(17/10*(1/ZR))=17/10*(1/ZR*(x:Rat)):=by
  generalize 1/ZR=z;grind
 rw [p5] at p4;generalize 1/ZR*(x:Rat)=a at*;have hxx:(high x x:Rat)≤((4611686018427387904:Int):Rat):=by
  have c2:((4611686018427387904:Int):Rat)=ZR:=rfl;have a1:a≤4/5:=by grind
  have:=aaJ a1 x0;have b2:(x:Rat)≤ZR*(4/5):=by
   have:=aaJ hX.2 (show (0:Rat)≤ZR by unfold ZR;grind);grind
  rw [c2];unfold ZR at*;grind
 refine ⟨g0,acJ.1 hxx,?_,?_⟩
 ·generalize (ZR*X-(x:Rat))*X=A at*;generalize (x:Rat)*(X-a)=B at*;grind
 ·generalize (ZR*X-(x:Rat))*X=A at*;generalize (x:Rat)*(X-a)=B at*;grind
theorem xP (n:Nat) (hn:n≤2700000):aY (ZR*tS n-(dT (n:Int) false:Rat)) 130∧aY (ZR*tC n-(dT (n:Int) true:Rat)) 130:=by
 obtain ⟨x0,x1,x2⟩:=quickX_bd n hn;have hx:=rX n (by omega);have hY:=FX n (by omega);obtain ⟨s0,s1,s2,s3⟩:=sq_err x0 hx x1 x2;have t1:=XH 1 (xR n*xR n) 10 0;have t0:=XH 0 (xR n*xR n) 10 0;rw [show tl 1 (xR n*xR n) 10 0=1 from rfl,show (1:Rat)-1=0 by grind] at t1;rw [show tl 0 (xR n*xR n) 10 0=1 from rfl,show (1:Rat)-1=0 by grind] at t0;have c5:((5:Nat):Rat)=5:=rfl;have c0:((0:Int):Rat)=0:=rfl;constructor
 ·have:=DZ (o:=1) (by omega) s0 s1 ⟨hY.1,hY.2⟩ ⟨s2,s3⟩ (tS n) 5 0 20 0 (mO (n:Int)) (xR n) 0 (by omega) (by omega) x0 hx.1 (by grind) (by unfold oA;grind) (by unfold aY;constructor<;>grind) (by grind) (by
   have e:ZR*tS n-((0:Int):Rat)-ZR*(xR n*tl 1 (xR n*xR n) 0 (2*5))=0:=by
    have e2:tl 1 (xR n*xR n) 0 (2*5)=tl 1 (xR n*xR n) 0 (10+0):=by simp only [Nat.reduceMul,Nat.reduceAdd]
    rw [e2,←t1,c0];unfold tS;grind
   rw [e];unfold aY;constructor<;>grind)
  have d1:2*((0:Nat):Int)+1+((1:Nat):Int)=2:=by decide
  rw [c5,d1] at this;unfold dT;rw [if_neg (by decide)];exact this.mono (by grind)
 ·have cz:((4611686018427387904:Int):Rat)=ZR:=rfl;have:=DZ (o:=0) (by omega) s0 s1 ⟨hY.1,hY.2⟩ ⟨s2,s3⟩ (tC n) 5 0 20 0 4611686018427387904 1 0 (by omega) (by omega) (by omega) (by grind) (by grind) (by unfold oA;grind) (by rw [cz];unfold aY;constructor<;>grind) (by grind) (by
   have e:ZR*tC n-((0:Int):Rat)-ZR*(1*tl 0 (xR n*xR n) 0 (2*5))=0:=by
    have e2:tl 0 (xR n*xR n) 0 (2*5)=tl 0 (xR n*xR n) 0 (10+0):=by simp only [Nat.reduceMul,Nat.reduceAdd]
    rw [e2,←t0,c0];unfold tC;grind
   rw [e];unfold aY;constructor<;>grind)
  have d1:2*((0:Nat):Int)+1+((0:Nat):Int)=1:=by decide
  rw [c5,d1] at this;unfold dT;rw [if_pos rfl];exact this.mono (by grind)
theorem FJ {v:Int} {f:Nat} {x:Rat} (h:aY (ZR*x-(v:Rat)) 130) (h1:(f:Rat)*72057594037927936+17000000000≤iA*x) (h2:iA*x≤((f:Rat)+1)*72057594037927936-17000000000):(f:Int)*4294967296+512≤v∧v≤((f:Int)+1)*4294967296-512:=by
 have g:iA=77371252455336267181195264:=rfl;have c1:((4294967296:Int):Rat)=4294967296:=rfl;have c2:((512:Int):Rat)=512:=rfl;have c3:((1:Int):Rat)=1:=rfl;rw [g] at h1 h2;unfold aY ZR at h;constructor
 ·apply acJ.1;rw [adQ,abJ,c1,c2,agZ];grind
 ·apply acJ.1;rw [acZ,abJ,adQ,c1,c2,c3,agZ];grind
end SM
end Go.Proofs.YtmididlfnajhiaaGreatDoor
