/-
  Quotients of fixed-point intervals, and angles: what each function gives, as a plain law. The cosine formula: what each function gives. Chapter 30: what solutions have in common, in plain words. No.
-/
import Derived.Test.YtmididlfnajhiaaGreatDoorU4
import Derived.Test.YtmididlfnajhiaaGreatDoorU5
import Derived.Test.YtmididlfnajhiaaGreatDoorU3
set_option maxRecDepth 100000
set_option maxHeartbeats 4000000
open _root_.Int renaming lt_or_le→akZ,zero_sub→aoX
open _root_.Nat renaming le_trans→alQ,zero_le→adX
open _root_.Rat renaming intCast_add→adQ,intCast_le_intCast→acJ,intCast_neg→afZ,intCast_sub→acZ,le_total→adJ,mul_eq_zero→axQ,mul_nonneg→aaZ
open Go.IntKind (i64 u64)
namespace Go.Proofs.YtmididlfnajhiaaGreatDoor
section
open Ev
def zN (a b c d:Int):Int:=mn (mn (mn (mn (iZ (a*1073741824) c) (iZ (a*1073741824) c)) (iZ (a*1073741824) d)) (iZ (b*1073741824) c)) (iZ (b*1073741824) d)
def zM (a b c d:Int):Int:=mx (mx (mx (mx (oE (a*1073741824) c) (oE (a*1073741824) c)) (oE (a*1073741824) d)) (oE (b*1073741824) c)) (oE (b*1073741824) d)
def iB (a b c d:Int):Int×Int×Int:=if eQ a b c d=true then (if wZ c d=true then (0,0,16) else kN (zN a b c d) (zM a b c d)) else (0,0,1)
noncomputable def kF20:aZ:=(183,nX (fun a b c d=>.bool (eQ a b c d)))::(184,eII (fun a b=>aL (kN a b)))::(185,rB uN (fun a b=>.int .i64 (iZ a b)))::(186,rB uN (fun a b=>.int .i64 (oE a b)))::(223,eP (fun a b=>.bool (wZ a b)))::[]
theorem kF20_ok:aJ Tryz.prog kF20:=(aA (cH EW) (aA (pB zO) (aA (jY DM) (aA (jY DF) (aA (cF aAY) cO)))))
theorem divR_gives (a b c d:Int):aH Tryz.prog 193 [.agg ⟨[.int .i64 a,.int .i64 b]⟩,.agg ⟨[.int .i64 c,.int .i64 d]⟩] (aL (iB a b c d)):=by
 refine aE bN kF20_ok (t:=cond (!(eQ a b c d)) (some (.v (.tuple ⟨[.agg ⟨[.int .i64 0,.int .i64 0]⟩,.int .i64 1]⟩))) (cond (wZ c d) (some (.v (.tuple ⟨[.agg ⟨[.int .i64 0,.int .i64 0]⟩,.int .i64 16]⟩))) (cond (uN (i64.wrap (a*1073741824)) c) (cond (uN (i64.wrap (a*1073741824)) c) (cond (uN (i64.wrap (a*1073741824)) c) (cond (uN (i64.wrap (a*1073741824)) c) (cond (uN (i64.wrap (a*1073741824)) d) (cond (uN (i64.wrap (a*1073741824)) d) (cond (uN (i64.wrap (b*1073741824)) c) (cond (uN (i64.wrap (b*1073741824)) c) (cond (uN (i64.wrap (b*1073741824)) d) (cond (uN (i64.wrap (b*1073741824)) d) (lt (kN (mn (mn (mn (mn (iZ (i64.wrap (a*1073741824)) c) (iZ (i64.wrap (a*1073741824)) c)) (iZ (i64.wrap (a*1073741824)) d)) (iZ (i64.wrap (b*1073741824)) c)) (iZ (i64.wrap (b*1073741824)) d)) (mx (mx (mx (mx (oE (i64.wrap (a*1073741824)) c) (oE (i64.wrap (a*1073741824)) c)) (oE (i64.wrap (a*1073741824)) d)) (oE (i64.wrap (b*1073741824)) c)) (oE (i64.wrap (b*1073741824)) d))) fun x1=>some (.v (.tuple ⟨[.agg ⟨[.int .i64 x1.1,.int .i64 x1.2.1]⟩,.int .i64 x1.2.2]⟩))) (none)) (none)) (none)) (none)) (none)) (none)) (none)) (none)) (none)) (none)))) (by kernel_rfl) ?_;unfold iB;cases h:eQ a b c d
 ·rfl
 ·cases hz:wZ c d
  ·have:=BA h;have hz:=of_decide_eq_false hz;rw [aX (x:=a*1073741824) (by omega),aX (x:=b*1073741824) (by omega)];have f1:uN (a*1073741824) c=true:=decide_eq_true ⟨by omega,by omega,by omega⟩;have f2:uN (a*1073741824) d=true:=decide_eq_true ⟨by omega,by omega,by omega⟩;have f3:uN (b*1073741824) c=true:=decide_eq_true ⟨by omega,by omega,by omega⟩;have f4:uN (b*1073741824) d=true:=decide_eq_true ⟨by omega,by omega,by omega⟩;rw [f1,f2,f3,f4];rfl
  ·rfl
def wrapN (n:Int):Int:=n%21600000
def pZ (a:Int):Bool:=decide (-1099511627776≤a∧a≤1099511627776)
noncomputable def kF21:aZ:=(58,eP (fun a b=>.bool (aF a b)))::(59,eI (fun a=>.int .i64 (wrapN a)))::kF20
theorem kF21_ok:aJ Tryz.prog kF21:=(aA (cF (fun a b W _=>sQ a b W)) (aA (FA (fun a W _=>wrap_any a W)) kF20_ok))
theorem WX (a:Int):aH Tryz.prog 124 [.int .i64 a] (.bool (pZ a)):=by
 refine aE bN kF21_ok (t:=cond (decide (a≥(-1099511627776))) (some (.v (.bool (decide (a≤1099511627776))))) (some (.v (.bool false)))) (by kernel_rfl) ?_;cases h1:(decide (a≥(-1099511627776)))
 ·rw [cond_false];replace h1:=of_decide_eq_false h1;simp [pZ, *]
 ·rw [cond_true];replace h1:=of_decide_eq_true h1;simp [pZ, *]
def uP (a b:Int):Int×Int×Int:=if pZ a=true∧pZ b=true then (a,b,0) else (0,0,5)
noncomputable def kF22:aZ:=(124,eI (fun a=>.bool (pZ a)))::kF21
theorem kF22_ok:aJ Tryz.prog kF22:=(aA (FA WX) kF21_ok)
theorem MB (a b:Int):aH Tryz.prog 144 [.int .i64 a,.int .i64 b] (aL (uP a b)):=by
 refine aE bN kF22_ok (t:=cond (!(pZ a)) (some (.v (.tuple ⟨[.agg ⟨[.int .i64 0,.int .i64 0]⟩,.int .i64 5]⟩))) (cond (!(pZ b)) (some (.v (.tuple ⟨[.agg ⟨[.int .i64 0,.int .i64 0]⟩,.int .i64 5]⟩))) (some (.v (.tuple ⟨[.agg ⟨[.int .i64 a,.int .i64 b]⟩,.int .i64 0]⟩))))) (by kernel_rfl) ?_;cases h1:(pZ a)
 ·rw [Bool.not_false,cond_true];simp [uP,aL,aD, *]
 ·rw [Bool.not_true,cond_false];cases h2:(pZ b)
  ·rw [Bool.not_false,cond_true];simp [uP,aL,aD, *]
  ·rw [Bool.not_true,cond_false];simp [uP,aL,aD, *]
def AT (a b:Int):Int×Int×Int:=if aF a b=true then (-b,-a,0) else (0,0,1)
theorem dG {a b:Int} (h:aF a b=true):-1099511627776≤a∧a≤b∧b≤1099511627776:=by simpa [aF] using h
noncomputable def kF23:aZ:=(144,eII (fun a b=>aL (uP a b)))::kF22
theorem kF23_ok:aJ Tryz.prog kF23:=(aA (pB MB) kF22_ok)
theorem EU (a b:Int):aH Tryz.prog 85 [.agg ⟨[.int .i64 a,.int .i64 b]⟩] (aL (AT a b)):=by
 refine aE bN kF23_ok (t:=cond (!(aF a b)) (some (.v (.tuple ⟨[.agg ⟨[.int .i64 0,.int .i64 0]⟩,.int .i64 1]⟩))) (lt (uP (i64.wrap (0-b)) (i64.wrap (0-a))) fun x1=>some (.v (.tuple ⟨[.agg ⟨[.int .i64 x1.1,.int .i64 x1.2.1]⟩,.int .i64 x1.2.2]⟩)))) (by kernel_rfl) ?_;unfold AT;cases h:aF a b
 ·rfl
 ·have:=dG h;rw [aX (x:=0-b) (by omega),aX (x:=0-a) (by omega),aoX,aoX];have e:uP (-b) (-a)=(-b,-a,0):=by unfold uP pZ;simp;omega
  rw [e];rfl
def oY (a b c d:Int):Int×Int×Int:=if aF a b=true∧aF c d=true then uP (a+c) (b+d) else (0,0,1)
noncomputable def kF24:aZ:=(85,eP (fun a b=>aL (AT a b)))::kF23
theorem kF24_ok:aJ Tryz.prog kF24:=(aA (cF EU) kF23_ok)
theorem ER (a b c d:Int):aH Tryz.prog 125 [.agg ⟨[.int .i64 a,.int .i64 b]⟩,.agg ⟨[.int .i64 c,.int .i64 d]⟩] (aL (oY a b c d)):=by
 refine aE bN kF24_ok (t:=cond (!(aF a b)) (some (.v (.tuple ⟨[.agg ⟨[.int .i64 0,.int .i64 0]⟩,.int .i64 1]⟩))) (cond (!(aF c d)) (some (.v (.tuple ⟨[.agg ⟨[.int .i64 0,.int .i64 0]⟩,.int .i64 1]⟩))) (lt (uP (i64.wrap (a+c)) (i64.wrap (b+d))) fun x1=>some (.v (.tuple ⟨[.agg ⟨[.int .i64 x1.1,.int .i64 x1.2.1]⟩,.int .i64 x1.2.2]⟩))))) (by kernel_rfl) ?_;unfold oY;cases h:aF a b
 ·rfl
 ·cases h2:aF c d
  ·rfl
  ·have:=dG h;have:=dG h2;rw [aX (x:=a+c) (by omega),aX (x:=b+d) (by omega)];rfl
def jW (a b c d:Int):Int×Int×Int:=if aF a b=true∧aF c d=true then uP (a-d) (b-c) else (0,0,1)
noncomputable def kF25:aZ:=(125,nX (fun a b c d=>aL (oY a b c d)))::kF24
theorem SK:aJ Tryz.prog kF25:=(aA (cH ER) kF24_ok)
theorem pX (a b c d:Int):aH Tryz.prog 61 [.agg ⟨[.int .i64 a,.int .i64 b]⟩,.agg ⟨[.int .i64 c,.int .i64 d]⟩] (aL (jW a b c d)):=by
 refine aE bN SK (t:=lt (AT c d) fun x1=>cond (x1.2.2 != 0) (some (.v (.tuple ⟨[.agg ⟨[.int .i64 x1.1,.int .i64 x1.2.1]⟩,.int .i64 x1.2.2]⟩))) (lt (oY a b x1.1 x1.2.1) fun x2=>some (.v (.tuple ⟨[.agg ⟨[.int .i64 x2.1,.int .i64 x2.2.1]⟩,.int .i64 x2.2.2]⟩)))) (by kernel_rfl) ?_;unfold jW;unfold AT;cases h2:aF c d
 ·simp only [lt];cases h:aF a b<;>rfl
 ·have:=dG h2;simp only [lt];have e:oY a b (-d) (-c)=if aF a b=true∧True then uP (a-d) (b-c) else (0,0,1):=by
   unfold oY;have:aF (-d) (-c)=true:=by simp [aF];omega
   rw [this];simp [Int.sub_eq_add_neg]
  simp only [if_pos];rw [e];cases h:aF a b<;>rfl
def cD (a b:Int):Int×Int×Int:=if aF a b=true then (dE a b,cJ a b,0) else (0,0,1)
theorem wW (a b:Int):aH Tryz.prog 78 [.agg ⟨[.int .i64 a,.int .i64 b]⟩] (aL (cD a b)):=by
 refine aE bN SK (t:=cond (!(aF a b)) (some (.v (.tuple ⟨[.agg ⟨[.int .i64 0,.int .i64 0]⟩,.int .i64 1]⟩))) (cond (decide (i64.wrap (b-a)≥21600000)) (some (.v (.tuple ⟨[.agg ⟨[.int .i64 0,.int .i64 21600000]⟩,.int .i64 0]⟩))) (some (.v (.tuple ⟨[.agg ⟨[.int .i64 (wrapN a),.int .i64 (i64.wrap ((wrapN a)+(i64.wrap (b-a))))]⟩,.int .i64 0]⟩))))) (by kernel_rfl) ?_;unfold cD;cases h:aF a b
 ·rfl
 ·have:=dG h;unfold wrapN;rw [aX (x:=b-a) (by omega),aX (x:=a%21600000+(b-a)) (by omega)];unfold dE cJ;by_cases h1:21600000≤b-a
  ·have e:decide (b-a≥21600000)=true:=decide_eq_true h1;rw [e];simp [h1,aL,aD]
  ·have e:decide (b-a≥21600000)=false:=decide_eq_false h1;rw [e];simp [h1,aL,aD]
def dF (a b c d:Int):Int×Int×Int:=if aF a b=true∧aF c d=true then (if mx a c>mn b d then (0,0,23) else (mx a c,mn b d,0)) else (0,0,1)
theorem sC (a b c d:Int):aH Tryz.prog 28 [.agg ⟨[.int .i64 a,.int .i64 b]⟩,.agg ⟨[.int .i64 c,.int .i64 d]⟩] (aL (dF a b c d)):=by
 refine aE bN SK (t:=cond (!(aF a b)) (some (.v (.tuple ⟨[.agg ⟨[.int .i64 0,.int .i64 0]⟩,.int .i64 1]⟩))) (cond (!(aF c d)) (some (.v (.tuple ⟨[.agg ⟨[.int .i64 0,.int .i64 0]⟩,.int .i64 1]⟩))) (cond (decide ((mx a c)>(mn b d))) (some (.v (.tuple ⟨[.agg ⟨[.int .i64 0,.int .i64 0]⟩,.int .i64 23]⟩))) (some (.v (.tuple ⟨[.agg ⟨[.int .i64 (mx a c),.int .i64 (mn b d)]⟩,.int .i64 0]⟩)))))) (by kernel_rfl) ?_;cases h1:(aF a b)
 ·rw [Bool.not_false,cond_true];simp [dF,aL,aD, *]
 ·rw [Bool.not_true,cond_false];cases h2:(aF c d)
  ·rw [Bool.not_false,cond_true];simp [dF,aL,aD, *]
  ·rw [Bool.not_true,cond_false];cases h3:(decide ((mx a c)>(mn b d)))
   ·rw [cond_false];replace h3:=of_decide_eq_false h3;simp [dF,aL,aD, *]
   ·rw [cond_true];replace h3:=of_decide_eq_true h3;simp [dF,aL,aD, *]
end
section
open Ev
def dV (r:Int×Int×Int×Int×Int):Value:=.tuple ⟨[.agg ⟨[.int .i64 r.1,.int .i64 r.2.1,.int .i64 r.2.2.1,.int .i64 r.2.2.2.1]⟩,.int .i64 r.2.2.2.2]⟩
def twoV (r:Int×Int×Int×Int×Int):Value:=.tuple ⟨[aD r.1 r.2.1,aD r.2.2.1 r.2.2.2.1,.int .i64 r.2.2.2.2]⟩
def OB (r:Int×Int×Int×Int):Value:=.agg ⟨[.int .i64 r.1,.int .i64 r.2.1,.int .i64 r.2.2.1,.int .i64 r.2.2.2]⟩
def mD (a b:Int):Bool:=aF a b&&(decide (a≥-5400000)&&decide (b≤5400000))
noncomputable def kFc0:aZ:=(58,eP (fun a b=>.bool (aF a b)))::(90,nX (fun a b c d=>aL (aQ a b c d)))::(127,nX (fun a b c d=>aL (bT a b c d)))::(132,nX (fun a b c d=>aL (fS a b c d)))::(135,eP (fun a b=>aL (aN a b)))::(137,eP (fun a b=>aL (aV a b)))::(138,eP (fun a b=>aL (mK a b)))::(139,eP (fun a b=>aL (aW a b)))::(192,nX (fun a b c d=>aL (mQ a b c d)))::[]
theorem kFc0_ok:aJ Tryz.prog kFc0:=(aA (cF (fun a b W _=>sQ a b W)) (aA (cH (fun a b c d W _=>AW a b c d W)) (aA (cH pJ) (aA (cH sB) (aA (cF (fun a b W _=>WK a b W)) (aA (cF (fun a b W _=>RG a b W)) (aA (cF zU) (aA (cF (fun a b W _=>sin_r a b W)) (aA (cH AM) cO)))))))))
theorem latB_gives (a b:Int):aH Tryz.prog 119 [.agg ⟨[.int .i64 a,.int .i64 b]⟩] (.bool (mD a b)):=by
 refine aE bN kFc0_ok (t:=cond (aF a b) (cond (decide (a≥(-5400000))) (some (.v (.bool (decide (b≤5400000))))) (some (.v (.bool false)))) (some (.v (.bool false)))) (by kernel_rfl) ?_;cases h1:(aF a b)
 ·rw [cond_false];simp [mD, *]
 ·rw [cond_true];cases h2:(decide (a≥(-5400000)))
  ·rw [cond_false];replace h2:=of_decide_eq_false h2;simp [mD, *]
  ·rw [cond_true];replace h2:=of_decide_eq_true h2;simp [mD, *]
def cS (a b c d e f:Int):Bool:=mD a b&&(mD c d&&aF e f)
noncomputable def kFc1:aZ:=(119,eP (fun a b=>.bool (mD a b)))::kFc0
theorem kFc1_ok:aJ Tryz.prog kFc1:=(aA (cF latB_gives) kFc0_ok)
theorem kI (a b c d e f:Int):aH Tryz.prog 48 [.agg ⟨[.int .i64 a,.int .i64 b,.int .i64 c,.int .i64 d,.int .i64 e,.int .i64 f]⟩] (.bool (cS a b c d e f)):=by
 refine aE bN kFc1_ok (t:=cond (mD a b) (cond (mD c d) (some (.v (.bool (aF e f)))) (some (.v (.bool false)))) (some (.v (.bool false)))) (by kernel_rfl) ?_;cases h1:(mD a b)
 ·rw [cond_false];simp [cS, *]
 ·rw [cond_true];cases h2:(mD c d)
  ·rw [cond_false];simp [cS, *]
  ·rw [cond_true];simp [cS, *]
def qM (a b _e:Int):Int×Int:=(a,b)
def sI (k _a _b e:Int):Int:=bJ k e
noncomputable def kFc2:aZ:=(48,eT (fun a b c d e f=>.bool (cS a b c d e f)))::kFc1
theorem kFc2_ok:aJ Tryz.prog kFc2:=(aA (gS kI) kFc1_ok)
theorem WF (k a b c:Int):gW Tryz.prog 220 156 k [.agg ⟨[.int .i64 a,.int .i64 b]⟩,.int .i64 c] (aD (qM a b c).1 (qM a b c).2) (sI k a b c):=by
 refine bR bN kFc2_ok (t:=cond (k==0) (some (.v (.agg ⟨[.int .i64 a,.int .i64 b]⟩),⟨[.v (.int .i64 c)],156⟩)) (some (.v (.agg ⟨[.int .i64 a,.int .i64 b]⟩),⟨[.v (.int .i64 k)],156⟩))) (by kernel_rfl) ?_;unfold sI bJ;by_cases h:k=0
 ·simp [h];rfl
 ·have e:(k==0)=false:=beq_eq_false_iff_ne.2 h;rw [e];simp [h];rfl
noncomputable def uC (a b:Int):Int×Int:=((aW a b).1,(aW a b).2.1)
noncomputable def yI (k a b:Int):Int:=bJ k (aW a b).2.2
noncomputable def kFc3:aZ:=(220,cPI 156 (fun a b c=>aD (qM a b c).1 (qM a b c).2) sI)::kFc2
theorem kFc3_ok:aJ Tryz.prog kFc3:=(aA (sH WF) kFc2_ok)
theorem csinV_mods (k a b:Int):gW Tryz.prog 218 156 k [.agg ⟨[.int .i64 a,.int .i64 b]⟩] (aD (uC a b).1 (uC a b).2) (yI k a b):=by
 refine bR bN kFc3_ok (t:=lt (aW a b) fun x1=>lt (qM x1.1 x1.2.1 x1.2.2) fun x3=>lt (sI k x1.1 x1.2.1 x1.2.2) fun x2=>some (.v (.agg ⟨[.int .i64 x3.1,.int .i64 x3.2]⟩),⟨[.v (.int .i64 x2)],156⟩)) (by kernel_rfl) ?_;rfl
noncomputable def uB (a b:Int):Int×Int:=((aN a b).1,(aN a b).2.1)
noncomputable def yH (k a b:Int):Int:=bJ k (aN a b).2.2
noncomputable def kFc4:aZ:=(218,cP 156 (fun a b=>aD (uC a b).1 (uC a b).2) yI)::kFc3
theorem kFc4_ok:aJ Tryz.prog kFc4:=(aA (uA csinV_mods) kFc3_ok)
theorem ccosV_mods (k a b:Int):gW Tryz.prog 219 156 k [.agg ⟨[.int .i64 a,.int .i64 b]⟩] (aD (uB a b).1 (uB a b).2) (yH k a b):=by
 refine bR bN kFc4_ok (t:=lt (aN a b) fun x1=>lt (qM x1.1 x1.2.1 x1.2.2) fun x3=>lt (sI k x1.1 x1.2.1 x1.2.2) fun x2=>some (.v (.agg ⟨[.int .i64 x3.1,.int .i64 x3.2]⟩),⟨[.v (.int .i64 x2)],156⟩)) (by kernel_rfl) ?_;rfl
noncomputable def qY (a b c d:Int):Int×Int:=((bT a b c d).1,(bT a b c d).2.1)
noncomputable def vK (k a b c d:Int):Int:=bJ k (bT a b c d).2.2
noncomputable def kFc5:aZ:=(219,cP 156 (fun a b=>aD (uB a b).1 (uB a b).2) yH)::kFc4
theorem kFc5_ok:aJ Tryz.prog kFc5:=(aA (uA ccosV_mods) kFc4_ok)
theorem cmulV_mods (k a b c d:Int):gW Tryz.prog 180 156 k [.agg ⟨[.int .i64 a,.int .i64 b]⟩,.agg ⟨[.int .i64 c,.int .i64 d]⟩] (aD (qY a b c d).1 (qY a b c d).2) (vK k a b c d):=by
 refine bR bN kFc5_ok (t:=lt (bT a b c d) fun x1=>lt (qM x1.1 x1.2.1 x1.2.2) fun x3=>lt (sI k x1.1 x1.2.1 x1.2.2) fun x2=>some (.v (.agg ⟨[.int .i64 x3.1,.int .i64 x3.2]⟩),⟨[.v (.int .i64 x2)],156⟩)) (by kernel_rfl) ?_;rfl
noncomputable def OP (a b c d:Int):Int×Int:=((fS a b c d).1,(fS a b c d).2.1)
noncomputable def caddC (k a b c d:Int):Int:=bJ k (fS a b c d).2.2
noncomputable def kFc6:aZ:=(180,VZ 156 (fun a b c d=>aD (qY a b c d).1 (qY a b c d).2) vK)::kFc5
theorem kFc6_ok:aJ Tryz.prog kFc6:=(aA (lV cmulV_mods) kFc5_ok)
theorem caddV_mods (k a b c d:Int):gW Tryz.prog 179 156 k [.agg ⟨[.int .i64 a,.int .i64 b]⟩,.agg ⟨[.int .i64 c,.int .i64 d]⟩] (aD (OP a b c d).1 (OP a b c d).2) (caddC k a b c d):=by
 refine bR bN kFc6_ok (t:=lt (fS a b c d) fun x1=>lt (qM x1.1 x1.2.1 x1.2.2) fun x3=>lt (sI k x1.1 x1.2.1 x1.2.2) fun x2=>some (.v (.agg ⟨[.int .i64 x3.1,.int .i64 x3.2]⟩),⟨[.v (.int .i64 x2)],156⟩)) (by kernel_rfl) ?_;rfl
noncomputable def OU (a b c d:Int):Int×Int:=((mQ a b c d).1,(mQ a b c d).2.1)
noncomputable def csubC (k a b c d:Int):Int:=bJ k (mQ a b c d).2.2
noncomputable def kFc7:aZ:=(179,VZ 156 (fun a b c d=>aD (OP a b c d).1 (OP a b c d).2) caddC)::kFc6
theorem kFc7_ok:aJ Tryz.prog kFc7:=(aA (lV caddV_mods) kFc6_ok)
theorem csubV_mods (k a b c d:Int):gW Tryz.prog 182 156 k [.agg ⟨[.int .i64 a,.int .i64 b]⟩,.agg ⟨[.int .i64 c,.int .i64 d]⟩] (aD (OU a b c d).1 (OU a b c d).2) (csubC k a b c d):=by
 refine bR bN kFc7_ok (t:=lt (mQ a b c d) fun x1=>lt (qM x1.1 x1.2.1 x1.2.2) fun x3=>lt (sI k x1.1 x1.2.1 x1.2.2) fun x2=>some (.v (.agg ⟨[.int .i64 x3.1,.int .i64 x3.2]⟩),⟨[.v (.int .i64 x2)],156⟩)) (by kernel_rfl) ?_;rfl
noncomputable def OS (a b:Int):Int×Int:=((mK a b).1,(mK a b).2.1)
noncomputable def cnegC (k a b:Int):Int:=bJ k (mK a b).2.2
noncomputable def kFc8:aZ:=(182,VZ 156 (fun a b c d=>aD (OU a b c d).1 (OU a b c d).2) csubC)::kFc7
theorem kFc8_ok:aJ Tryz.prog kFc8:=(aA (lV csubV_mods) kFc7_ok)
theorem cnegV_mods (k a b:Int):gW Tryz.prog 181 156 k [.agg ⟨[.int .i64 a,.int .i64 b]⟩] (aD (OS a b).1 (OS a b).2) (cnegC k a b):=by
 refine bR bN kFc8_ok (t:=lt (mK a b) fun x1=>lt (qM x1.1 x1.2.1 x1.2.2) fun x3=>lt (sI k x1.1 x1.2.1 x1.2.2) fun x2=>some (.v (.agg ⟨[.int .i64 x3.1,.int .i64 x3.2]⟩),⟨[.v (.int .i64 x2)],156⟩)) (by kernel_rfl) ?_;rfl
noncomputable def JR {α:Type} (K:Int→Int→Int→α) (a b c d e f:Int):α:=lt (uC a b) fun x2=>lt (yI 0 a b) fun x1=>lt (uB a b) fun x4=>lt (yH x1 a b) fun x3=>lt (uC c d) fun x6=>lt (yI x3 c d) fun x5=>lt (uB c d) fun x8=>lt (yH x5 c d) fun x7=>lt (uC e f) fun _=>lt (yI x7 e f) fun x9=>lt (uB e f) fun x12=>lt (yH x9 e f) fun x11=>lt (qY x2.1 x2.2 x6.1 x6.2) fun x14=>lt (vK x11 x2.1 x2.2 x6.1 x6.2) fun x13=>lt (qY x4.1 x4.2 x8.1 x8.2) fun x16=>lt (vK x13 x4.1 x4.2 x8.1 x8.2) fun x15=>lt (qY x16.1 x16.2 x12.1 x12.2) fun x18=>lt (vK x15 x16.1 x16.2 x12.1 x12.2) fun x17=>lt (OP x14.1 x14.2 x18.1 x18.2) fun x20=>lt (caddC x17 x14.1 x14.2 x18.1 x18.2) fun x19=>cond (x19 != 0) (K 0 0 x19) (lt (aV x20.1 x20.2) fun x21=>K x21.1 x21.2.1 x21.2.2)
noncomputable def yF (a b c d e f:Int):Int×Int×Int:=JR (fun p0 p1 p2=>(p0,p1,p2)) a b c d e f
noncomputable def kFc9:aZ:=(181,cP 156 (fun a b=>aD (OS a b).1 (OS a b).2) cnegC)::kFc8
theorem kFc9_ok:aJ Tryz.prog kFc9:=(aA (uA cnegV_mods) kFc8_ok)
theorem WB (a b c d e f:Int):aH Tryz.prog 122 [.agg ⟨[.int .i64 a,.int .i64 b,.int .i64 c,.int .i64 d,.int .i64 e,.int .i64 f]⟩] (aL (yF a b c d e f)):=by
 refine aE bN kFc9_ok (t:=JR (fun p0 p1 p2=>some (.v (aL ((p0,p1,p2))))) a b c d e f) (by kernel_rfl) ?_;unfold yF JR;repeat' first | (with_reducible refine aT (fun r:Int×Int×Int=>AV.v (aL (r))) ?_ ?_) | (with_reducible refine cG (fun r:Int×Int×Int=>AV.v (aL (r))) fun _=>?_) | rfl
noncomputable def RN {α:Type} (K:Int→Int→Int→α) (a b c d e f:Int):α:=lt (uC a b) fun x2=>lt (yI 0 a b) fun x1=>lt (uB a b) fun x4=>lt (yH x1 a b) fun x3=>lt (uC c d) fun x6=>lt (yI x3 c d) fun x5=>lt (uB c d) fun x8=>lt (yH x5 c d) fun x7=>lt (uC e f) fun x10=>lt (yI x7 e f) fun x9=>lt (uB e f) fun x12=>lt (yH x9 e f) fun x11=>lt (qY x8.1 x8.2 x10.1 x10.2) fun x14=>lt (vK x11 x8.1 x8.2 x10.1 x10.2) fun x13=>lt (OS x14.1 x14.2) fun x16=>lt (cnegC x13 x14.1 x14.2) fun x15=>lt (qY x6.1 x6.2 x4.1 x4.2) fun x18=>lt (vK x15 x6.1 x6.2 x4.1 x4.2) fun x17=>lt (qY x8.1 x8.2 x12.1 x12.2) fun x20=>lt (vK x17 x8.1 x8.2 x12.1 x12.2) fun x19=>lt (qY x20.1 x20.2 x2.1 x2.2) fun x22=>lt (vK x19 x20.1 x20.2 x2.1 x2.2) fun x21=>lt (OU x18.1 x18.2 x22.1 x22.2) fun x24=>lt (csubC x21 x18.1 x18.2 x22.1 x22.2) fun x23=>cond (x23 != 0) (K 0 0 x23) (lt (aQ x16.1 x16.2 x24.1 x24.2) fun x25=>K x25.1 x25.2.1 x25.2.2)
noncomputable def yG (a b c d e f:Int):Int×Int×Int:=RN (fun p0 p1 p2=>(p0,p1,p2)) a b c d e f
noncomputable def kFc10:aZ:=(122,eT (fun a b c d e f=>aL (yF a b c d e f)))::kFc9
theorem XS:aJ Tryz.prog kFc10:=(aA (gS WB) kFc9_ok)
theorem WC (a b c d e f:Int):aH Tryz.prog 123 [.agg ⟨[.int .i64 a,.int .i64 b,.int .i64 c,.int .i64 d,.int .i64 e,.int .i64 f]⟩] (aL (yG a b c d e f)):=by
 refine aE bN XS (t:=RN (fun p0 p1 p2=>some (.v (aL ((p0,p1,p2))))) a b c d e f) (by kernel_rfl) ?_;unfold yG RN;repeat' first | (with_reducible refine aT (fun r:Int×Int×Int=>AV.v (aL (r))) ?_ ?_) | (with_reducible refine cG (fun r:Int×Int×Int=>AV.v (aL (r))) fun _=>?_) | rfl
noncomputable def zI {α:Type} (K:Int→Int→Int→α) (a b c d e f:Int):α:=cond (!(cS a b c d e f)) (K 0 0 1) (lt (yF a b c d e f) fun x1=>K x1.1 x1.2.1 x1.2.2)
noncomputable def vJ (a b c d e f:Int):Int×Int×Int:=zI (fun p0 p1 p2=>(p0,p1,p2)) a b c d e f
noncomputable def kFc11:aZ:=(123,eT (fun a b c d e f=>aL (yG a b c d e f)))::kFc10
theorem XT:aJ Tryz.prog kFc11:=(aA (gS WC) XS)
theorem VX (a b c d e f:Int):aH Tryz.prog 56 [.agg ⟨[.int .i64 a,.int .i64 b,.int .i64 c,.int .i64 d,.int .i64 e,.int .i64 f]⟩] (aL (vJ a b c d e f)):=by
 refine aE bN XT (t:=zI (fun p0 p1 p2=>some (.v (aL ((p0,p1,p2))))) a b c d e f) (by kernel_rfl) ?_;unfold vJ zI;repeat' first | (with_reducible refine aT (fun r:Int×Int×Int=>AV.v (aL (r))) ?_ ?_) | (with_reducible refine cG (fun r:Int×Int×Int=>AV.v (aL (r))) fun _=>?_) | rfl
noncomputable def JQ {α:Type} (K:Int→Int→Int→α) (a b c d e f:Int):α:=cond (!(cS a b c d e f)) (K 0 0 1) (lt (yG a b c d e f) fun x1=>K x1.1 x1.2.1 x1.2.2)
noncomputable def EX (a b c d e f:Int):Int×Int×Int:=JQ (fun p0 p1 p2=>(p0,p1,p2)) a b c d e f
noncomputable def kFc12:aZ:=(56,eT (fun a b c d e f=>aL (vJ a b c d e f)))::kFc11
theorem XU:aJ Tryz.prog kFc12:=(aA (gS VX) XT)
theorem VY (a b c d e f:Int):aH Tryz.prog 57 [.agg ⟨[.int .i64 a,.int .i64 b,.int .i64 c,.int .i64 d,.int .i64 e,.int .i64 f]⟩] (aL (EX a b c d e f)):=by
 refine aE bN XU (t:=JQ (fun p0 p1 p2=>some (.v (aL ((p0,p1,p2))))) a b c d e f) (by kernel_rfl) ?_;unfold EX JQ;repeat' first | (with_reducible refine aT (fun r:Int×Int×Int=>AV.v (aL (r))) ?_ ?_) | (with_reducible refine cG (fun r:Int×Int×Int=>AV.v (aL (r))) fun _=>?_) | rfl
noncomputable def zK {α:Type} (K:Int→Int→Int→Int→Int→α) (a b c d e f:Int):α:=lt (vJ a b c d e f) fun x1=>cond (x1.2.2 != 0) (K 0 0 0 0 x1.2.2) (lt (EX a b c d e f) fun x2=>cond (x2.2.2 != 0) (K 0 0 0 0 x2.2.2) (K x1.1 x1.2.1 x2.1 x2.2.1 0))
noncomputable def iQ (a b c d e f:Int):Int×Int×Int×Int×Int:=zK (fun p0 p1 p2 p3 p4=>(p0,p1,p2,p3,p4)) a b c d e f
noncomputable def kFc13:aZ:=(57,eT (fun a b c d e f=>aL (EX a b c d e f)))::kFc12
theorem kFc13_ok:aJ Tryz.prog kFc13:=(aA (gS VY) XU)
theorem WN (a b c d e f:Int):aH Tryz.prog 26 [.agg ⟨[.int .i64 a,.int .i64 b,.int .i64 c,.int .i64 d,.int .i64 e,.int .i64 f]⟩] (dV (iQ a b c d e f)):=by
 refine aE bN kFc13_ok (t:=zK (fun p0 p1 p2 p3 p4=>some (.v (dV ((p0,p1,p2,p3,p4))))) a b c d e f) (by kernel_rfl) ?_;unfold iQ zK;repeat' first | (with_reducible refine aT (fun r:Int×Int×Int×Int×Int=>AV.v (dV (r))) ?_ ?_) | (with_reducible refine cG (fun r:Int×Int×Int×Int×Int=>AV.v (dV (r))) fun _=>?_) | rfl
end
abbrev gR:=Int×Int×Int×Int
def qO:gR:=(0,0,0,0)
def DJ (a b c d k:Int):Option (Int×Int):=if mx a (c+k)>mn b (d+k) then none else some (mx a (c+k),mn b (d+k))
def aAP:List Int:=[-21600000,0,21600000]
def rA (a b c d:Int) (i:Nat):List (Int×Int):=(aAP.take i).filterMap (DJ a b c d)
def zL (a b c d:Int):List (Int×Int)→Int×Int×Int
 | []=>(0,0,23)
 | [p]=>cD p.1 p.2
 | _=>if d-c<b-a then (c,d,0) else (a,b,0)
def dD (a b c d:Int):Int×Int×Int:=
 if a=0∧b=21600000 then (c,d,0) else if c=0∧d=21600000 then (a,b,0) else zL a b c d (rA a b c d 3)
theorem vV {α β:Type} (f:α→Option β) (l:List α) (x:α):(l++[x]).filterMap f=l.filterMap f++(f x).toList:=by
 rw [List.filterMap_append];cases h:f x<;>simp [h]
theorem xG (a b c d:Int) (i:Nat) (h:i<3):rA a b c d (i+1)=rA a b c d i++(DJ a b c d (-21600000+21600000*(i:Int))).toList:=by
 unfold rA;have e:aAP.take (i+1)=aAP.take i++[-21600000+21600000*(i:Int)]:=by
  have:i=0∨i=1∨i=2:=by omega
  rcases this with rfl | rfl | rfl<;>rfl
 rw [e,vV]
theorem JV (a b c d:Int) (i:Nat):(rA a b c d i).length≤3:=by
 refine alQ (List.length_filterMap_le _ _) ?_;simp [aAP];omega
def gB (s:gR):Bool:=aF s.1 s.2.1&&(aF s.2.2.1 s.2.2.2&&((s.2.2.1==0&&s.2.2.2==21600000)||(decide (0≤s.2.2.1)&&(decide (s.2.2.1<21600000)&&decide (s.2.2.2-s.2.2.1<21600000)))))
theorem jL {s:gR} (h:gB s=true):aF s.1 s.2.1=true∧aF s.2.2.1 s.2.2.2=true∧0≤s.2.2.1∧s.2.2.1<21600000∧s.2.2.2≤43200000:=by
 unfold gB at h;simp only [Bool.and_eq_true,Bool.or_eq_true,beq_iff_eq,decide_eq_true_eq] at h;obtain ⟨h1,h2,h3⟩:=h;exact ⟨h1,h2,by omega,by omega,by omega⟩
def qC (o s:gR):Option gR:=
 if (dF o.1 o.2.1 s.1 s.2.1).2.2=0∧(dD o.2.2.1 o.2.2.2 s.2.2.1 s.2.2.2).2.2=0 then some ((dF o.1 o.2.1 s.1 s.2.1).1,(dF o.1 o.2.1 s.1 s.2.1).2.1,(dD o.2.2.1 o.2.2.2 s.2.2.1 s.2.2.2).1,(dD o.2.2.1 o.2.2.2 s.2.2.1 s.2.2.2).2.1) else none
def qB:gR→List gR→Option gR
 | o,[]=>some o
 | o,s::l=>match qC o s with
  | none=>none
  | some x=>qB x l
def iL:List gR→Int×Int×Int×Int×Int
 | []=>(0,0,0,0,14)
 | s::r=>if 1000<(s::r).length then (0,0,0,0,4) else if (s::r).any (fun s=> !gB s) then (0,0,0,0,1) else
  match qB s r with
  | none=>(0,0,0,0,23)
  | some x=>(x.1,x.2.1,x.2.2.1,x.2.2.2,0)
theorem meetR_many {s:gR} {r:List gR} (h:1000<(s::r).length):iL (s::r)=(0,0,0,0,4):=by
 simp only [iL];rw [if_pos h]
theorem PL {s:gR} {r:List gR} (h:¬1000<(s::r).length) (hb:(s::r).any (fun s=> !gB s)=true):iL (s::r)=(0,0,0,0,1):=by
 simp only [iL];rw [if_neg h,if_pos hb]
theorem BS {s:gR} {r:List gR} (h:¬1000<(s::r).length) (hb:(s::r).any (fun s=> !gB s)=false):iL (s::r)=match qB s r with
  | none=>(0,0,0,0,23)
  | some x=>(x.1,x.2.1,x.2.2.1,x.2.2.2,0):=by
 simp only [iL];rw [if_neg h,if_neg (by rw [hb];simp)]
theorem WO (htv:∀a b,aF a b=true→(cD a b).2.2=0→aF (cD a b).1 (cD a b).2.1=true) {a b c d:Int} (h:aF a b=true) (h':aF c d=true) (_hb:-500000000000≤c∧d≤500000000000) (h0:(dD a b c d).2.2=0):aF (dD a b c d).1 (dD a b c d).2.1=true:=by
 unfold dD at*;by_cases h1:a=0∧b=21600000
 ·rw [if_pos h1] at*;exact h'
 ·rw [if_neg h1] at*;by_cases h2:c=0∧d=21600000
  ·rw [if_pos h2] at*;exact h
  ·rw [if_neg h2] at*;cases hL:rA a b c d 3 with
   | nil=>rw [hL] at h0;cases h0
   | cons p L=>
    rw [hL] at h0;cases L with
    | nil=>
     have hp:p∈rA a b c d 3:=by rw [hL];simp
     unfold rA at hp;rw [List.mem_filterMap] at hp;obtain ⟨k,hk,hp⟩:=hp;have bd:=dG h;unfold DJ at hp;split at hp
     ·cases hp
     ·cases hp;refine htv _ _ ?_ h0;have m1:a≤mx a (c+k)∧mn b (d+k)≤b:=by unfold mx mn;constructor<;>split<;>omega
      unfold aF;simp;omega
    | cons q L=>
     simp only [zL];split
     ·exact h'
     ·exact h
theorem ZC (htv:∀a b,aF a b=true→(cD a b).2.2=0→aF (cD a b).1 (cD a b).2.1=true) {o s x:gR} (h:aF o.2.2.1 o.2.2.2=true) (hs:gB s=true) (hx:qC o s=some x):aF x.2.2.1 x.2.2.2=true:=by
 have b:=jL hs;unfold qC at hx;split at hx
 ·cases hx;rename_i h1;exact WO htv h b.2.1 (by omega) h1.2
 ·cases hx
def okS (r:Int×Int×Int×Int×Int):Option gR:=if r.2.2.2.2=0 then some (r.1,r.2.1,r.2.2.1,r.2.2.2.1) else none
def nY (by_:Int→Int×Int×Int×Int×Int) (i:Nat):List gR:=(List.range i).filterMap fun (j:Nat)=>okS (by_ ((j:Int)+1))
theorem kJ (by_:Int→Int×Int×Int×Int×Int) (i:Nat):nY by_ (i+1)=nY by_ i++(okS (by_ ((i:Int)+1))).toList:=by
 unfold nY;rw [List.range_succ,vV]
theorem uY (by_:Int→Int×Int×Int×Int×Int) (i:Nat):(nY by_ i).length≤i:=by
 refine alQ (List.length_filterMap_le _ _) ?_;simp
def AF (rc:Int→Int→Int→Int→Int×Int×Bool) (o s:gR):Option gR:=
 if (rc o.2.2.1 o.2.2.2 s.2.2.1 s.2.2.2).2.2=true∧¬mx o.1 s.1>mn o.2.1 s.2.1 then some (mx o.1 s.1,mn o.2.1 s.2.1,(rc o.2.2.1 o.2.2.2 s.2.2.1 s.2.2.2).1,(rc o.2.2.1 o.2.2.2 s.2.2.1 s.2.2.2).2.1) else none
def mP (rc:Int→Int→Int→Int→Int×Int×Bool):gR→List gR→Option gR
 | o,[]=>some o
 | o,s::l=>match AF rc o s with
  | none=>none
  | some x=>mP rc x l
namespace TA
def sm (f:Nat→Rat):Nat→Rat
 | 0=>0
 | n+1=>sm f n+f n
theorem dX {f g:Nat→Rat}:∀{n:Nat},(∀i,i<n→f i=g i)→sm f n=sm g n
 | 0,_=>rfl
 | n+1,h=>by
  unfold sm;rw [dX (fun i hi=>h i (by omega)),h n (by omega)]
theorem ED (f g:Nat→Rat):∀n,sm (fun i=>f i+g i) n=sm f n+sm g n
 | 0=>by unfold sm;grind
 | n+1=>by unfold sm;rw [ED f g n];grind
theorem EG (c:Rat) (f:Nat→Rat):∀n,sm (fun i=>c*f i) n=c*sm f n
 | 0=>by unfold sm;grind
 | n+1=>by unfold sm;rw [EG c f n];grind
theorem sm_sub (f g:Nat→Rat):∀n,sm (fun i=>f i-g i) n=sm f n-sm g n
 | 0=>by unfold sm;grind
 | n+1=>by unfold sm;rw [sm_sub f g n];grind
theorem aAG (f:Nat→Rat):∀n,sm f (n+1)=f 0+sm (fun i=>f (i+1)) n
 | 0=>by unfold sm;unfold sm;grind
 | n+1=>by
  rw [sm,aAG f n,sm];grind
theorem CG (f:Nat→Rat) (m:Nat):∀n,sm f (m+n)=sm f m+sm (fun i=>f (m+i)) n
 | 0=>by simp [sm];grind
 | n+1=>by
  rw [←Nat.add_assoc,sm,CG f m n,sm];grind
theorem MU {f g:Nat→Rat}:∀{n:Nat},(∀i,i<n→f i≤g i)→sm f n≤sm g n
 | 0,_=>by unfold sm;grind
 | n+1,h=>by
  unfold sm;have:=MU (f:=f) (g:=g) (n:=n) (fun i hi=>h i (by omega));have:=h n (by omega);grind
theorem sm_neg (f:Nat→Rat):∀n,sm (fun i=>-f i) n=-sm f n
 | 0=>by unfold sm;grind
 | n+1=>by unfold sm;rw [sm_neg f n];grind
theorem sm_abs {f g:Nat→Rat} {n:Nat} (h:∀i,i<n→-g i≤f i∧f i≤g i):-sm g n≤sm f n∧sm f n≤sm g n:=by
 refine ⟨?_,MU fun i hi=>(h i hi).2⟩;rw [←sm_neg];exact MU fun i hi=>(h i hi).1
theorem tri (G:Nat→Nat→Rat):∀N,sm (fun a=>sm (fun b=>G a b) (N+1-a)) (N+1)=sm (fun n=>sm (fun a=>G a (n-a)) (n+1)) (N+1)
 | 0=>by simp [sm]
 | N+1=>by
  have h1:sm (fun a=>sm (fun b=>G a b) (N+1+1-a)) (N+1)=sm (fun a=>sm (fun b=>G a b) (N+1-a)+G a (N+1-a)) (N+1):=
   dX fun a ha=>by
    have:N+1+1-a=(N+1-a)+1:=by omega
    rw [this,sm]
  rw [sm,h1,ED,tri G N];have h2:N+1+1-(N+1)=1:=by omega
  have h3:sm (fun b=>G (N+1) b) 1=G (N+1) 0:=by simp [sm];grind
  rw [h2,h3];conv=>rhs;rw [sm]
  have h4:sm (fun a=>G a (N+1-a)) (N+1+1)=sm (fun a=>G a (N+1-a)) (N+1)+G (N+1) 0:=by
   rw [sm];simp
  rw [h4];grind
theorem square (G:Nat→Nat→Rat) (N:Nat):sm (fun a=>sm (fun b=>G a b) (N+1)) (N+1)=sm (fun n=>sm (fun a=>G a (n-a)) (n+1)) (N+1)+sm (fun a=>sm (fun j=>G a (N+1-a+j)) a) (N+1):=by
 rw [←tri,←ED];refine dX fun a ha=>?_;have:=CG (fun b=>G a b) (N+1-a) a;rw [←this];congr 1;omega
def P:Nat→Rat→Rat
 | 0,_=>1
 | n+1,x=>P n x*x/((n:Rat)+1)
theorem pos (n:Nat):(0:Rat)<(n:Rat)+1:=by
 have:(0:Rat)≤(n:Rat):=by exact_mod_cast adX n
 grind
theorem yV (n:Nat) (x:Rat):((n:Rat)+1)*P (n+1) x=x*P n x:=by
 have:=pos n;show ((n:Rat)+1)*(P n x*x/((n:Rat)+1))=x*P n x;grind
theorem cancel {k a b:Rat} (hk:0<k) (h:k*a=k*b):a=b:=by
 have h1:k*(a-b)=0:=by grind
 have h2:k≠0:=by grind
 grind
theorem binom (x y:Rat):∀n,P n (x+y)=sm (fun a=>P a x*P (n-a) y) (n+1)
 | 0=>by simp [sm,P];grind
 | n+1=>by
  have ih:=binom x y n;have hp:=pos n;have h1:((n:Rat)+1)*sm (fun a=>P a x*P (n+1-a) y) (n+1+1)=sm (fun a=>(a:Rat)*P a x*P (n+1-a) y) (n+1+1)+sm (fun a=>P a x*(((n+1-a:Nat):Rat)*P (n+1-a) y)) (n+1+1):=by
   rw [←EG,←ED];refine dX fun a ha=>?_;have:((n+1-a:Nat):Rat)=(n:Rat)+1-(a:Rat):=by
    have e:n+1-a+a=n+1:=by omega
    have:((n+1-a+a:Nat):Rat)=((n+1:Nat):Rat):=by rw [e]
    push_cast at this
    grind
   rw [this];grind
  have h2:sm (fun a=>(a:Rat)*P a x*P (n+1-a) y) (n+1+1)=x*sm (fun a=>P a x*P (n-a) y) (n+1):=by
   rw [aAG,←EG];have z:((0:Nat):Rat)=0:=rfl;have:sm (fun i=>((i+1:Nat):Rat)*P (i+1) x*P (n+1-(i+1)) y) (n+1)=sm (fun i=>x*(P i x*P (n-i) y)) (n+1):=dX fun i hi=>by
    have:=yV i x;have e:n+1-(i+1)=n-i:=by omega
    rw [e];push_cast
    grind
   rw [this,z];grind
  have h3:sm (fun a=>P a x*(((n+1-a:Nat):Rat)*P (n+1-a) y)) (n+1+1)=y*sm (fun a=>P a x*P (n-a) y) (n+1):=by
   rw [sm,←EG];have:sm (fun a=>P a x*(((n+1-a:Nat):Rat)*P (n+1-a) y)) (n+1)=sm (fun i=>y*(P i x*P (n-i) y)) (n+1):=dX fun i hi=>by
    have e:n+1-i=(n-i)+1:=by omega
    have:=yV (n-i) y;rw [e];push_cast
    grind
   rw [this];have z:((n+1-(n+1):Nat):Rat)=0:=by rw [Nat.sub_self];rfl
   rw [z];grind
  have h4:=yV n (x+y);rw [ih] at h4;refine cancel hp ?_;rw [h1,h2,h3,h4];generalize sm (fun a=>P a x*P (n-a) y) (n+1)=s;grind
theorem aM {a b A B:Rat} (h1:-A≤a) (h2:a≤A) (h3:-B≤b) (h4:b≤B):-(A*B)≤a*b∧a*b≤A*B:=by
 have q1:0≤(A-a)*(B+b):=aaZ (by grind) (by grind);have q2:0≤(A+a)*(B-b):=aaZ (by grind) (by grind);have q3:0≤(A-a)*(B-b):=aaZ (by grind) (by grind);have q4:0≤(A+a)*(B+b):=aaZ (by grind) (by grind);constructor<;>grind
theorem UT {x X:Rat} (h1:-X≤x) (h2:x≤X):∀n,-P n X≤P n x∧P n x≤P n X
 | 0=>by unfold P;grind
 | n+1=>by
  have ih:=UT h1 h2 n;have hp:=pos n;have hm:=aM ih.1 ih.2 h1 h2;have e1:=yV n x;have e2:=yV n X;have hq:0≤((n:Rat)+1)*(P (n+1) X-P (n+1) x):=by grind
  have hr:0≤((n:Rat)+1)*(P (n+1) X+P (n+1) x):=by grind
  have c:∀z:Rat,0≤((n:Rat)+1)*z→0≤z:=fun z hz=>by
   rcases (adJ:0≤z∨z≤0) with h | h
   ·exact h
   ·have:0≤((n:Rat)+1)*(-z):=aaZ (by grind) (by grind);have:((n:Rat)+1)*z=0:=by grind
    have:z=0:=cancel hp (by grind);grind
  have:=c _ hq;have:=c _ hr;grind
theorem JE {X:Rat} (h:0≤X) (n:Nat):0≤P n X:=by
 have:=UT (x:=X) (X:=X) (by grind) (by grind) n;grind
def sc (n:Nat):Rat:=if n%4=0 then 1 else if n%4=2 then -1 else 0
def ss (n:Nat):Rat:=if n%4=1 then 1 else if n%4=3 then -1 else 0
theorem signs (a b:Nat):sc (a+b)=sc a*sc b-ss a*ss b∧ss (a+b)=ss a*sc b+sc a*ss b:=by
 have h0:∀i j:Fin 4,(sc (i.val+j.val)=sc i.val*sc j.val-ss i.val*ss j.val∧ss (i.val+j.val)=ss i.val*sc j.val+sc i.val*ss j.val):=by decide+kernel
 have h:∀i j:Nat,i<4→j<4→(sc (i+j)=sc i*sc j-ss i*ss j∧ss (i+j)=ss i*sc j+sc i*ss j):=fun i j hi hj=>h0 ⟨i,hi⟩ ⟨j,hj⟩;have e:∀n:Nat,sc n=sc (n%4)∧ss n=ss (n%4):=fun n=>by unfold sc ss;simp
 have k:=h (a%4) (b%4) (by omega) (by omega);rw [(e (a+b)).1,(e (a+b)).2,(e a).1,(e a).2,(e b).1,(e b).2];have m:(a+b)%4=(a%4+b%4)%4:=by omega
 rw [m,←(e (a%4+b%4)).1,←(e (a%4+b%4)).2];exact k
theorem CE (n:Nat):(-1≤sc n∧sc n≤1)∧(-1≤ss n∧ss n≤1):=by
 unfold sc ss;repeat' split
 all_goals grind
def Cn (N:Nat) (x:Rat):Rat:=sm (fun k=>sc k*P k x) (N+1)
def Sn (N:Nat) (x:Rat):Rat:=sm (fun k=>ss k*P k x) (N+1)
def En (N:Nat) (x:Rat):Rat:=sm (fun k=>P k x) (N+1)
theorem prod (g:Nat→Rat) (N:Nat) (x y:Rat):sm (fun a=>sm (fun b=>g (a+b)*(P a x*P b y)) (N+1)) (N+1)=sm (fun n=>g n*P n (x+y)) (N+1)+sm (fun a=>sm (fun j=>g (N+1+j)*(P a x*P (N+1-a+j) y)) a) (N+1):=by
 rw [square (fun a b=>g (a+b)*(P a x*P b y)) N];congr 1
 ·refine dX fun n hn=>?_;rw [binom,←EG];refine dX fun a ha=>?_;have:a+(n-a)=n:=by omega
  rw [this]
 ·refine dX fun a ha=>dX fun j hj=>?_;have:a+(N+1-a+j)=N+1+j:=by omega
  rw [this]
theorem xU (f h:Nat→Rat) (m:Nat):∀n,sm f n*sm h m=sm (fun a=>sm (fun b=>f a*h b) m) n
 | 0=>by unfold sm;grind
 | n+1=>by
  rw [sm,sm,←xU f h m n,EG];grind
def rest (N:Nat) (X:Rat):Rat:=En N X*En N X-En N (X+X)
theorem rest_eq (N:Nat) (X:Rat):rest N X=sm (fun a=>sm (fun j=>P a X*P (N+1-a+j) X) a) (N+1):=by
 have h:=prod (fun _=>1) N X X;have e:sm (fun a=>sm (fun b=>(1:Rat)*(P a X*P b X)) (N+1)) (N+1)=En N X*En N X:=by
  unfold En;rw [xU];exact dX fun a _=>dX fun b _=>by grind
 have e2:sm (fun n=>(1:Rat)*P n (X+X)) (N+1)=En N (X+X):=dX fun n _=>by grind
 have e3:sm (fun a=>sm (fun j=>(1:Rat)*(P a X*P (N+1-a+j) X)) a) (N+1)=sm (fun a=>sm (fun j=>P a X*P (N+1-a+j) X) a) (N+1):=dX fun a _=>dX fun j _=>by grind
 rw [e,e2,e3] at h;unfold rest;grind
theorem aAK (g:Nat→Rat) (hg:∀n,-1≤g n∧g n≤1) (N:Nat) {x y X:Rat} (h1:-X≤x) (h2:x≤X) (h3:-X≤y) (h4:y≤X):
  -rest N X≤sm (fun a=>sm (fun j=>g (N+1+j)*(P a x*P (N+1-a+j) y)) a) (N+1)∧sm (fun a=>sm (fun j=>g (N+1+j)*(P a x*P (N+1-a+j) y)) a) (N+1)≤rest N X:=by
 rw [rest_eq];refine sm_abs fun a _=>sm_abs fun j _=>?_;have p:=UT h1 h2 a;have q:=UT h3 h4 (N+1-a+j);have m:=aM p.1 p.2 q.1 q.2;have s:=hg (N+1+j);have:=aM s.1 s.2 m.1 m.2;grind
theorem oZ (N:Nat) {x y X:Rat} (h1:-X≤x) (h2:x≤X) (h3:-X≤y) (h4:y≤X):
  (-rest N X≤Cn N x*Cn N y-Sn N x*Sn N y-Cn N (x+y)∧Cn N x*Cn N y-Sn N x*Sn N y-Cn N (x+y)≤rest N X)∧
  (-rest N X≤Sn N x*Cn N y+Cn N x*Sn N y-Sn N (x+y)∧Sn N x*Cn N y+Cn N x*Sn N y-Sn N (x+y)≤rest N X):=by
 have hc:=prod sc N x y;have hs:=prod ss N x y;have ec:sm (fun a=>sm (fun b=>sc (a+b)*(P a x*P b y)) (N+1)) (N+1)=Cn N x*Cn N y-Sn N x*Sn N y:=by
  unfold Cn Sn;rw [xU,xU,←sm_sub];refine dX fun a _=>?_;rw [←sm_sub];refine dX fun b _=>?_;rw [(signs a b).1];grind
 have es:sm (fun a=>sm (fun b=>ss (a+b)*(P a x*P b y)) (N+1)) (N+1)=Sn N x*Cn N y+Cn N x*Sn N y:=by
  unfold Cn Sn;rw [xU,xU,←ED];refine dX fun a _=>?_;rw [←ED];refine dX fun b _=>?_;rw [(signs a b).2];grind
 have tc:=aAK sc (fun n=>(CE n).1) N h1 h2 h3 h4;have ts:=aAK ss (fun n=>(CE n).2) N h1 h2 h3 h4;rw [ec] at hc;rw [es] at hs;have fc:sm (fun n=>sc n*P n (x+y)) (N+1)=Cn N (x+y):=rfl;have fs:sm (fun n=>ss n*P n (x+y)) (N+1)=Sn N (x+y):=rfl;rw [fc] at hc;rw [fs] at hs;constructor<;>constructor<;>grind
end TA
section
namespace TA
open SM
theorem sS_eq (x:Rat):x*(1-hR 1 (x*x) 10 0)=Sn 21 x:=by
 simp [hR,Sn,sm,ss,P];grind
theorem sC_eq (x:Rat):1-hR 0 (x*x) 10 0=Cn 20 x:=by
 simp [hR,Cn,sm,sc,P];grind
theorem tail_of (g:Nat→Rat) (hg:∀n,-1≤g n∧g n≤1) (m n:Nat) {x X:Rat} (h1:-X≤x) (h2:x≤X):
  -(En (m+n) X-En m X)≤sm (fun k=>g k*P k x) (m+n+1)-sm (fun k=>g k*P k x) (m+1)∧sm (fun k=>g k*P k x) (m+n+1)-sm (fun k=>g k*P k x) (m+1)≤En (m+n) X-En m X:=by
 have e:m+n+1=m+1+n:=by omega
 have s1:=CG (fun k=>g k*P k x) (m+1) n;have s2:=CG (fun k=>P k X) (m+1) n;have b:=sm_abs (f:=fun i=>g (m+1+i)*P (m+1+i) x) (g:=fun i=>P (m+1+i) X) (n:=n) (fun i _=>by
  have p:=UT h1 h2 (m+1+i);have:=aM (hg (m+1+i)).1 (hg (m+1+i)).2 p.1 p.2;grind)
 unfold En;rw [e,s1,s2];grind
theorem P_neg (x:Rat):∀n,P n (-x)=if n%2=0 then P n x else-P n x
 | 0=>by simp [P]
 | n+1=>by
  have ih:=P_neg x n;show P n (-x)*(-x)/((n:Rat)+1)=if (n+1)%2=0 then P n x*x/((n:Rat)+1) else -(P n x*x/((n:Rat)+1))
  rw [ih];by_cases h:n%2=0
  ·have:¬(n+1)%2=0:=by omega
   rw [if_pos h,if_neg this];grind
  ·have:(n+1)%2=0:=by omega
   rw [if_neg h,if_pos this];grind
theorem QX (N:Nat) (x:Rat):Cn N (-x)=Cn N x:=by
 refine dX fun k _=>?_;rw [P_neg];unfold sc;repeat' split
 all_goals first | grind | omega
theorem RB (N:Nat) (x:Rat):Sn N (-x)=-Sn N x:=by
 unfold Sn;rw [←sm_neg];refine dX fun k _=>?_;rw [P_neg];unfold ss;repeat' split
 all_goals first | grind | omega
theorem BX:rest 100 (32/5)≤1/2^150:=by decide+kernel
theorem tail_21:En 100 (4/5)-En 21 (4/5)≤1/2^70:=by decide+kernel
theorem tail_20:En 100 (4/5)-En 20 (4/5)≤1/2^70:=by decide+kernel
theorem at_turn:(-(1/2^90)≤Cn 100 (th*21600000)-1∧Cn 100 (th*21600000)-1≤1/2^90)∧(-(1/2^90)≤Sn 100 (th*21600000)∧Sn 100 (th*21600000)≤1/2^90):=by decide+kernel
theorem at_quarter:(-(1/2^90)≤Cn 100 (th*5400000)∧Cn 100 (th*5400000)≤1/2^90)∧(-(1/2^90)≤Sn 100 (th*5400000)-1∧Sn 100 (th*5400000)-1≤1/2^90):=by decide+kernel
theorem Cn_zero:Cn 100 0=1:=by decide+kernel
theorem TD {x:Rat} (h1:-(32/5)≤x) (h2:x≤32/5):(-2≤Cn 100 x∧Cn 100 x≤2)∧(-2≤Sn 100 x∧Sn 100 x≤2):=by
 have a:=(oZ 100 (x:=x) (y:=-x) (X:=32/5) h1 h2 (by grind) (by grind)).1;rw [QX,RB,show x+-x=0 by grind,Cn_zero] at a;have r:=BX;have s1:0≤Cn 100 x*Cn 100 x:=by have:=mul_self_nonneg' (Cn 100 x);exact this
 have s2:0≤Sn 100 x*Sn 100 x:=by have:=mul_self_nonneg' (Sn 100 x);exact this
 have k:∀z:Rat,z*z≤2→-2≤z∧z≤2:=fun z hz=>by
  constructor
  ·rcases (adJ:-2≤z∨z≤-2) with h | h
   ·exact h
   ·have:0≤(-2-z)*(-2-z):=mul_self_nonneg' _;have:0≤(-2-z)*(2-z):=aaZ (by grind) (by grind);grind
  ·rcases (adJ:z≤2∨2≤z) with h | h
   ·exact h
   ·have:0≤(z-2)*(z+2):=aaZ (by grind) (by grind);grind
 exact ⟨k _ (by grind),k _ (by grind)⟩
where
 mul_self_nonneg' (z:Rat):0≤z*z:=by
  rcases (adJ:0≤z∨z≤0) with h | h
  ·exact aaZ h h
  ·have:=aaZ (a:=-z) (b:=-z) (by grind) (by grind)
   grind
end TA
end
section
namespace TA
open SM
def rd (n:Int):Int:=(n+10800000)%21600000-10800000
def kG (n:Int):Rat:=Sn 100 (th*(rd n:Rat))
def lW (n:Int):Rat:=Cn 100 (th*(rd n:Rat))
def eta:Rat:=1/2^85
theorem th_bd:0≤th∧th*10800000≤16/5:=by decide+kernel
theorem rd_bd (n:Int):-(16/5)≤th*(rd n:Rat)∧th*(rd n:Rat)≤16/5:=by
 have h1:-10800000≤rd n∧rd n≤10800000:=by unfold rd;omega
 have h2:((-10800000:Int):Rat)≤(rd n:Rat):=acJ.2 h1.1;have h3:(rd n:Rat)≤((10800000:Int):Rat):=acJ.2 h1.2;have e2:((-10800000:Int):Rat)=-10800000:=rfl;have e3:((10800000:Int):Rat)=10800000:=rfl;rw [e2] at h2;rw [e3] at h3;have t:=th_bd;have m1:0≤th*(10800000-(rd n:Rat)):=aaZ t.1 (by grind);have m2:0≤th*((rd n:Rat)+10800000):=aaZ t.1 (by grind);constructor<;>grind
theorem bound2 (n:Int):(-2≤lW n∧lW n≤2)∧(-2≤kG n∧kG n≤2):=by
 have:=rd_bd n;exact TD (by grind) (by grind)
theorem gT {z c k:Rat} (hz:-2≤z∧z≤2) (hc:-k≤c∧c≤k):-(2*k)≤z*c∧z*c≤2*k:=aM hz.1 hz.2 hc.1 hc.2
theorem turned {x t:Rat} (ht:t=th*21600000∨t=-(th*21600000)) (h1:-(32/5)≤x) (h2:x≤32/5):
  (-(1/2^87)≤Cn 100 (x+t)-Cn 100 x∧Cn 100 (x+t)-Cn 100 x≤1/2^87)∧(-(1/2^87)≤Sn 100 (x+t)-Sn 100 x∧Sn 100 (x+t)-Sn 100 x≤1/2^87):=by
 have q:=th_bd;have hb:-(32/5)≤t∧t≤32/5:=by rcases ht with rfl | rfl<;>constructor<;>grind
 have a:=oZ 100 (x:=x) (y:=t) (X:=32/5) h1 h2 hb.1 hb.2;have r:=BX;have w:=at_turn;have hc:-(1/2^90)≤Cn 100 t-1∧Cn 100 t-1≤1/2^90:=by
  rcases ht with rfl | rfl
  ·exact w.1
  ·rw [QX];exact w.1
 have hs:-(1/2^90)≤Sn 100 t∧Sn 100 t≤1/2^90:=by
  rcases ht with rfl | rfl
  ·exact w.2
  ·rw [RB];grind
 have p:=TD h1 h2;have m1:=gT p.1 hc;have m2:=gT p.2 hs;have m3:=gT p.2 hc;have m4:=gT p.1 hs;refine ⟨⟨?_,?_⟩,?_,?_⟩<;>grind
theorem addQ (m n:Int):(-eta≤lW m*lW n-kG m*kG n-lW (m+n)∧lW m*lW n-kG m*kG n-lW (m+n)≤eta)∧
  (-eta≤kG m*lW n+lW m*kG n-kG (m+n)∧kG m*lW n+lW m*kG n-kG (m+n)≤eta):=by
 have hx:=rd_bd m;have hy:=rd_bd n;have a:=oZ 100 (x:=th*(rd m:Rat)) (y:=th*(rd n:Rat)) (X:=32/5) (by grind) (by grind) (by grind) (by grind);have r:=BX;have d:rd (m+n)=rd m+rd n∨rd (m+n)=rd m+rd n+21600000∨rd (m+n)=rd m+rd n-21600000:=by unfold rd;omega
 have s0:-(32/5)≤th*(rd m:Rat)+th*(rd n:Rat)∧th*(rd m:Rat)+th*(rd n:Rat)≤32/5:=by constructor<;>grind
 have z21:((21600000:Int):Rat)=21600000:=rfl;unfold lW kG eta;rcases d with e | e | e
 ·have e1:th*(rd (m+n):Rat)=th*(rd m:Rat)+th*(rd n:Rat):=by rw [e,adQ];grind
  rw [e1];grind
 ·have e1:th*(rd (m+n):Rat)=(th*(rd m:Rat)+th*(rd n:Rat))+th*21600000:=by rw [e,adQ,adQ,z21];grind
  have w:=turned (x:=th*(rd m:Rat)+th*(rd n:Rat)) (.inl rfl) s0.1 s0.2;rw [←e1] at w;grind
 ·have e1:th*(rd (m+n):Rat)=(th*(rd m:Rat)+th*(rd n:Rat))+-(th*21600000):=by rw [e,acZ,adQ,z21];grind
  have w:=turned (x:=th*(rd m:Rat)+th*(rd n:Rat)) (.inr rfl) s0.1 s0.2;rw [←e1] at w;grind
theorem ZU:(-(1/2^90)≤lW 5400000∧lW 5400000≤1/2^90)∧(-(1/2^90)≤kG 5400000-1∧kG 5400000-1≤1/2^90):=by
 have e:(rd 5400000:Rat)=5400000:=by decide+kernel
 unfold lW kG;rw [e];exact at_quarter
theorem halfQ:(-(1/2^83)≤lW 10800000+1∧lW 10800000+1≤1/2^83)∧(-(1/2^83)≤kG 10800000∧kG 10800000≤1/2^83):=by
 have a:=addQ 5400000 5400000;have q:=ZU;rw [show (5400000:Int)+5400000=10800000 by rfl] at a;unfold eta at a;have m1:=aM q.1.1 q.1.2 q.1.1 q.1.2;have m2:=aM q.2.1 q.2.2 q.2.1 q.2.2;have m3:=aM q.1.1 q.1.2 q.2.1 q.2.2;refine ⟨⟨?_,?_⟩,?_,?_⟩<;>grind
theorem negQ (n:Int):(-(1/2^82)≤lW (-n)-lW n∧lW (-n)-lW n≤1/2^82)∧(-(1/2^82)≤kG (-n)+kG n∧kG (-n)+kG n≤1/2^82):=by
 by_cases h:rd n=-10800000
 ·have h2:rd (-n)=-10800000:=by unfold rd at*;omega
  have h3:rd 10800000=-10800000:=by decide
  have q:=halfQ;unfold lW kG at*;rw [h,h2];rw [h3] at q;refine ⟨⟨?_,?_⟩,?_,?_⟩<;>grind
 ·have h2:rd (-n)=-rd n:=by unfold rd at*;omega
  unfold lW kG;rw [h2,afZ,show th*-(rd n:Rat)=-(th*(rd n:Rat)) by grind,QX,RB];refine ⟨⟨?_,?_⟩,?_,?_⟩<;>grind
theorem coQ (n:Int):(-(1/2^80)≤kG (5400000-n)-lW n∧kG (5400000-n)-lW n≤1/2^80)∧(-(1/2^80)≤lW (5400000-n)-kG n∧lW (5400000-n)-kG n≤1/2^80):=by
 have a:=addQ 5400000 (-n);have g:=negQ n;have q:=ZU;have b:=bound2 (-n);rw [show (5400000:Int)+-n=5400000-n by omega] at a;unfold eta at a;have m1:=gT b.1 q.1;have m2:=gT b.1 q.2;have m3:=gT b.2 q.1;have m4:=gT b.2 q.2;refine ⟨⟨?_,?_⟩,?_,?_⟩<;>grind
theorem QL (m n N:Nat) (hN:m+n=N) {x X:Rat} (h1:-X≤x) (h2:x≤X) {d:Rat} (hd:En N X-En m X≤d):-d≤Sn N x-Sn m x∧Sn N x-Sn m x≤d:=by
 subst hN;have t:=tail_of ss (fun n=>(CE n).2) m n h1 h2;unfold Sn;exact ⟨by grind,by grind⟩
theorem aAJ (m n N:Nat) (hN:m+n=N) {x X:Rat} (h1:-X≤x) (h2:x≤X) {d:Rat} (hd:En N X-En m X≤d):-d≤Cn N x-Cn m x∧Cn N x-Cn m x≤d:=by
 subst hN;have t:=tail_of sc (fun n=>(CE n).1) m n h1 h2;unfold Cn;exact ⟨by grind,by grind⟩
theorem near_T (n:Nat) (h:n≤5400000):-(1/2^65)≤kG (n:Int)-T n∧kG (n:Int)-T n≤1/2^65:=by
 have key:∀k:Nat,k≤2700000→(-(1/2^70)≤kG (k:Int)-tS k∧kG (k:Int)-tS k≤1/2^70)∧(-(1/2^70)≤lW (k:Int)-tC k∧lW (k:Int)-tC k≤1/2^70):=fun k hk=>by
  have e:rd (k:Int)=(k:Int):=by unfold rd;omega
  have ek:((k:Int):Rat)=(k:Rat):=rfl;have hx:xR k=th*(k:Rat):=rfl;have b0:(0:Rat)≤(k:Rat):=by exact_mod_cast adX k
  have b1:(k:Rat)≤((2700000:Nat):Rat):=by exact_mod_cast hk
  have z:((2700000:Nat):Rat)=2700000:=rfl;rw [z] at b1;have t:th*2700000≤4/5:=by decide+kernel
  have t0:=th_bd.1;have m0:0≤th*(k:Rat):=aaZ t0 b0;have m1:0≤th*(2700000-(k:Rat)):=aaZ t0 (by grind);have s:=QL 21 79 100 rfl (x:=th*(k:Rat)) (X:=4/5) (by grind) (by grind) tail_21;have c:=aAJ 20 80 100 rfl (x:=th*(k:Rat)) (X:=4/5) (by grind) (by grind) tail_20;have es:tS k=Sn 21 (th*(k:Rat)):=by unfold tS;rw [hx,sS_eq]
  have ec:tC k=Cn 20 (th*(k:Rat)):=by unfold tC;rw [hx,sC_eq]
  unfold kG lW;rw [e,ek,es,ec];exact ⟨s,c⟩
 have w0:∀{a b:Rat},(-(1/2^70)≤a-b∧a-b≤1/2^70)→-(1/2^65)≤a-b∧a-b≤1/2^65:=fun h=>⟨by grind,by grind⟩;have w1:∀{a b c:Rat},(-(1/2^70)≤a-b∧a-b≤1/2^70)→(-(1/2^80)≤c-a∧c-a≤1/2^80)→-(1/2^65)≤c-b∧c-b≤1/2^65:=fun h g=>⟨by grind,by grind⟩;by_cases hk:n≤2700000
 ·have e:T n=tS n:=by unfold T;rw [if_pos hk]
  rw [e];exact w0 (key n hk).1
 ·have e:T n=tC (5400000-n):=by unfold T;rw [if_neg hk]
  have k:=(key (5400000-n) (by omega)).2;have c:=(coQ ((5400000-n:Nat):Int)).1;have e2:(5400000:Int)-((5400000-n:Nat):Int)=(n:Int):=by omega
  rw [e2] at c;rw [e];exact w1 k c
end TA
end
section
namespace TB
open SM TA
def pw (n:Nat):Rat:=1/((2^n:Nat):Rat)
def piN:Nat:=1361252757398622614210308031816944563295789684324126529685410669750463032901918149778521655839743605959674928731089823146989365642170368889113133881887576594843707879128282940504223844271883137412851325937349614932712174980589351087954220001438807934692205467635764783614178486695651005420606763724274834328528948581018923114502452792556190226489351253372057085896525025124384269588334446152912592611219108414341446061058571548015383485157918025243662716944804850517630198168356061990570741769777839903697453293271042854722388163096590410892661043239943502317395869422906788611909947251132614021423401616192386183657163344982368202759587978585651728916046104554464074683541188811774354136770053165430412068306334717002271937927145831956506959951963934297900526159389632913
def tb:Rat:=(piN:Rat)*pw 2560/10800000
def u0:Rat:=pw 2500
def e0:Rat:=1048576*u0
def cn (x:Rat):Rat:=Cn 652 x
def sn (x:Rat):Rat:=Sn 652 x
theorem rest_B:rest 652 (32/5)≤u0:=by decide+kernel
theorem quart_B:(-u0≤Cn 652 (tb*5400000)∧Cn 652 (tb*5400000)≤u0)∧-u0≤Sn 652 (tb*5400000)-1∧Sn 652 (tb*5400000)-1≤u0:=by decide+kernel
theorem third_B:-u0≤Sn 652 (tb*1800000)-1/2∧Sn 652 (tb*1800000)-1/2≤u0:=by decide+kernel
theorem zero_B:Cn 652 0=1∧Sn 652 0=0:=by decide+kernel
theorem uH:1/3437750≤tb∧tb≤1/3437740:=by decide+kernel
theorem cT:0<u0∧u0≤1/2^200:=by decide+kernel
theorem eR:0<e0∧e0≤1/2^200:=by decide+kernel
end TB
end
section
namespace TB
open SM TA
def Cl (e a b:Rat):Prop:=-e≤a-b∧a-b≤e
theorem Cl.symm {e a b:Rat} (h:Cl e a b):Cl e b a:=by unfold Cl at*;constructor<;>grind
theorem Cl.trans {e f a b c:Rat} (h:Cl e a b) (k:Cl f b c):Cl (e+f) a c:=by unfold Cl at*;constructor<;>grind
theorem Cl.wide {e f a b:Rat} (h:Cl e a b) (k:e≤f):Cl f a b:=by unfold Cl at*;constructor<;>grind
theorem Cl.refl {e:Rat} (a:Rat) (h:0≤e):Cl e a a:=by unfold Cl;constructor<;>grind
theorem Cl.add {e f a b c d:Rat} (h:Cl e a b) (k:Cl f c d):Cl (e+f) (a+c) (b+d):=by unfold Cl at*;constructor<;>grind
theorem Cl.sub {e f a b c d:Rat} (h:Cl e a b) (k:Cl f c d):Cl (e+f) (a-c) (b-d):=by unfold Cl at*;constructor<;>grind
theorem Cl.neg {e a b:Rat} (h:Cl e a b):Cl e (-a) (-b):=by unfold Cl at*;constructor<;>grind
theorem Cl.mul {e f a b c d:Rat} (A B:Rat) (h:Cl e a b) (k:Cl f c d) (hc:-A≤c∧c≤A) (hb:-B≤b∧b≤B):Cl (A*e+B*f) (a*c) (b*d):=by
 unfold Cl at*;have m:=aM h.1 h.2 hc.1 hc.2;have n:=aM hb.1 hb.2 k.1 k.2;have x:a*c-b*d=(a-b)*c+b*(c-d):=by grind
 rw [x];generalize (a-b)*c=p at*;generalize b*(c-d)=q at*;constructor<;>grind
theorem lK (z:Rat):0≤z*z:=by
 rcases (adJ:0≤z∨z≤0) with h | h
 ·exact aaZ h h
 ·have:=aaZ (a:=-z) (b:=-z) (by grind) (by grind);grind
theorem RQ (x:Rat):cn (-x)=cn x:=QX 652 x
theorem UE (x:Rat):sn (-x)=-sn x:=RB 652 x
theorem cn_0:cn 0=1:=zero_B.1
theorem sn_0:sn 0=0:=zero_B.2
theorem add {x y:Rat} (hx:-(32/5)≤x∧x≤32/5) (hy:-(32/5)≤y∧y≤32/5):Cl u0 (cn x*cn y-sn x*sn y) (cn (x+y))∧Cl u0 (sn x*cn y+cn x*sn y) (sn (x+y)):=by
 have a:=oZ 652 (X:=32/5) hx.1 hx.2 hy.1 hy.2;have r:=rest_B;unfold Cl cn sn;generalize rest 652 (32/5)=R at*;generalize Cn 652 x*Cn 652 y-Sn 652 x*Sn 652 y=A at*;generalize Sn 652 x*Cn 652 y+Cn 652 x*Sn 652 y=B at*;generalize Cn 652 (x+y)=A' at*;generalize Sn 652 (x+y)=B' at*;refine ⟨⟨?_,?_⟩,?_,?_⟩<;>grind
theorem UN {z:Rat} (hz:z*z≤2):-2≤z∧z≤2:=by
 constructor
 ·rcases (adJ:-2≤z∨z≤-2) with h | h
  ·exact h
  ·have:=lK (-2-z);have:0≤(-2-z)*(2-z):=aaZ (by grind) (by grind);grind
 ·rcases (adJ:z≤2∨2≤z) with h | h
  ·exact h
  ·have:=lK (z-2);have:0≤(z-2)*(z+2):=aaZ (by grind) (by grind);grind
theorem bd {x:Rat} (h:-(32/5)≤x∧x≤32/5):(-2≤cn x∧cn x≤2)∧(-2≤sn x∧sn x≤2):=by
 have a:=(add h (y:=-x) (by grind)).1;rw [RQ,UE,show x+-x=0 by grind,cn_0] at a;have s1:=lK (cn x);have s2:=lK (sn x);have u:=cT;unfold Cl at a;generalize cn x=c at*;generalize sn x=s at*;exact ⟨UN (by grind),UN (by grind)⟩
theorem II {z e:Rat} (he:0≤e) (hz:z*z≤1+e):-(1+e)≤z∧z≤1+e:=by
 constructor
 ·rcases (adJ:-(1+e)≤z∨z≤-(1+e)) with h | h
  ·exact h
  ·have:=aaZ (show 0≤-(1+e)-z by grind) (show 0≤-1-z by grind);have:=aaZ he (show 0≤-1-z by grind);grind
 ·rcases (adJ:z≤1+e∨1+e≤z) with h | h
  ·exact h
  ·have:=aaZ (show 0≤z-(1+e) by grind) (show 0≤z-1 by grind);have:=aaZ he (show 0≤z-1 by grind);grind
theorem quart:Cl u0 (cn (tb*5400000)) 0∧Cl u0 (sn (tb*5400000)) 1:=by
 have q:=quart_B;unfold Cl cn sn;generalize Cn 652 (tb*5400000)=c at*;generalize Sn 652 (tb*5400000)=s at*;refine ⟨⟨?_,?_⟩,?_,?_⟩<;>grind
theorem half:Cl (16*u0) (cn (tb*10800000)) (-1)∧Cl (16*u0) (sn (tb*10800000)) 0:=by
 have q:=quart;have t:=uH;have a:=add (x:=tb*5400000) (y:=tb*5400000) (by grind) (by grind);rw [show tb*5400000+tb*5400000=tb*10800000 by grind] at a;have m1:=Cl.mul 2 2 q.1 q.1 (by unfold Cl at q;have:=cT;grind) (by grind);have m2:=Cl.mul 2 2 q.2 q.2 (by unfold Cl at q;have:=cT;grind) (by grind);have m3:=Cl.mul 2 2 q.2 q.1 (by unfold Cl at q;have:=cT;grind) (by grind);have m4:=Cl.mul 2 2 q.1 q.2 (by unfold Cl at q;have:=cT;grind) (by grind);unfold Cl at*;generalize cn (tb*5400000)*cn (tb*5400000)=p1 at*;generalize sn (tb*5400000)*sn (tb*5400000)=p2 at*;generalize sn (tb*5400000)*cn (tb*5400000)=p3 at*;generalize cn (tb*5400000)*sn (tb*5400000)=p4 at*;generalize cn (tb*10800000)=c at*;generalize sn (tb*10800000)=s at*;refine ⟨⟨?_,?_⟩,?_,?_⟩<;>grind
theorem whole:Cl (256*u0) (cn (tb*21600000)) 1∧Cl (256*u0) (sn (tb*21600000)) 0:=by
 have q:=half;have t:=uH;have u:=cT;have a:=add (x:=tb*10800000) (y:=tb*10800000) (by grind) (by grind);rw [show tb*10800000+tb*10800000=tb*21600000 by grind] at a;have m1:=Cl.mul 2 2 q.1 q.1 (by unfold Cl at q;grind) (by grind);have m2:=Cl.mul 2 2 q.2 q.2 (by unfold Cl at q;grind) (by grind);have m3:=Cl.mul 2 2 q.2 q.1 (by unfold Cl at q;grind) (by grind);have m4:=Cl.mul 2 2 q.1 q.2 (by unfold Cl at q;grind) (by grind);unfold Cl at*;generalize cn (tb*10800000)*cn (tb*10800000)=p1 at*;generalize sn (tb*10800000)*sn (tb*10800000)=p2 at*;generalize sn (tb*10800000)*cn (tb*10800000)=p3 at*;generalize cn (tb*10800000)*sn (tb*10800000)=p4 at*;generalize cn (tb*21600000)=c at*;generalize sn (tb*21600000)=s at*;refine ⟨⟨?_,?_⟩,?_,?_⟩<;>grind
theorem shift {x t:Rat} (ht:t=tb*21600000∨t=-(tb*21600000)) (hx:-(32/5)≤x∧x≤32/5):Cl (1200*u0) (cn (x+t)) (cn x)∧Cl (1200*u0) (sn (x+t)) (sn x):=by
 have w:=whole;have q:=uH;have u:=cT;have c1:Cl (256*u0) (cn t) 1:=by
  rcases ht with rfl | rfl
  ·exact w.1
  ·rw [RQ];exact w.1
 have s1:Cl (256*u0) (sn t) 0:=by
  rcases ht with rfl | rfl
  ·exact w.2
  ·rw [UE];have:=w.2.neg;rwa [show -(0:Rat)=0 by grind] at this
 have a:=add hx (y:=t) (by rcases ht with rfl | rfl<;>constructor<;>grind);have b:=bd hx;have m1:=aM b.1.1 b.1.2 c1.1 c1.2;have m2:=aM b.2.1 b.2.2 s1.1 s1.2;have m3:=aM b.2.1 b.2.2 c1.1 c1.2;have m4:=aM b.1.1 b.1.2 s1.1 s1.2;unfold Cl at a ⊢;generalize cn (x+t)=X at*;generalize sn (x+t)=Y at*;generalize cn x=c at*;generalize sn x=s at*;generalize cn t=c' at*;generalize sn t=s' at*;clear b c1 s1 w;refine ⟨⟨?_,?_⟩,?_,?_⟩<;>grind
def tm (q:Rat):Int:=((q+10800000)/21600000).floor
def uU (q:Rat):Rat:=q-21600000*(tm q:Rat)
theorem AC (q:Rat):-10800000≤uU q∧uU q<10800000:=by
 have a:=Rat.floor_le ((q+10800000)/21600000);have b:=Rat.lt_floor_add_one ((q+10800000)/21600000);rw [adQ] at b;have z:((1:Int):Rat)=1:=rfl;rw [z] at b;unfold uU tm;generalize (((q+10800000)/21600000).floor:Rat)=f at*;constructor<;>grind
theorem rdq_turn (q:Rat) (m:Int):uU (q+21600000*(m:Rat))=uU q:=by
 unfold uU tm;have:(q+21600000*(m:Rat)+10800000)/21600000=(q+10800000)/21600000+(m:Rat):=by grind
 rw [this,Rat.floor_add_intCast,adQ];grind
theorem tK {q:Rat} (h0:-10800000≤q) (h1:q<10800000):uU q=q:=by
 have f:tm q=0:=by
  unfold tm;have a:0≤((q+10800000)/21600000).floor:=Rat.le_floor_iff.2 (by rw [show ((0:Int):Rat)=0 by rfl];grind);have b:((q+10800000)/21600000).floor<1:=Rat.floor_lt_iff.2 (by rw [show ((1:Int):Rat)=1 by rfl];grind);omega
 unfold uU;rw [f];have z:((0:Int):Rat)=0:=rfl;rw [z];grind
def co (q:Rat):Rat:=cn (tb*uU q)
def si (q:Rat):Rat:=sn (tb*uU q)
theorem iF (q:Rat) (m:Int):co (q+21600000*(m:Rat))=co q∧si (q+21600000*(m:Rat))=si q:=by
 unfold co si;rw [rdq_turn];exact ⟨rfl,rfl⟩
theorem EI {p:Rat} {c d:Rat} (h0:-c≤p) (h1:p≤c) (hd:c/3437740≤d):-d≤tb*p∧tb*p≤d:=by
 have t:=uH;have hc:0≤c:=by grind
 have m1:=aaZ (show 0≤tb by grind) (show 0≤c-p by grind);have m2:=aaZ (show 0≤tb by grind) (show 0≤c+p by grind);have m3:=aaZ (show 0≤1/3437740-tb by grind) hc;generalize tb=t at*;constructor<;>grind
theorem rep {p:Rat} (h0:-21600000≤p) (h1:p≤21600000):Cl (1200*u0) (cn (tb*p)) (co p)∧Cl (1200*u0) (sn (tb*p)) (si p):=by
 have b:=AC p;have u:=cT;have x:=EI (d:=32/5) h0 h1 (by grind);have e:uU p=p-21600000*(tm p:Rat):=rfl;have lo:(-1:Int)≤tm p:=by
  rcases akZ (tm p) (-1) with h | h
  ·have:(tm p:Rat)≤((-2:Int):Rat):=acJ.2 (by omega);rw [show ((-2:Int):Rat)=-2 by rfl] at this;grind
  ·exact h
 have hi:tm p≤1:=by
  rcases akZ 1 (tm p) with h | h
  ·have:((2:Int):Rat)≤(tm p:Rat):=acJ.2 (by omega);rw [show ((2:Int):Rat)=2 by rfl] at this;grind
  ·exact h
 unfold co si;rcases (show tm p=0∨tm p=1∨tm p=-1 by omega) with h | h | h
 ·rw [e,h,show ((0:Int):Rat)=0 by rfl,show p-21600000*0=p by grind];exact ⟨Cl.refl _ (by grind),Cl.refl _ (by grind)⟩
 ·rw [e,h,show ((1:Int):Rat)=1 by rfl,show tb*(p-21600000*1)=tb*p+-(tb*21600000) by grind];have s:=shift (x:=tb*p) (.inr rfl) x;exact ⟨s.1.symm,s.2.symm⟩
 ·rw [e,h,show ((-1:Int):Rat)=-1 by rfl,show tb*(p-21600000*-1)=tb*p+tb*21600000 by grind];have s:=shift (x:=tb*p) (.inl rfl) x;exact ⟨s.1.symm,s.2.symm⟩
theorem addq (p q:Rat):Cl (1300*u0) (co (p+q)) (co p*co q-si p*si q)∧Cl (1300*u0) (si (p+q)) (si p*co q+co p*si q):=by
 have a:=AC p;have b:=AC q;have u:=cT;have x:=EI (p:=uU p) (c:=10800000) (d:=32/5) (by grind) (by grind) (by grind);have y:=EI (p:=uU q) (c:=10800000) (d:=32/5) (by grind) (by grind) (by grind);have s:=add x y;have r:=rep (p:=uU p+uU q) (by grind) (by grind);rw [show tb*(uU p+uU q)=tb*uU p+tb*uU q by grind] at r;have e:uU p+uU q=(p+q)+21600000*((-tm p-tm q:Int):Rat):=by
  unfold uU;rw [acZ,afZ];grind
 have t:=iF (p+q) (-tm p-tm q);rw [←e] at t;rw [t.1,t.2] at r;refine ⟨?_,?_⟩
 ·exact (r.1.symm.trans s.1.symm).wide (by grind)
 ·exact (r.2.symm.trans s.2.symm).wide (by grind)
theorem BU (q:Rat):Cl (1200*u0) (co (-q)) (co q)∧Cl (1200*u0) (si (-q)) (-si q):=by
 have b:=AC q;have r:=rep (p:=-uU q) (by grind) (by grind);rw [show tb*-uU q=-(tb*uU q) by grind,RQ,UE] at r;have e:-uU q=-q+21600000*(tm q:Rat):=by unfold uU;grind
 have t:=iF (-q) (tm q);rw [←e] at t;rw [t.1,t.2] at r;exact ⟨r.1.symm,r.2.symm⟩
theorem iN (q:Rat):(-2≤co q∧co q≤2)∧(-2≤si q∧si q≤2):=by
 have b:=AC q;exact bd (EI (c:=10800000) (by grind) (by grind) (by grind))
theorem co_0:co 0=1:=by
 unfold co;rw [tK (by grind) (by grind),show tb*0=0 by grind,cn_0]
theorem si_0:si 0=0:=by
 unfold si;rw [tK (by grind) (by grind),show tb*0=0 by grind,sn_0]
theorem EM (q:Rat):Cl (8192*u0) (co q*co q+si q*si q) 1:=by
 have a:=(addq q (-q)).1;have n:=BU q;have b:=iN q;have m1:=Cl.mul 2 2 (Cl.refl (co q) (e:=0) (by grind)) n.1 (by have:=(iN (-q)).1;exact this) b.1;have m2:=Cl.mul 2 2 (Cl.refl (si q) (e:=0) (by grind)) n.2 (by have:=(iN (-q)).2;exact this) b.2;rw [show q+-q=0 by grind,co_0] at a;have u:=cT;unfold Cl at*;generalize co q*co (-q)=p1 at*;generalize si q*si (-q)=p2 at*;rw [show si q*-si q=-(si q*si q) by grind] at m2;generalize co q*co q=p3 at*;generalize si q*si q=p4 at*;constructor<;>grind
theorem bdq (q:Rat):(-(1+8192*u0)≤co q∧co q≤1+8192*u0)∧(-(1+8192*u0)≤si q∧si q≤1+8192*u0):=by
 have n:=EM q;have s1:=lK (co q);have s2:=lK (si q);have u:=cT;unfold Cl at n;exact ⟨II (by grind) (by grind),II (by grind) (by grind)⟩
theorem UI (p q:Rat):Cl (8000*u0) (co (p-q)) (co p*co q+si p*si q)∧Cl (8000*u0) (si (p-q)) (si p*co q-co p*si q):=by
 have a:=addq p (-q);have n:=BU q;have b:=iN p;have b':=iN (-q);have u:=cT;have m1:=Cl.mul 2 2 (Cl.refl (co p) (e:=0) (by grind)) n.1 b'.1 b.1;have m2:=Cl.mul 2 2 (Cl.refl (si p) (e:=0) (by grind)) n.2 b'.2 b.2;have m3:=Cl.mul 2 2 (Cl.refl (si p) (e:=0) (by grind)) n.1 b'.1 b.2;have m4:=Cl.mul 2 2 (Cl.refl (co p) (e:=0) (by grind)) n.2 b'.2 b.1;rw [show p+-q=p-q by grind] at a;constructor
 ·have:=a.1.trans (m1.sub m2);rw [show co p*co q-si p*-si q=co p*co q+si p*si q by grind] at this;exact this.wide (by grind)
 ·have:=a.2.trans (m3.add m4);rw [show si p*co q+co p*-si q=si p*co q-co p*si q by grind] at this;exact this.wide (by grind)
theorem LU:Cl u0 (co 5400000) 0∧Cl u0 (si 5400000) 1:=by
 unfold co si;rw [tK (by grind) (by grind)];exact quart
theorem WJ (q:Rat):Cl (8192*u0) (si (5400000-q)) (co q)∧Cl (8192*u0) (co (5400000-q)) (si q):=by
 have a:=UI 5400000 q;have k:=LU;have b:=iN q;have u:=cT;have m1:=Cl.mul 2 1 k.2 (Cl.refl (co q) (e:=0) (by grind)) b.1 (by grind);have m2:=Cl.mul 2 1 k.1 (Cl.refl (si q) (e:=0) (by grind)) b.2 (by grind);have m3:=Cl.mul 2 1 k.1 (Cl.refl (co q) (e:=0) (by grind)) b.1 (by grind);have m4:=Cl.mul 2 1 k.2 (Cl.refl (si q) (e:=0) (by grind)) b.2 (by grind);constructor
 ·have:=a.2.trans (m1.sub m2);rw [show 1*co q-0*si q=co q by grind] at this;exact this.wide (by grind)
 ·have:=a.1.trans (m3.add m4);rw [show 0*co q+1*si q=si q by grind] at this;exact this.wide (by grind)
theorem oppq (q:Rat):Cl (20000*u0) (co (q+10800000)) (-co q)∧Cl (20000*u0) (si (q+10800000)) (-si q):=by
 have a:=WJ (-(q+5400000));have b:=WJ (-q);have n:=BU q;have n2:=BU (q+5400000);have c:=WJ (-(q+5400000));have u:=cT;have e1:(5400000:Rat)- -(q+5400000)=q+10800000:=by grind
 have e2:(5400000:Rat)- -q=q+5400000:=by grind
 rw [e1] at a;rw [e2] at b;constructor
 ·have:=((a.2.trans n2.2).trans (b.1.neg)).trans n.1.neg;exact this.wide (by grind)
 ·have:=((a.1.trans n2.1).trans b.2).trans n.2;exact this.wide (by grind)
theorem P_two {x:Rat} (h0:0≤x) (h1:x≤8/5) (n:Nat):0≤P (n+3) x∧P (n+3) x≤P (n+1) x:=by
 have p1:=JE h0 (n+1);have p3:=JE h0 (n+3);have e2:=yV (n+1) x;have e3:=yV (n+2) x;refine ⟨p3,?_⟩;have hn:(0:Rat)≤(n:Rat):=by exact_mod_cast adX n
 have c1:((n+1:Nat):Rat)=(n:Rat)+1:=by push_cast;rfl
 have c2:((n+2:Nat):Rat)=(n:Rat)+2:=by push_cast;rfl
 rw [c1] at e2;rw [c2] at e3;rw [show n+1+1=n+2 by rfl] at e2;rw [show n+2+1=n+3 by rfl] at e3;have q:((n:Rat)+1+1)*((n:Rat)+2+1)*P (n+3) x=x*x*P (n+1) x:=by grind
 have x2:x*x≤64/25:=by
  have:=aaZ h0 (show 0≤8/5-x by grind);grind
 have g1:=aaZ (show 0≤64/25-x*x by grind) p1;have g2:=aaZ (aaZ hn (show 0≤(n:Rat)+5 by grind)) p3;generalize P (n+3) x=a at*;generalize P (n+1) x=b at*;have:6*a≤3*b:=by grind
 grind
theorem sn_le4 {x:Rat} (h0:0≤x) (h1:x≤8/5):∀m:Nat,sm (fun k=>ss k*P k x) (4*m+1)≤x-P (4*m+1) x
 | 0=>by
  have:P 1 x=x:=by simp [P];grind
  simp only [Nat.mul_zero,Nat.zero_add,this,sm];have:ss 0=0:=by decide+kernel
  rw [this];grind
 | m+1=>by
  have ih:=sn_le4 h0 h1 m;rw [show 4*(m+1)+1=4*m+1+1+1+1+1 by omega,sm,sm,sm,sm];have s1:ss (4*m+1)=1:=by unfold ss;rw [if_pos (by omega)]
  have s2:ss (4*m+1+1)=0:=by unfold ss;rw [if_neg (by omega),if_neg (by omega)]
  have s3:ss (4*m+1+1+1)=-1:=by unfold ss;rw [if_neg (by omega),if_pos (by omega)]
  have s4:ss (4*m+1+1+1+1)=0:=by unfold ss;rw [if_neg (by omega),if_neg (by omega)]
  rw [s1,s2,s3,s4];have a:=P_two h0 h1 (4*m);have b:=P_two h0 h1 (4*m+2);rw [show 4*m+2+3=4*m+1+1+1+1+1 by omega,show 4*m+2+1=4*m+1+1+1 by omega] at b;rw [show 4*m+3=4*m+1+1+1 by omega] at a;generalize sm (fun k=>ss k*P k x) (4*m+1)=S0 at*;generalize P (4*m+1) x=p1 at*;generalize P (4*m+1+1) x=p2 at*;generalize P (4*m+1+1+1) x=p3 at*;generalize P (4*m+1+1+1+1) x=p4 at*;generalize P (4*m+1+1+1+1+1) x=p5 at*;grind
theorem sn_ge4 {x:Rat} (h0:0≤x) (h1:x≤8/5):∀m:Nat,x/2≤sm (fun k=>ss k*P k x) (4*(m+1)+1)
 | 0=>by
  have s0:ss 0=0:=by decide+kernel
  have s1:ss 1=1:=by decide+kernel
  have s2:ss 2=0:=by decide+kernel
  have s3:ss 3=-1:=by decide+kernel
  have s4:ss 4=0:=by decide+kernel
  simp only [sm];rw [s0,s1,s2,s3,s4];have e1:P 1 x=x:=by simp [P];grind
  have e3:P 3 x=x*x*x/6:=by simp [P];grind
  rw [e1,e3];have a:=aaZ h0 (show 0≤8/5-x by grind);have b:=aaZ h0 (show 0≤64/25-x*x by grind);generalize P 0 x=p0 at*;generalize P 2 x=p2 at*;generalize P 4 x=p4 at*;grind
 | m+1=>by
  have ih:=sn_ge4 h0 h1 m;rw [show 4*(m+1+1)+1=4*(m+1)+1+1+1+1+1 by omega,sm,sm,sm,sm];have s1:ss (4*(m+1)+1)=1:=by unfold ss;rw [if_pos (by omega)]
  have s2:ss (4*(m+1)+1+1)=0:=by unfold ss;rw [if_neg (by omega),if_neg (by omega)]
  have s3:ss (4*(m+1)+1+1+1)=-1:=by unfold ss;rw [if_neg (by omega),if_pos (by omega)]
  have s4:ss (4*(m+1)+1+1+1+1)=0:=by unfold ss;rw [if_neg (by omega),if_neg (by omega)]
  rw [s1,s2,s3,s4];have a:=P_two h0 h1 (4*(m+1));rw [show 4*(m+1)+3=4*(m+1)+1+1+1 by omega] at a;generalize sm (fun k=>ss k*P k x) (4*(m+1)+1)=S0 at*;generalize P (4*(m+1)+1) x=p1 at*;generalize P (4*(m+1)+1+1) x=p2 at*;generalize P (4*(m+1)+1+1+1) x=p3 at*;generalize P (4*(m+1)+1+1+1+1) x=p4 at*;grind
theorem sn_pos {x:Rat} (h0:0≤x) (h1:x≤8/5):x/2≤sn x∧sn x≤x:=by
 have a:=sn_ge4 h0 h1 162;have b:=sn_le4 h0 h1 163;have c:=JE h0 (4*163+1);unfold sn Sn;exact ⟨a,by grind⟩
theorem tb_q {q:Rat} (h0:0≤q) (h1:q≤5400000):0≤tb*q∧tb*q≤8/5:=by
 have t:=uH;have:=EI (p:=q) (c:=5400000) (d:=8/5) (by grind) h1 (by grind);exact ⟨aaZ (by grind) h0,this.2⟩
theorem tQ {q:Rat} (h0:0≤q) (h1:q≤5400000):tb*q/2≤si q∧si q≤tb*q:=by
 unfold si;rw [tK (by grind) (by grind)];have:=tb_q h0 h1;exact sn_pos this.1 this.2
theorem AJ {q:Rat} (h0:-10800000<q) (h1:q<10800000):si (-q)=-si q∧co (-q)=co q:=by
 unfold si co;rw [tK (by grind) (by grind),tK (by grind) (by grind),show tb*-q=-(tb*q) by grind,UE,RQ];exact ⟨rfl,rfl⟩
theorem tP {q:Rat} (h0:0≤q) (h1:q≤5400000):0≤si q:=by
 have a:=(tQ h0 h1).1;have b:=(tb_q h0 h1).1;generalize tb*q=x at*;generalize si q=y at*;grind
theorem WH {q d:Rat} (h0:-5400000≤q) (_h1:q≤5400000) (g0:0≤d) (g1:d≤5400000-q) (g2:d≤5400000+q):tb*d/2-e0≤co q:=by
 have e:e0=1048576*u0:=rfl;have u:=cT;have t:=uH;have key:∀z:Rat,0≤z→d≤5400000-z→tb*d/2-e0≤co z:=fun z k0 k1=>by
  have s:=(tQ (q:=5400000-z) (by grind) (by grind)).1;have c:=(WJ z).1;have m:=aaZ (show 0≤tb by grind) (show 0≤5400000-z-d by grind);unfold Cl at c;generalize si (5400000-z)=a at*;generalize co z=b at*;generalize tb=t at*;grind
 rcases (adJ:0≤q∨q≤0) with h | h
 ·exact key q h g1
 ·have k:=key (-q) (by grind) (by grind);rwa [(AJ (q:=q) (by grind) (by grind)).2] at k
theorem diff (m d:Rat):Cl (10000*u0) (si (m+d)-si (m-d)) (2*(co m*si d))∧Cl (10000*u0) (co (m+d)-co (m-d)) (-(2*(si m*si d))):=by
 have a:=addq m d;have b:=UI m d;have u:=cT;constructor
 ·have:=a.2.sub b.2;rw [show si m*co d+co m*si d-(si m*co d-co m*si d)=2*(co m*si d) by grind] at this;exact this.wide (by grind)
 ·have:=a.1.sub b.1;rw [show co m*co d-si m*si d-(co m*co d+si m*si d)=-(2*(si m*si d)) by grind] at this;exact this.wide (by grind)
theorem grow {p q:Rat} (h0:-5400000≤p) (h:p≤q) (h1:q≤5400000):(q-p)*(q-p)/100000000000000-8*e0≤si q-si p:=by
 have e:e0=1048576*u0:=rfl;have u:=cT;have t:=uH;have hd:0≤(q-p)/2∧(q-p)/2≤5400000:=by constructor<;>grind
 have f:=(diff ((p+q)/2) ((q-p)/2)).1;rw [show (p+q)/2+(q-p)/2=q by grind,show (p+q)/2-(q-p)/2=p by grind] at f;have s:=(tQ hd.1 hd.2).1;have s2:=(iN ((q-p)/2)).2.2;have c:=WH (q:=(p+q)/2) (d:=(q-p)/2) (by grind) (by grind) hd.1 (by grind) (by grind);have sq1:=lK ((q-p)/2);generalize si ((q-p)/2)=S at*;generalize co ((p+q)/2)=C at*;have hd0:=hd.1;have ed:(q-p)*(q-p)=4*((q-p)/2*((q-p)/2)):=by grind
 rw [ed];generalize (q-p)/2=d at*;have x0:0≤tb*d:=aaZ (by grind) hd0;have g1:d/3437750≤tb*d:=by
  have:=aaZ (show 0≤tb-1/3437750 by grind) hd0;grind
 have m1:=aaZ (show 0≤C-(tb*d/2-e0) by grind) (show 0≤S by grind);have m2:=aaZ (show 0≤S-tb*d/2 by grind) (show 0≤tb*d/2 by grind);have m3:=aaZ (show 0≤tb*d-d/3437750 by grind) (show 0≤tb*d+d/3437750 by grind);have m4:=aaZ (show 0≤e0 by grind) (show 0≤2-S by grind);unfold Cl at f;generalize tb*d=x at*;generalize e0=w at*;generalize si q=y1 at*;generalize si p=y2 at*;grind
theorem lip {p q:Rat} (h:p≤q) (h1:q≤p+5400000):Cl ((q-p)/1000000+e0) (si q) (si p)∧Cl ((q-p)/1000000+e0) (co q) (co p):=by
 have e:e0=1048576*u0:=rfl;have u:=cT;have t:=uH;have hd:0≤(q-p)/2∧(q-p)/2≤5400000:=by constructor<;>grind
 have f:=diff ((p+q)/2) ((q-p)/2);rw [show (p+q)/2+(q-p)/2=q by grind,show (p+q)/2-(q-p)/2=p by grind] at f;have s:=(tQ hd.1 hd.2).2;have s0:=tP hd.1 hd.2;have b:=iN ((p+q)/2);have m1:=aM b.1.1 b.1.2 (show -(si ((q-p)/2))≤si ((q-p)/2) by grind) (show si ((q-p)/2)≤si ((q-p)/2) by grind);have m2:=aM b.2.1 b.2.2 (show -(si ((q-p)/2))≤si ((q-p)/2) by grind) (show si ((q-p)/2)≤si ((q-p)/2) by grind);have g1:tb*((q-p)/2)≤(q-p)/2/3437740:=by
  have:=aaZ (show 0≤1/3437740-tb by grind) hd.1;grind
 generalize co ((p+q)/2)*si ((q-p)/2)=z1 at*;generalize si ((p+q)/2)*si ((q-p)/2)=z2 at*;generalize si ((q-p)/2)=S at*;generalize tb*((q-p)/2)=x at*;unfold Cl at*;generalize si q=y1 at*;generalize si p=y2 at*;generalize co q=y3 at*;generalize co p=y4 at*;clear b s0 hd;refine ⟨⟨?_,?_⟩,?_,?_⟩<;>grind
end TB
end
section
namespace TB
open SM TA
theorem si_quart:1-e0≤si 5400000∧si (-5400000)≤-1+e0:=by
 have e:e0=1048576*u0:=rfl;have u:=cT;have q:=LU.2;have n:=(AJ (q:=5400000) (by grind) (by grind)).1;unfold Cl at q;rw [n];constructor<;>grind
theorem halve (y:Rat) (n:Nat):∀a b:Rat,-5400000≤a→a≤b→b≤5400000→si a≤y+e0→y-e0≤si b→∃a' b':Rat,-5400000≤a'∧a'≤b'∧b'≤5400000∧si a'≤y+e0∧y-e0≤si b'∧(b'-a')*2^n=b-a:=by
 induction n with
 | zero=>
  intro a b h0 h h1 ha hb;exact ⟨a,b,h0,h,h1,ha,hb,by rw [Rat.pow_zero];grind⟩
 | succ n ih=>
  intro a b h0 h h1 ha hb;have e:=eR.1;rcases (adJ:si ((a+b)/2)≤y∨y≤si ((a+b)/2)) with c | c
  ·obtain ⟨a',b',k0,k,k1,ka,kb,kw⟩:=ih ((a+b)/2) b (by grind) (by grind) h1 (by grind) hb;refine ⟨a',b',k0,k,k1,ka,kb,?_⟩;rw [Rat.pow_succ];generalize (2:Rat)^n=z at*;grind
  ·obtain ⟨a',b',k0,k,k1,ka,kb,kw⟩:=ih a ((a+b)/2) h0 (by grind) (by grind) ha (by grind);refine ⟨a',b',k0,k,k1,ka,kb,?_⟩;rw [Rat.pow_succ];generalize (2:Rat)^n=z at*;grind
theorem pow_big:10800000≤(2:Rat)^2520*e0∧(0:Rat)<2^2520:=by decide+kernel
theorem inv {y:Rat} (h0:-1≤y) (h1:y≤1):∃q:Rat,-5400000≤q∧q≤5400000∧Cl (4*e0) (si q) y:=by
 have e:=eR;have s:=si_quart;obtain ⟨a,b,k0,k,k1,ka,kb,kw⟩:=halve y 2520 (-5400000) 5400000 (by grind) (by grind) (by grind) (by grind) (by grind);have l:=(lip (p:=a) (q:=b) k (by grind)).1;have p:=pow_big;have w:b-a≤e0:=by
  generalize (2:Rat)^2520=z at*;rcases (adJ:b-a≤e0∨e0≤b-a) with c | c
  ·exact c
  ·have:=aaZ (show 0≤b-a-e0 by grind) (show 0≤z by grind);have:(b-a-e0)*z=0:=by grind
   rcases axQ.1 this with h | h
   ·grind
   ·grind
 refine ⟨a,k0,by grind,?_⟩;unfold Cl at*;generalize si a=x1 at*;generalize si b=x2 at*;constructor<;>grind
theorem kH {z f e:Rat} (hf:0≤f) (hz:z*z≤e) (hfe:e≤f*f):-f≤z∧z≤f:=by
 constructor
 ·rcases (adJ:-f≤z∨z≤-f) with h | h
  ·exact h
  ·have a:=aaZ (show 0≤-f-z by grind) (show 0≤f-z by grind);have:(-f-z)*(f-z)=z*z-f*f:=by grind
   have b:=aaZ (show 0≤-f-z by grind) (show 0≤-f-z by grind);have:-f-z=0:=by
    have c:(-f-z)*(-f-z)+2*f*(-f-z)=z*z-f*f:=by grind
    have d:=aaZ hf (show 0≤-f-z by grind);have:(-f-z)*(-f-z)=0:=by grind
    rcases axQ.1 this with h | h<;>exact h
   grind
 ·rcases (adJ:z≤f∨f≤z) with h | h
  ·exact h
  ·have b:=aaZ (show 0≤z-f by grind) (show 0≤z-f by grind);have:z-f=0:=by
    have c:(z-f)*(z-f)+2*f*(z-f)=z*z-f*f:=by grind
    have d:=aaZ hf (show 0≤z-f by grind);have:(z-f)*(z-f)=0:=by grind
    rcases axQ.1 this with h | h<;>exact h
   grind
def e1:Rat:=pw 1220
def e2:Rat:=pw 600
theorem iR:0<e1∧e1≤1/2^200:=by decide+kernel
theorem co_from {q x y f g:Rat} (hf:e0≤f) (hf1:f≤1/1000) (hg:0≤g) (hfg:100*f≤g*g) (h0:-5400000≤q) (h1:q≤5400000) (hs:Cl (6*f) (si q) y) (hx:0≤x) (hu:Cl (4*f) (x*x+y*y) 1):Cl g (co q) x:=by
 have e:=eR;have ee:e0=1048576*u0:=rfl;have u:=EM q;have c:=WH (q:=q) (d:=0) h0 h1 (by grind) (by grind) (by grind);rw [show tb*0/2-e0=-e0 by grind] at c;have b:=iN q;have m:=Cl.mul 2 3 hs hs b.2 (by unfold Cl at hs;have:=b.2;constructor<;>grind);have d:Cl (36*f) (co q*co q) (x*x):=by
  unfold Cl at*;generalize co q*co q=z1 at*;generalize si q*si q=z2 at*;generalize y*y=z3 at*;generalize x*x=z4 at*;constructor<;>grind
 have hx2:x≤2:=by
  have:=lK y;unfold Cl at hu;exact (UN (z:=x) (by grind)).2
 have k:=kH (z:=co q-x) (f:=g) (e:=100*f) hg ?_ hfg
 ·exact k
 ·unfold Cl at d;rcases (adJ:co q≤x∨x≤co q) with h | h
  ·have a:=aaZ (show 0≤x-co q by grind) (show 0≤co q+f by grind);have a2:=aaZ (show 0≤f by grind) (show 0≤4-(x-co q) by grind);generalize co q=z at*;grind
  ·have a:=aaZ (show 0≤co q-x by grind) hx;generalize co q=z at*;grind
theorem dir {x y f g:Rat} (hf:e0≤f) (hf1:f≤1/1000) (hg:f≤g) (hfg:100*f≤g*g) (hu:Cl (2*f) (x*x+y*y) 1):∃q:Rat,-10800000≤q∧q≤16200000∧Cl (2*g) (co q) x∧Cl (8*f) (si q) y:=by
 have e:=eR;have ee:e0=1048576*u0:=rfl;have eu:=cT;have sx:=lK x;have hy:=II (z:=y) (e:=2*f) (by grind) (by unfold Cl at hu;grind);obtain ⟨y',y0,y1,yc⟩:∃y':Rat,-1≤y'∧y'≤1∧Cl (2*f) y' y:=by
  rcases (adJ:y≤1∨1≤y) with h | h
  ·rcases (adJ:-1≤y∨y≤-1) with k | k
   ·exact ⟨y,k,h,Cl.refl _ (by grind)⟩
   ·exact ⟨-1,by grind,by grind,by unfold Cl;constructor<;>grind⟩
  ·exact ⟨1,by grind,by grind,by unfold Cl;constructor<;>grind⟩
 obtain ⟨q,q0,q1,qs⟩:=inv y0 y1;have qy:Cl (6*f) (si q) y:=(qs.trans yc).wide (by grind);rcases (adJ:0≤x∨x≤0) with h | h
 ·have c:=co_from hf hf1 (by grind) hfg q0 q1 qy h (hu.wide (by grind));exact ⟨q,by grind,by grind,c.wide (by grind),qy.wide (by grind)⟩
 ·have c:=co_from (x:=-x) hf hf1 (by grind) hfg q0 q1 qy (by grind) (by rw [show -x*-x=x*x by grind];exact hu.wide (by grind));have o:=oppq (-q);have n:=AJ (q:=q) (by grind) (by grind);rw [n.1,n.2] at o;refine ⟨-q+10800000,by grind,by grind,?_,?_⟩
  ·have:=o.1.trans c.neg;rw [show- -x=x by grind] at this;exact this.wide (by grind)
  ·rw [show- -si q=si q by grind] at o;exact (o.2.trans qy).wide (by grind)
end TB
end
end Go.Proofs.YtmididlfnajhiaaGreatDoor
