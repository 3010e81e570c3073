/-
  Quotients of fixed-point intervals, and angles: what each function gives, as a plain law. The cosine formula: what each function gives. The addition theorem of truncated sines and cosines, with its.
-/
import Derived.Test.YtajpgkpdhcbngaaGreatDoorU4
import Derived.Test.YtajpgkpdhcbngaaGreatDoorU5
import Derived.Test.YtajpgkpdhcbngaaGreatDoorU3
set_option maxRecDepth 100000
set_option maxHeartbeats 4000000
open _root_.Int renaming le_total→asX,lt_or_le→aiJ,mul_comm→akZ,mul_le_mul_of_nonneg_right→aeZ,zero_sub→axQ
open _root_.Nat renaming zero_le→afX
open _root_.Rat renaming intCast_add→acQ,intCast_le_intCast→ahQ,intCast_neg→afQ,intCast_sub→abZ,le_total→abX,mul_eq_zero→anZ,mul_nonneg→aaQ
open Go.Proofs.Tryz renaming prog→aaZ
open Go.IntKind (i64 u64)
namespace Go.Proofs.YtajpgkpdhcbngaaGreatDoor
noncomputable section
section
open Ev
def divL (a b c d:Int):Int:=mn (mn (mn (mn (mU (a*1073741824) c) (mU (a*1073741824) c)) (mU (a*1073741824) d)) (mU (b*1073741824) c)) (mU (b*1073741824) d)
def divH (a b c d:Int):Int:=mx (mx (mx (mx (zM (a*1073741824) c) (zM (a*1073741824) c)) (zM (a*1073741824) d)) (zM (b*1073741824) c)) (zM (b*1073741824) d)
def lX (a b c d:Int):Int×Int×Int:=if fS a b c d=true then (if pI c d=true then (0,0,16) else lZ (divL a b c d) (divH a b c d)) else (0,0,1)
def kF20:bJ:=(86,rI (fun a b c d=>.bool (fS a b c d)))::(87,eII (fun a b=>aP (lZ a b)))::(121,tE tT (fun a b=>.int .i64 (mU a b)))::(122,tE tT (fun a b=>.int .i64 (zM a b)))::(128,eP (fun a b=>.bool (pI a b)))::[]
theorem kF20_ok:aJ aaZ kF20:=(aA (dM pR) (aA (yG yK) (aA (kM BU) (aA (kM BK) (aA (dD EN) fE)))))
theorem divR_gives (a b c d:Int):aH aaZ 180 [.agg ⟨[.int .i64 a,.int .i64 b]⟩,.agg ⟨[.int .i64 c,.int .i64 d]⟩] (aP (lX a b c d)):=by
 refine aF bK kF20_ok (t:=cond (!(fS a b c d)) (some (.v (.tuple ⟨[.agg ⟨[.int .i64 0,.int .i64 0]⟩,.int .i64 1]⟩))) (cond (pI c d) (some (.v (.tuple ⟨[.agg ⟨[.int .i64 0,.int .i64 0]⟩,.int .i64 16]⟩))) (cond (tT (i64.wrap (a*1073741824)) c) (cond (tT (i64.wrap (a*1073741824)) c) (cond (tT (i64.wrap (a*1073741824)) c) (cond (tT (i64.wrap (a*1073741824)) c) (cond (tT (i64.wrap (a*1073741824)) d) (cond (tT (i64.wrap (a*1073741824)) d) (cond (tT (i64.wrap (b*1073741824)) c) (cond (tT (i64.wrap (b*1073741824)) c) (cond (tT (i64.wrap (b*1073741824)) d) (cond (tT (i64.wrap (b*1073741824)) d) (lt (lZ (mn (mn (mn (mn (mU (i64.wrap (a*1073741824)) c) (mU (i64.wrap (a*1073741824)) c)) (mU (i64.wrap (a*1073741824)) d)) (mU (i64.wrap (b*1073741824)) c)) (mU (i64.wrap (b*1073741824)) d)) (mx (mx (mx (mx (zM (i64.wrap (a*1073741824)) c) (zM (i64.wrap (a*1073741824)) c)) (zM (i64.wrap (a*1073741824)) d)) (zM (i64.wrap (b*1073741824)) c)) (zM (i64.wrap (b*1073741824)) d))) fun x1=>some (.v (.tuple ⟨[.agg ⟨[.int .i64 x1.1,.int .i64 x1.2.1]⟩,.int .i64 x1.2.2]⟩))) (none)) (none)) (none)) (none)) (none)) (none)) (none)) (none)) (none)) (none)))) (by kernel_rfl) ?_;unfold lX;cases h:fS a b c d
 ·rfl
 ·cases hz:pI c d
  ·have:=zK h;have hz:=of_decide_eq_false hz;rw [bR (x:=a*1073741824) (by omega),bR (x:=b*1073741824) (by omega)];have f1:tT (a*1073741824) c=true:=decide_eq_true ⟨by omega,by omega,by omega⟩;have f2:tT (a*1073741824) d=true:=decide_eq_true ⟨by omega,by omega,by omega⟩;have f3:tT (b*1073741824) c=true:=decide_eq_true ⟨by omega,by omega,by omega⟩;have f4:tT (b*1073741824) d=true:=decide_eq_true ⟨by omega,by omega,by omega⟩;rw [f1,f2,f3,f4];rfl
  ·rfl
def jZ (n:Int):Int:=n%21600000
def pS (a:Int):Bool:=decide (-1099511627776≤a∧a≤1099511627776)
def kF21:bJ:=(24,eP (fun a b=>.bool (aE a b)))::(25,eI (fun a=>.int .i64 (jZ a)))::kF20
theorem kF21_ok:aJ aaZ kF21:=(aA (dD (fun a b W _=>lE a b W)) (aA (IR (fun a W _=>LN a W)) kF20_ok))
theorem WL (a:Int):aH aaZ 63 [.int .i64 a] (.bool (pS a)):=by
 refine aF bK kF21_ok (t:=cond (decide (a≥(-1099511627776))) (some (.v (.bool (decide (a≤1099511627776))))) (some (.v (.bool false)))) (by kernel_rfl) ?_;cases h1:(decide (a≥(-1099511627776)))
 ·rw [cond_false];replace h1:=of_decide_eq_false h1;simp [pS, *]
 ·rw [cond_true];replace h1:=of_decide_eq_true h1;simp [pS, *]
def tU (a b:Int):Int×Int×Int:=if pS a=true∧pS b=true then (a,b,0) else (0,0,5)
def kF22:bJ:=(63,eI (fun a=>.bool (pS a)))::kF21
theorem kF22_ok:aJ aaZ kF22:=(aA (IR WL) kF21_ok)
theorem KM (a b:Int):aH aaZ 154 [.int .i64 a,.int .i64 b] (aP (tU a b)):=by
 refine aF bK kF22_ok (t:=cond (!(pS a)) (some (.v (.tuple ⟨[.agg ⟨[.int .i64 0,.int .i64 0]⟩,.int .i64 5]⟩))) (cond (!(pS b)) (some (.v (.tuple ⟨[.agg ⟨[.int .i64 0,.int .i64 0]⟩,.int .i64 5]⟩))) (some (.v (.tuple ⟨[.agg ⟨[.int .i64 a,.int .i64 b]⟩,.int .i64 0]⟩))))) (by kernel_rfl) ?_;cases h1:(pS a)
 ·rw [Bool.not_false,cond_true];simp [tU,aP,aG, *]
 ·rw [Bool.not_true,cond_false];cases h2:(pS b)
  ·rw [Bool.not_false,cond_true];simp [tU,aP,aG, *]
  ·rw [Bool.not_true,cond_false];simp [tU,aP,aG, *]
def zG (a b:Int):Int×Int×Int:=if aE a b=true then (-b,-a,0) else (0,0,1)
theorem cG {a b:Int} (h:aE a b=true):-1099511627776≤a∧a≤b∧b≤1099511627776:=by simpa [aE] using h
def kF23:bJ:=(154,eII (fun a b=>aP (tU a b)))::kF22
theorem kF23_ok:aJ aaZ kF23:=(aA (yG KM) kF22_ok)
theorem DE (a b:Int):aH aaZ 113 [.agg ⟨[.int .i64 a,.int .i64 b]⟩] (aP (zG a b)):=by
 refine aF bK kF23_ok (t:=cond (!(aE a b)) (some (.v (.tuple ⟨[.agg ⟨[.int .i64 0,.int .i64 0]⟩,.int .i64 1]⟩))) (lt (tU (i64.wrap (0-b)) (i64.wrap (0-a))) fun x1=>some (.v (.tuple ⟨[.agg ⟨[.int .i64 x1.1,.int .i64 x1.2.1]⟩,.int .i64 x1.2.2]⟩)))) (by kernel_rfl) ?_;unfold zG;cases h:aE a b
 ·rfl
 ·have:=cG h;rw [bR (x:=0-b) (by omega),bR (x:=0-a) (by omega),axQ,axQ];have e:tU (-b) (-a)=(-b,-a,0):=by unfold tU pS;simp;omega
  rw [e];rfl
def oO (a b c d:Int):Int×Int×Int:=if aE a b=true∧aE c d=true then tU (a+c) (b+d) else (0,0,1)
def kF24:bJ:=(113,eP (fun a b=>aP (zG a b)))::kF23
theorem kF24_ok:aJ aaZ kF24:=(aA (dD DE) kF23_ok)
theorem DD (a b c d:Int):aH aaZ 131 [.agg ⟨[.int .i64 a,.int .i64 b]⟩,.agg ⟨[.int .i64 c,.int .i64 d]⟩] (aP (oO a b c d)):=by
 refine aF bK kF24_ok (t:=cond (!(aE a b)) (some (.v (.tuple ⟨[.agg ⟨[.int .i64 0,.int .i64 0]⟩,.int .i64 1]⟩))) (cond (!(aE c d)) (some (.v (.tuple ⟨[.agg ⟨[.int .i64 0,.int .i64 0]⟩,.int .i64 1]⟩))) (lt (tU (i64.wrap (a+c)) (i64.wrap (b+d))) fun x1=>some (.v (.tuple ⟨[.agg ⟨[.int .i64 x1.1,.int .i64 x1.2.1]⟩,.int .i64 x1.2.2]⟩))))) (by kernel_rfl) ?_;unfold oO;cases h:aE a b
 ·rfl
 ·cases h2:aE c d
  ·rfl
  ·have:=cG h;have:=cG h2;rw [bR (x:=a+c) (by omega),bR (x:=b+d) (by omega)];rfl
def kK (a b c d:Int):Int×Int×Int:=if aE a b=true∧aE c d=true then tU (a-d) (b-c) else (0,0,1)
def kF25:bJ:=(131,rI (fun a b c d=>aP (oO a b c d)))::kF24
theorem AA:aJ aaZ kF25:=(aA (dM DD) kF24_ok)
theorem uA (a b c d:Int):aH aaZ 89 [.agg ⟨[.int .i64 a,.int .i64 b]⟩,.agg ⟨[.int .i64 c,.int .i64 d]⟩] (aP (kK a b c d)):=by
 refine aF bK AA (t:=lt (zG c d) fun x1=>cond (x1.2.2 != 0) (some (.v (.tuple ⟨[.agg ⟨[.int .i64 x1.1,.int .i64 x1.2.1]⟩,.int .i64 x1.2.2]⟩))) (lt (oO a b x1.1 x1.2.1) fun x2=>some (.v (.tuple ⟨[.agg ⟨[.int .i64 x2.1,.int .i64 x2.2.1]⟩,.int .i64 x2.2.2]⟩)))) (by kernel_rfl) ?_;unfold kK;unfold zG;cases h2:aE c d
 ·simp only [lt];cases h:aE a b<;>rfl
 ·have:=cG h2;simp only [lt];have e:oO a b (-d) (-c)=if aE a b=true∧True then tU (a-d) (b-c) else (0,0,1):=by
   unfold oO;have:aE (-d) (-c)=true:=by simp [aE];omega
   rw [this];simp [Int.sub_eq_add_neg]
  simp only [if_pos];rw [e];cases h:aE a b<;>rfl
def dO (a b:Int):Int×Int×Int:=if aE a b=true then (fG a b,dU a b,0) else (0,0,1)
theorem wI (a b:Int):aH aaZ 95 [.agg ⟨[.int .i64 a,.int .i64 b]⟩] (aP (dO a b)):=by
 refine aF bK AA (t:=cond (!(aE a b)) (some (.v (.tuple ⟨[.agg ⟨[.int .i64 0,.int .i64 0]⟩,.int .i64 1]⟩))) (cond (decide (i64.wrap (b-a)≥21600000)) (some (.v (.tuple ⟨[.agg ⟨[.int .i64 0,.int .i64 21600000]⟩,.int .i64 0]⟩))) (some (.v (.tuple ⟨[.agg ⟨[.int .i64 (jZ a),.int .i64 (i64.wrap ((jZ a)+(i64.wrap (b-a))))]⟩,.int .i64 0]⟩))))) (by kernel_rfl) ?_;unfold dO;cases h:aE a b
 ·rfl
 ·have:=cG h;unfold jZ;rw [bR (x:=b-a) (by omega),bR (x:=a%21600000+(b-a)) (by omega)];unfold fG dU;by_cases h1:21600000≤b-a
  ·have e:decide (b-a≥21600000)=true:=decide_eq_true h1;rw [e];simp [h1,aP,aG]
  ·have e:decide (b-a≥21600000)=false:=decide_eq_false h1;rw [e];simp [h1,aP,aG]
def cR (a b c d:Int):Int×Int×Int:=if aE a b=true∧aE c d=true then (if mx a c>mn b d then (0,0,23) else (mx a c,mn b d,0)) else (0,0,1)
theorem jQ (a b c d:Int):aH aaZ 11 [.agg ⟨[.int .i64 a,.int .i64 b]⟩,.agg ⟨[.int .i64 c,.int .i64 d]⟩] (aP (cR a b c d)):=by
 refine aF bK AA (t:=cond (!(aE a b)) (some (.v (.tuple ⟨[.agg ⟨[.int .i64 0,.int .i64 0]⟩,.int .i64 1]⟩))) (cond (!(aE c d)) (some (.v (.tuple ⟨[.agg ⟨[.int .i64 0,.int .i64 0]⟩,.int .i64 1]⟩))) (cond (decide ((mx a c)>(mn b d))) (some (.v (.tuple ⟨[.agg ⟨[.int .i64 0,.int .i64 0]⟩,.int .i64 23]⟩))) (some (.v (.tuple ⟨[.agg ⟨[.int .i64 (mx a c),.int .i64 (mn b d)]⟩,.int .i64 0]⟩)))))) (by kernel_rfl) ?_;cases h1:(aE a b)
 ·rw [Bool.not_false,cond_true];simp [cR,aP,aG, *]
 ·rw [Bool.not_true,cond_false];cases h2:(aE c d)
  ·rw [Bool.not_false,cond_true];simp [cR,aP,aG, *]
  ·rw [Bool.not_true,cond_false];cases h3:(decide ((mx a c)>(mn b d)))
   ·rw [cond_false];replace h3:=of_decide_eq_false h3;simp [cR,aP,aG, *]
   ·rw [cond_true];replace h3:=of_decide_eq_true h3;simp [cR,aP,aG, *]
def pT (a b c d:Int):Bool:=aE a b&&(aE c d&&(decide (a≥c)&&decide (b≤d)))
theorem LY (a b c d:Int):aH aaZ 12 [.agg ⟨[.int .i64 a,.int .i64 b]⟩,.agg ⟨[.int .i64 c,.int .i64 d]⟩] (.bool (pT a b c d)):=by
 refine aF bK AA (t:=cond (aE a b) (cond (aE c d) (cond (decide (a≥c)) (some (.v (.bool (decide (b≤d))))) (some (.v (.bool false)))) (some (.v (.bool false)))) (some (.v (.bool false)))) (by kernel_rfl) ?_;cases h1:(aE a b)
 ·rw [cond_false];simp [pT, *]
 ·rw [cond_true];cases h2:(aE c d)
  ·rw [cond_false];simp [pT, *]
  ·rw [cond_true];cases h3:(decide (a≥c))
   ·rw [cond_false];replace h3:=of_decide_eq_false h3;simp [pT, *]
   ·rw [cond_true];replace h3:=of_decide_eq_true h3;simp [pT, *]
def oP (a b c d:Int):Bool×Int:=if aE a b=true∧aE c d=true then (decide ((c-a)%21600000≤b-a∨(a-c)%21600000≤d-c),0) else (false,1)
theorem rK (a b c d:Int):aH aaZ 10 [.agg ⟨[.int .i64 a,.int .i64 b]⟩,.agg ⟨[.int .i64 c,.int .i64 d]⟩] (GV (oP a b c d)):=by
 refine aF bK AA (t:=cond (!(aE a b)) (some (.v (.tuple ⟨[.bool false,.int .i64 1]⟩))) (cond (!(aE c d)) (some (.v (.tuple ⟨[.bool false,.int .i64 1]⟩))) (cond (decide ((jZ (i64.wrap (c-a)))≤i64.wrap (b-a))) (some (.v (.tuple ⟨[.bool true,.int .i64 0]⟩))) (some (.v (.tuple ⟨[.bool (decide ((jZ (i64.wrap (a-c)))≤i64.wrap (d-c))),.int .i64 0]⟩)))))) (by kernel_rfl) ?_;unfold oP;cases h1:aE a b
 ·simp [GV]
 ·cases h2:aE c d
  ·simp [GV]
  ·have h3:=cG h1;have h4:=cG h2;unfold jZ;rw [bR (x:=c-a) (by omega),bR (x:=b-a) (by omega),bR (x:=a-c) (by omega),bR (x:=d-c) (by omega)];by_cases h5:(c-a)%21600000≤b-a
   ·simp [h5,GV]
   ·simp [h5,GV]
end
section
open Ev
def cU (r:Int×Int×Int×Int×Int):Value:=.tuple ⟨[.agg ⟨[.int .i64 r.1,.int .i64 r.2.1,.int .i64 r.2.2.1,.int .i64 r.2.2.2.1]⟩,.int .i64 r.2.2.2.2]⟩
def twoV (r:Int×Int×Int×Int×Int):Value:=.tuple ⟨[aG r.1 r.2.1,aG r.2.2.1 r.2.2.2.1,.int .i64 r.2.2.2.2]⟩
def nD (r:Int×Int×Int×Int):Value:=.agg ⟨[.int .i64 r.1,.int .i64 r.2.1,.int .i64 r.2.2.1,.int .i64 r.2.2.2]⟩
def gK (a b:Int):Bool:=aE a b&&(decide (a≥-5400000)&&decide (b≤5400000))
def kFc0:bJ:=(24,eP (fun a b=>.bool (aE a b)))::(33,eP (fun a b=>aP (bE a b)))::(34,rI (fun a b c d=>aP (aX a b c d)))::(45,rI (fun a b c d=>aP (gB a b c d)))::(65,eP (fun a b=>aP (aK a b)))::(66,eP (fun a b=>aP (aI a b)))::(67,rI (fun a b c d=>aP (bF a b c d)))::(68,rI (fun a b c d=>aP (lJ a b c d)))::(69,eP (fun a b=>aP (mM a b)))::[]
theorem kFc0_ok:aJ aaZ kFc0:=(aA (dD (fun a b W _=>lE a b W)) (aA (dD (fun a b W _=>PO a b W)) (aA (dM (fun a b c d W _=>zH a b c d W)) (aA (dM mR) (aA (dD (fun a b W _=>LB a b W)) (aA (dD (fun a b W _=>DL a b W)) (aA (dM jM) (aA (dM sI) (aA (dD yO) fE)))))))))
theorem latB_gives (a b:Int):aH aaZ 57 [.agg ⟨[.int .i64 a,.int .i64 b]⟩] (.bool (gK a b)):=by
 refine aF bK kFc0_ok (t:=cond (aE a b) (cond (decide (a≥(-5400000))) (some (.v (.bool (decide (b≤5400000))))) (some (.v (.bool false)))) (some (.v (.bool false)))) (by kernel_rfl) ?_;cases h1:(aE a b)
 ·rw [cond_false];simp [gK, *]
 ·rw [cond_true];cases h2:(decide (a≥(-5400000)))
  ·rw [cond_false];replace h2:=of_decide_eq_false h2;simp [gK, *]
  ·rw [cond_true];replace h2:=of_decide_eq_true h2;simp [gK, *]
def dV (a b c d e f:Int):Bool:=gK a b&&(gK c d&&aE e f)
def kFc1:bJ:=(57,eP (fun a b=>.bool (gK a b)))::kFc0
theorem kFc1_ok:aJ aaZ kFc1:=(aA (dD latB_gives) kFc0_ok)
theorem jP (a b c d e f:Int):aH aaZ 21 [.agg ⟨[.int .i64 a,.int .i64 b,.int .i64 c,.int .i64 d,.int .i64 e,.int .i64 f]⟩] (.bool (dV a b c d e f)):=by
 refine aF bK kFc1_ok (t:=cond (gK a b) (cond (gK c d) (some (.v (.bool (aE e f)))) (some (.v (.bool false)))) (some (.v (.bool false)))) (by kernel_rfl) ?_;cases h1:(gK a b)
 ·rw [cond_false];simp [dV, *]
 ·rw [cond_true];cases h2:(gK c d)
  ·rw [cond_false];simp [dV, *]
  ·rw [cond_true];simp [dV, *]
def qA (a b _e:Int):Int×Int:=(a,b)
def rQ (k _a _b e:Int):Int:=bG k e
def kFc2:bJ:=(21,eT (fun a b c d e f=>.bool (dV a b c d e f)))::kFc1
theorem kFc2_ok:aJ aaZ kFc2:=(aA (lO jP) kFc1_ok)
theorem VV (k a b c:Int):gN aaZ 196 183 k [.agg ⟨[.int .i64 a,.int .i64 b]⟩,.int .i64 c] (aG (qA a b c).1 (qA a b c).2) (rQ k a b c):=by
 refine bM bK kFc2_ok (t:=cond (k==0) (some (.v (.agg ⟨[.int .i64 a,.int .i64 b]⟩),⟨[.v (.int .i64 c)],183⟩)) (some (.v (.agg ⟨[.int .i64 a,.int .i64 b]⟩),⟨[.v (.int .i64 k)],183⟩))) (by kernel_rfl) ?_;unfold rQ bG;by_cases h:k=0
 ·simp [h];rfl
 ·have e:(k==0)=false:=beq_eq_false_iff_ne.2 h;rw [e];simp [h];rfl
def sW (a b:Int):Int×Int:=((aK a b).1,(aK a b).2.1)
def xM (k a b:Int):Int:=bG k (aK a b).2.2
def kFc3:bJ:=(196,cPI 183 (fun a b c=>aG (qA a b c).1 (qA a b c).2) rQ)::kFc2
theorem kFc3_ok:aJ aaZ kFc3:=(aA (rP VV) kFc2_ok)
theorem csinV_mods (k a b:Int):gN aaZ 194 183 k [.agg ⟨[.int .i64 a,.int .i64 b]⟩] (aG (sW a b).1 (sW a b).2) (xM k a b):=by
 refine bM bK kFc3_ok (t:=lt (aK a b) fun x1=>lt (qA x1.1 x1.2.1 x1.2.2) fun x3=>lt (rQ k x1.1 x1.2.1 x1.2.2) fun x2=>some (.v (.agg ⟨[.int .i64 x3.1,.int .i64 x3.2]⟩),⟨[.v (.int .i64 x2)],183⟩)) (by kernel_rfl) ?_;rfl
def sU (a b:Int):Int×Int:=((aI a b).1,(aI a b).2.1)
def xL (k a b:Int):Int:=bG k (aI a b).2.2
def kFc4:bJ:=(194,cP 183 (fun a b=>aG (sW a b).1 (sW a b).2) xM)::kFc3
theorem kFc4_ok:aJ aaZ kFc4:=(aA (oR csinV_mods) kFc3_ok)
theorem ccosV_mods (k a b:Int):gN aaZ 195 183 k [.agg ⟨[.int .i64 a,.int .i64 b]⟩] (aG (sU a b).1 (sU a b).2) (xL k a b):=by
 refine bM bK kFc4_ok (t:=lt (aI a b) fun x1=>lt (qA x1.1 x1.2.1 x1.2.2) fun x3=>lt (rQ k x1.1 x1.2.1 x1.2.2) fun x2=>some (.v (.agg ⟨[.int .i64 x3.1,.int .i64 x3.2]⟩),⟨[.v (.int .i64 x2)],183⟩)) (by kernel_rfl) ?_;rfl
def qR (a b c d:Int):Int×Int:=((bF a b c d).1,(bF a b c d).2.1)
def uD (k a b c d:Int):Int:=bG k (bF a b c d).2.2
def kFc5:bJ:=(195,cP 183 (fun a b=>aG (sU a b).1 (sU a b).2) xL)::kFc4
theorem kFc5_ok:aJ aaZ kFc5:=(aA (oR ccosV_mods) kFc4_ok)
theorem cmulV_mods (k a b c d:Int):gN aaZ 163 183 k [.agg ⟨[.int .i64 a,.int .i64 b]⟩,.agg ⟨[.int .i64 c,.int .i64 d]⟩] (aG (qR a b c d).1 (qR a b c d).2) (uD k a b c d):=by
 refine bM bK kFc5_ok (t:=lt (bF a b c d) fun x1=>lt (qA x1.1 x1.2.1 x1.2.2) fun x3=>lt (rQ k x1.1 x1.2.1 x1.2.2) fun x2=>some (.v (.agg ⟨[.int .i64 x3.1,.int .i64 x3.2]⟩),⟨[.v (.int .i64 x2)],183⟩)) (by kernel_rfl) ?_;rfl
def MZ (a b c d:Int):Int×Int:=((gB a b c d).1,(gB a b c d).2.1)
def caddC (k a b c d:Int):Int:=bG k (gB a b c d).2.2
def kFc6:bJ:=(163,PT 183 (fun a b c d=>aG (qR a b c d).1 (qR a b c d).2) uD)::kFc5
theorem kFc6_ok:aJ aaZ kFc6:=(aA (jH cmulV_mods) kFc5_ok)
theorem caddV_mods (k a b c d:Int):gN aaZ 162 183 k [.agg ⟨[.int .i64 a,.int .i64 b]⟩,.agg ⟨[.int .i64 c,.int .i64 d]⟩] (aG (MZ a b c d).1 (MZ a b c d).2) (caddC k a b c d):=by
 refine bM bK kFc6_ok (t:=lt (gB a b c d) fun x1=>lt (qA x1.1 x1.2.1 x1.2.2) fun x3=>lt (rQ k x1.1 x1.2.1 x1.2.2) fun x2=>some (.v (.agg ⟨[.int .i64 x3.1,.int .i64 x3.2]⟩),⟨[.v (.int .i64 x2)],183⟩)) (by kernel_rfl) ?_;rfl
def NE (a b c d:Int):Int×Int:=((lJ a b c d).1,(lJ a b c d).2.1)
def csubC (k a b c d:Int):Int:=bG k (lJ a b c d).2.2
def kFc7:bJ:=(162,PT 183 (fun a b c d=>aG (MZ a b c d).1 (MZ a b c d).2) caddC)::kFc6
theorem kFc7_ok:aJ aaZ kFc7:=(aA (jH caddV_mods) kFc6_ok)
theorem csubV_mods (k a b c d:Int):gN aaZ 165 183 k [.agg ⟨[.int .i64 a,.int .i64 b]⟩,.agg ⟨[.int .i64 c,.int .i64 d]⟩] (aG (NE a b c d).1 (NE a b c d).2) (csubC k a b c d):=by
 refine bM bK kFc7_ok (t:=lt (lJ a b c d) fun x1=>lt (qA x1.1 x1.2.1 x1.2.2) fun x3=>lt (rQ k x1.1 x1.2.1 x1.2.2) fun x2=>some (.v (.agg ⟨[.int .i64 x3.1,.int .i64 x3.2]⟩),⟨[.v (.int .i64 x2)],183⟩)) (by kernel_rfl) ?_;rfl
def NC (a b:Int):Int×Int:=((mM a b).1,(mM a b).2.1)
def cnegC (k a b:Int):Int:=bG k (mM a b).2.2
def kFc8:bJ:=(165,PT 183 (fun a b c d=>aG (NE a b c d).1 (NE a b c d).2) csubC)::kFc7
theorem kFc8_ok:aJ aaZ kFc8:=(aA (jH csubV_mods) kFc7_ok)
theorem cnegV_mods (k a b:Int):gN aaZ 164 183 k [.agg ⟨[.int .i64 a,.int .i64 b]⟩] (aG (NC a b).1 (NC a b).2) (cnegC k a b):=by
 refine bM bK kFc8_ok (t:=lt (mM a b) fun x1=>lt (qA x1.1 x1.2.1 x1.2.2) fun x3=>lt (rQ k x1.1 x1.2.1 x1.2.2) fun x2=>some (.v (.agg ⟨[.int .i64 x3.1,.int .i64 x3.2]⟩),⟨[.v (.int .i64 x2)],183⟩)) (by kernel_rfl) ?_;rfl
def GY {α:Type} (K:Int→Int→Int→α) (a b c d e f:Int):α:=lt (sW a b) fun x2=>lt (xM 0 a b) fun x1=>lt (sU a b) fun x4=>lt (xL x1 a b) fun x3=>lt (sW c d) fun x6=>lt (xM x3 c d) fun x5=>lt (sU c d) fun x8=>lt (xL x5 c d) fun x7=>lt (sW e f) fun _=>lt (xM x7 e f) fun x9=>lt (sU e f) fun x12=>lt (xL x9 e f) fun x11=>lt (qR x2.1 x2.2 x6.1 x6.2) fun x14=>lt (uD x11 x2.1 x2.2 x6.1 x6.2) fun x13=>lt (qR x4.1 x4.2 x8.1 x8.2) fun x16=>lt (uD x13 x4.1 x4.2 x8.1 x8.2) fun x15=>lt (qR x16.1 x16.2 x12.1 x12.2) fun x18=>lt (uD x15 x16.1 x16.2 x12.1 x12.2) fun x17=>lt (MZ x14.1 x14.2 x18.1 x18.2) fun x20=>lt (caddC x17 x14.1 x14.2 x18.1 x18.2) fun x19=>cond (x19 != 0) (K 0 0 x19) (lt (bE x20.1 x20.2) fun x21=>K x21.1 x21.2.1 x21.2.2)
def zL (a b c d e f:Int):Int×Int×Int:=GY (fun p0 p1 p2=>(p0,p1,p2)) a b c d e f
def kFc9:bJ:=(164,cP 183 (fun a b=>aG (NC a b).1 (NC a b).2) cnegC)::kFc8
theorem kFc9_ok:aJ aaZ kFc9:=(aA (oR cnegV_mods) kFc8_ok)
theorem VP (a b c d e f:Int):aH aaZ 125 [.agg ⟨[.int .i64 a,.int .i64 b,.int .i64 c,.int .i64 d,.int .i64 e,.int .i64 f]⟩] (aP (zL a b c d e f)):=by
 refine aF bK kFc9_ok (t:=GY (fun p0 p1 p2=>some (.v (aP ((p0,p1,p2))))) a b c d e f) (by kernel_rfl) ?_;unfold zL GY;repeat' first | (with_reducible refine aO (fun r:Int×Int×Int=>AV.v (aP (r))) ?_ ?_) | (with_reducible refine aT (fun r:Int×Int×Int=>AV.v (aP (r))) fun _=>?_) | rfl
def PU {α:Type} (K:Int→Int→Int→α) (a b c d e f:Int):α:=lt (sW a b) fun x2=>lt (xM 0 a b) fun x1=>lt (sU a b) fun x4=>lt (xL x1 a b) fun x3=>lt (sW c d) fun x6=>lt (xM x3 c d) fun x5=>lt (sU c d) fun x8=>lt (xL x5 c d) fun x7=>lt (sW e f) fun x10=>lt (xM x7 e f) fun x9=>lt (sU e f) fun x12=>lt (xL x9 e f) fun x11=>lt (qR x8.1 x8.2 x10.1 x10.2) fun x14=>lt (uD x11 x8.1 x8.2 x10.1 x10.2) fun x13=>lt (NC x14.1 x14.2) fun x16=>lt (cnegC x13 x14.1 x14.2) fun x15=>lt (qR x6.1 x6.2 x4.1 x4.2) fun x18=>lt (uD x15 x6.1 x6.2 x4.1 x4.2) fun x17=>lt (qR x8.1 x8.2 x12.1 x12.2) fun x20=>lt (uD x17 x8.1 x8.2 x12.1 x12.2) fun x19=>lt (qR x20.1 x20.2 x2.1 x2.2) fun x22=>lt (uD x19 x20.1 x20.2 x2.1 x2.2) fun x21=>lt (NE x18.1 x18.2 x22.1 x22.2) fun x24=>lt (csubC x21 x18.1 x18.2 x22.1 x22.2) fun x23=>cond (x23 != 0) (K 0 0 x23) (lt (aX x16.1 x16.2 x24.1 x24.2) fun x25=>K x25.1 x25.2.1 x25.2.2)
def DI (a b c d e f:Int):Int×Int×Int:=PU (fun p0 p1 p2=>(p0,p1,p2)) a b c d e f
def kFc10:bJ:=(125,eT (fun a b c d e f=>aP (zL a b c d e f)))::kFc9
theorem XG:aJ aaZ kFc10:=(aA (lO VP) kFc9_ok)
theorem VQ (a b c d e f:Int):aH aaZ 126 [.agg ⟨[.int .i64 a,.int .i64 b,.int .i64 c,.int .i64 d,.int .i64 e,.int .i64 f]⟩] (aP (DI a b c d e f)):=by
 refine aF bK XG (t:=PU (fun p0 p1 p2=>some (.v (aP ((p0,p1,p2))))) a b c d e f) (by kernel_rfl) ?_;unfold DI PU;repeat' first | (with_reducible refine aO (fun r:Int×Int×Int=>AV.v (aP (r))) ?_ ?_) | (with_reducible refine aT (fun r:Int×Int×Int=>AV.v (aP (r))) fun _=>?_) | rfl
def BJ {α:Type} (K:Int→Int→Int→α) (a b c d e f:Int):α:=cond (!(dV a b c d e f)) (K 0 0 1) (lt (zL a b c d e f) fun x1=>K x1.1 x1.2.1 x1.2.2)
def xK (a b c d e f:Int):Int×Int×Int:=BJ (fun p0 p1 p2=>(p0,p1,p2)) a b c d e f
def kFc11:bJ:=(126,eT (fun a b c d e f=>aP (DI a b c d e f)))::kFc10
theorem XH:aJ aaZ kFc11:=(aA (lO VQ) XG)
theorem VM (a b c d e f:Int):aH aaZ 78 [.agg ⟨[.int .i64 a,.int .i64 b,.int .i64 c,.int .i64 d,.int .i64 e,.int .i64 f]⟩] (aP (xK a b c d e f)):=by
 refine aF bK XH (t:=BJ (fun p0 p1 p2=>some (.v (aP ((p0,p1,p2))))) a b c d e f) (by kernel_rfl) ?_;unfold xK BJ;repeat' first | (with_reducible refine aO (fun r:Int×Int×Int=>AV.v (aP (r))) ?_ ?_) | (with_reducible refine aT (fun r:Int×Int×Int=>AV.v (aP (r))) fun _=>?_) | rfl
def GX {α:Type} (K:Int→Int→Int→α) (a b c d e f:Int):α:=cond (!(dV a b c d e f)) (K 0 0 1) (lt (DI a b c d e f) fun x1=>K x1.1 x1.2.1 x1.2.2)
def DH (a b c d e f:Int):Int×Int×Int:=GX (fun p0 p1 p2=>(p0,p1,p2)) a b c d e f
def kFc12:bJ:=(78,eT (fun a b c d e f=>aP (xK a b c d e f)))::kFc11
theorem XI:aJ aaZ kFc12:=(aA (lO VM) XH)
theorem VN (a b c d e f:Int):aH aaZ 79 [.agg ⟨[.int .i64 a,.int .i64 b,.int .i64 c,.int .i64 d,.int .i64 e,.int .i64 f]⟩] (aP (DH a b c d e f)):=by
 refine aF bK XI (t:=GX (fun p0 p1 p2=>some (.v (aP ((p0,p1,p2))))) a b c d e f) (by kernel_rfl) ?_;unfold DH GX;repeat' first | (with_reducible refine aO (fun r:Int×Int×Int=>AV.v (aP (r))) ?_ ?_) | (with_reducible refine aT (fun r:Int×Int×Int=>AV.v (aP (r))) fun _=>?_) | rfl
def BP {α:Type} (K:Int→Int→Int→Int→Int→α) (a b c d e f:Int):α:=lt (xK a b c d e f) fun x1=>cond (x1.2.2 != 0) (K 0 0 0 0 x1.2.2) (lt (DH a b c d e f) fun x2=>cond (x2.2.2 != 0) (K 0 0 0 0 x2.2.2) (K x1.1 x1.2.1 x2.1 x2.2.1 0))
def gQ (a b c d e f:Int):Int×Int×Int×Int×Int:=BP (fun p0 p1 p2 p3 p4=>(p0,p1,p2,p3,p4)) a b c d e f
def kFc13:bJ:=(79,eT (fun a b c d e f=>aP (DH a b c d e f)))::kFc12
theorem kFc13_ok:aJ aaZ kFc13:=(aA (lO VN) XI)
theorem DN (a b c d e f:Int):aH aaZ 38 [.agg ⟨[.int .i64 a,.int .i64 b,.int .i64 c,.int .i64 d,.int .i64 e,.int .i64 f]⟩] (cU (gQ a b c d e f)):=by
 refine aF bK kFc13_ok (t:=BP (fun p0 p1 p2 p3 p4=>some (.v (cU ((p0,p1,p2,p3,p4))))) a b c d e f) (by kernel_rfl) ?_;unfold gQ BP;repeat' first | (with_reducible refine aO (fun r:Int×Int×Int×Int×Int=>AV.v (cU (r))) ?_ ?_) | (with_reducible refine aT (fun r:Int×Int×Int×Int×Int=>AV.v (cU (r))) fun _=>?_) | rfl
end
namespace TA
def sm (f:Nat→Rat):Nat→Rat
 | 0=>0
 | n+1=>sm f n+f n
theorem eW {f g:Nat→Rat}:∀{n:Nat},(∀i,i<n→f i=g i)→sm f n=sm g n
 | 0,_=>rfl
 | n+1,h=>by
  unfold sm;rw [eW (fun i hi=>h i (by omega)),h n (by omega)]
theorem CO (f g:Nat→Rat):∀n,sm (fun i=>f i+g i) n=sm f n+sm g n
 | 0=>by unfold sm;grind
 | n+1=>by unfold sm;rw [CO f g n];grind
theorem CP (c:Rat) (f:Nat→Rat):∀n,sm (fun i=>c*f i) n=c*sm f n
 | 0=>by unfold sm;grind
 | n+1=>by unfold sm;rw [CP c f n];grind
theorem sm_sub (f g:Nat→Rat):∀n,sm (fun i=>f i-g i) n=sm f n-sm g n
 | 0=>by unfold sm;grind
 | n+1=>by unfold sm;rw [sm_sub f g n];grind
theorem ZR (f:Nat→Rat):∀n,sm f (n+1)=f 0+sm (fun i=>f (i+1)) n
 | 0=>by unfold sm;unfold sm;grind
 | n+1=>by
  rw [sm,ZR f n,sm];grind
theorem AT (f:Nat→Rat) (m:Nat):∀n,sm f (m+n)=sm f m+sm (fun i=>f (m+i)) n
 | 0=>by simp [sm];grind
 | n+1=>by
  rw [←Nat.add_assoc,sm,AT f m n,sm];grind
theorem sm_le {f g:Nat→Rat}:∀{n:Nat},(∀i,i<n→f i≤g i)→sm f n≤sm g n
 | 0,_=>by unfold sm;grind
 | n+1,h=>by
  unfold sm;have:=sm_le (f:=f) (g:=g) (n:=n) (fun i hi=>h i (by omega));have:=h n (by omega);grind
theorem sm_neg (f:Nat→Rat):∀n,sm (fun i=>-f i) n=-sm f n
 | 0=>by unfold sm;grind
 | n+1=>by unfold sm;rw [sm_neg f n];grind
theorem sm_abs {f g:Nat→Rat} {n:Nat} (h:∀i,i<n→-g i≤f i∧f i≤g i):-sm g n≤sm f n∧sm f n≤sm g n:=by
 refine ⟨?_,sm_le fun i hi=>(h i hi).2⟩;rw [←sm_neg];exact sm_le fun i hi=>(h i hi).1
theorem tri (G:Nat→Nat→Rat):∀N,sm (fun a=>sm (fun b=>G a b) (N+1-a)) (N+1)=sm (fun n=>sm (fun a=>G a (n-a)) (n+1)) (N+1)
 | 0=>by simp [sm]
 | N+1=>by
  have h1:sm (fun a=>sm (fun b=>G a b) (N+1+1-a)) (N+1)=sm (fun a=>sm (fun b=>G a b) (N+1-a)+G a (N+1-a)) (N+1):=
   eW fun a ha=>by
    have:N+1+1-a=(N+1-a)+1:=by omega
    rw [this,sm]
  rw [sm,h1,CO,tri G N];have h2:N+1+1-(N+1)=1:=by omega
  have h3:sm (fun b=>G (N+1) b) 1=G (N+1) 0:=by simp [sm];grind
  rw [h2,h3];conv=>rhs;rw [sm]
  have h4:sm (fun a=>G a (N+1-a)) (N+1+1)=sm (fun a=>G a (N+1-a)) (N+1)+G (N+1) 0:=by
   rw [sm];simp
  rw [h4];grind
theorem square (G:Nat→Nat→Rat) (N:Nat):sm (fun a=>sm (fun b=>G a b) (N+1)) (N+1)=sm (fun n=>sm (fun a=>G a (n-a)) (n+1)) (N+1)+sm (fun a=>sm (fun j=>G a (N+1-a+j)) a) (N+1):=by
 rw [←tri,←CO];refine eW fun a ha=>?_;have:=AT (fun b=>G a b) (N+1-a) a;rw [←this];congr 1;omega
def P:Nat→Rat→Rat
 | 0,_=>1
 | n+1,x=>P n x*x/((n:Rat)+1)
theorem pos (n:Nat):(0:Rat)<(n:Rat)+1:=by
 have:(0:Rat)≤(n:Rat):=by exact_mod_cast afX n
 grind
theorem xW (n:Nat) (x:Rat):((n:Rat)+1)*P (n+1) x=x*P n x:=by
 have:=pos n;show ((n:Rat)+1)*(P n x*x/((n:Rat)+1))=x*P n x;grind
theorem cancel {k a b:Rat} (hk:0<k) (h:k*a=k*b):a=b:=by
 have h1:k*(a-b)=0:=by grind
 have h2:k≠0:=by grind
 grind
theorem binom (x y:Rat):∀n,P n (x+y)=sm (fun a=>P a x*P (n-a) y) (n+1)
 | 0=>by simp [sm,P];grind
 | n+1=>by
  have ih:=binom x y n;have hp:=pos n;have h1:((n:Rat)+1)*sm (fun a=>P a x*P (n+1-a) y) (n+1+1)=sm (fun a=>(a:Rat)*P a x*P (n+1-a) y) (n+1+1)+sm (fun a=>P a x*(((n+1-a:Nat):Rat)*P (n+1-a) y)) (n+1+1):=by
   rw [←CP,←CO];refine eW fun a ha=>?_;have:((n+1-a:Nat):Rat)=(n:Rat)+1-(a:Rat):=by
    have e:n+1-a+a=n+1:=by omega
    have:((n+1-a+a:Nat):Rat)=((n+1:Nat):Rat):=by rw [e]
    push_cast at this
    grind
   rw [this];grind
  have h2:sm (fun a=>(a:Rat)*P a x*P (n+1-a) y) (n+1+1)=x*sm (fun a=>P a x*P (n-a) y) (n+1):=by
   rw [ZR,←CP];have z:((0:Nat):Rat)=0:=rfl;have:sm (fun i=>((i+1:Nat):Rat)*P (i+1) x*P (n+1-(i+1)) y) (n+1)=sm (fun i=>x*(P i x*P (n-i) y)) (n+1):=eW fun i hi=>by
    have:=xW i x;have e:n+1-(i+1)=n-i:=by omega
    rw [e];push_cast
    grind
   rw [this,z];grind
  have h3:sm (fun a=>P a x*(((n+1-a:Nat):Rat)*P (n+1-a) y)) (n+1+1)=y*sm (fun a=>P a x*P (n-a) y) (n+1):=by
   rw [sm,←CP];have:sm (fun a=>P a x*(((n+1-a:Nat):Rat)*P (n+1-a) y)) (n+1)=sm (fun i=>y*(P i x*P (n-i) y)) (n+1):=eW fun i hi=>by
    have e:n+1-i=(n-i)+1:=by omega
    have:=xW (n-i) y;rw [e];push_cast
    grind
   rw [this];have z:((n+1-(n+1):Nat):Rat)=0:=by rw [Nat.sub_self];rfl
   rw [z];grind
  have h4:=xW n (x+y);rw [ih] at h4;refine cancel hp ?_;rw [h1,h2,h3,h4];generalize sm (fun a=>P a x*P (n-a) y) (n+1)=s;grind
theorem aB {a b A B:Rat} (h1:-A≤a) (h2:a≤A) (h3:-B≤b) (h4:b≤B):-(A*B)≤a*b∧a*b≤A*B:=by
 have q1:0≤(A-a)*(B+b):=aaQ (by grind) (by grind);have q2:0≤(A+a)*(B-b):=aaQ (by grind) (by grind);have q3:0≤(A-a)*(B-b):=aaQ (by grind) (by grind);have q4:0≤(A+a)*(B+b):=aaQ (by grind) (by grind);constructor<;>grind
theorem UG {x X:Rat} (h1:-X≤x) (h2:x≤X):∀n,-P n X≤P n x∧P n x≤P n X
 | 0=>by unfold P;grind
 | n+1=>by
  have ih:=UG h1 h2 n;have hp:=pos n;have hm:=aB ih.1 ih.2 h1 h2;have e1:=xW n x;have e2:=xW n X;have hq:0≤((n:Rat)+1)*(P (n+1) X-P (n+1) x):=by grind
  have hr:0≤((n:Rat)+1)*(P (n+1) X+P (n+1) x):=by grind
  have c:∀z:Rat,0≤((n:Rat)+1)*z→0≤z:=fun z hz=>by
   rcases (abX:0≤z∨z≤0) with h | h
   ·exact h
   ·have:0≤((n:Rat)+1)*(-z):=aaQ (by grind) (by grind);have:((n:Rat)+1)*z=0:=by grind
    have:z=0:=cancel hp (by grind);grind
  have:=c _ hq;have:=c _ hr;grind
theorem GI {X:Rat} (h:0≤X) (n:Nat):0≤P n X:=by
 have:=UG (x:=X) (X:=X) (by grind) (by grind) n;grind
def sc (n:Nat):Rat:=if n%4=0 then 1 else if n%4=2 then -1 else 0
def ss (n:Nat):Rat:=if n%4=1 then 1 else if n%4=3 then -1 else 0
theorem signs (a b:Nat):sc (a+b)=sc a*sc b-ss a*ss b∧ss (a+b)=ss a*sc b+sc a*ss b:=by
 have h0:∀i j:Fin 4,(sc (i.val+j.val)=sc i.val*sc j.val-ss i.val*ss j.val∧ss (i.val+j.val)=ss i.val*sc j.val+sc i.val*ss j.val):=by decide+kernel
 have h:∀i j:Nat,i<4→j<4→(sc (i+j)=sc i*sc j-ss i*ss j∧ss (i+j)=ss i*sc j+sc i*ss j):=fun i j hi hj=>h0 ⟨i,hi⟩ ⟨j,hj⟩;have e:∀n:Nat,sc n=sc (n%4)∧ss n=ss (n%4):=fun n=>by unfold sc ss;simp
 have k:=h (a%4) (b%4) (by omega) (by omega);rw [(e (a+b)).1,(e (a+b)).2,(e a).1,(e a).2,(e b).1,(e b).2];have m:(a+b)%4=(a%4+b%4)%4:=by omega
 rw [m,←(e (a%4+b%4)).1,←(e (a%4+b%4)).2];exact k
theorem AS (n:Nat):(-1≤sc n∧sc n≤1)∧(-1≤ss n∧ss n≤1):=by
 unfold sc ss;repeat' split
 all_goals grind
def Cn (N:Nat) (x:Rat):Rat:=sm (fun k=>sc k*P k x) (N+1)
def Sn (N:Nat) (x:Rat):Rat:=sm (fun k=>ss k*P k x) (N+1)
def En (N:Nat) (x:Rat):Rat:=sm (fun k=>P k x) (N+1)
theorem prod (g:Nat→Rat) (N:Nat) (x y:Rat):sm (fun a=>sm (fun b=>g (a+b)*(P a x*P b y)) (N+1)) (N+1)=sm (fun n=>g n*P n (x+y)) (N+1)+sm (fun a=>sm (fun j=>g (N+1+j)*(P a x*P (N+1-a+j) y)) a) (N+1):=by
 rw [square (fun a b=>g (a+b)*(P a x*P b y)) N];congr 1
 ·refine eW fun n hn=>?_;rw [binom,←CP];refine eW fun a ha=>?_;have:a+(n-a)=n:=by omega
  rw [this]
 ·refine eW fun a ha=>eW fun j hj=>?_;have:a+(N+1-a+j)=N+1+j:=by omega
  rw [this]
theorem wX (f h:Nat→Rat) (m:Nat):∀n,sm f n*sm h m=sm (fun a=>sm (fun b=>f a*h b) m) n
 | 0=>by unfold sm;grind
 | n+1=>by
  rw [sm,sm,←wX f h m n,CP];grind
def rest (N:Nat) (X:Rat):Rat:=En N X*En N X-En N (X+X)
theorem rest_eq (N:Nat) (X:Rat):rest N X=sm (fun a=>sm (fun j=>P a X*P (N+1-a+j) X) a) (N+1):=by
 have h:=prod (fun _=>1) N X X;have e:sm (fun a=>sm (fun b=>(1:Rat)*(P a X*P b X)) (N+1)) (N+1)=En N X*En N X:=by
  unfold En;rw [wX];exact eW fun a _=>eW fun b _=>by grind
 have e2:sm (fun n=>(1:Rat)*P n (X+X)) (N+1)=En N (X+X):=eW fun n _=>by grind
 have e3:sm (fun a=>sm (fun j=>(1:Rat)*(P a X*P (N+1-a+j) X)) a) (N+1)=sm (fun a=>sm (fun j=>P a X*P (N+1-a+j) X) a) (N+1):=eW fun a _=>eW fun j _=>by grind
 rw [e,e2,e3] at h;unfold rest;grind
theorem aA0 (g:Nat→Rat) (hg:∀n,-1≤g n∧g n≤1) (N:Nat) {x y X:Rat} (h1:-X≤x) (h2:x≤X) (h3:-X≤y) (h4:y≤X):
  -rest N X≤sm (fun a=>sm (fun j=>g (N+1+j)*(P a x*P (N+1-a+j) y)) a) (N+1)∧sm (fun a=>sm (fun j=>g (N+1+j)*(P a x*P (N+1-a+j) y)) a) (N+1)≤rest N X:=by
 rw [rest_eq];refine sm_abs fun a _=>sm_abs fun j _=>?_;have p:=UG h1 h2 a;have q:=UG h3 h4 (N+1-a+j);have m:=aB p.1 p.2 q.1 q.2;have s:=hg (N+1+j);have:=aB s.1 s.2 m.1 m.2;grind
theorem addition (N:Nat) {x y X:Rat} (h1:-X≤x) (h2:x≤X) (h3:-X≤y) (h4:y≤X):
  (-rest N X≤Cn N x*Cn N y-Sn N x*Sn N y-Cn N (x+y)∧Cn N x*Cn N y-Sn N x*Sn N y-Cn N (x+y)≤rest N X)∧
  (-rest N X≤Sn N x*Cn N y+Cn N x*Sn N y-Sn N (x+y)∧Sn N x*Cn N y+Cn N x*Sn N y-Sn N (x+y)≤rest N X):=by
 have hc:=prod sc N x y;have hs:=prod ss N x y;have ec:sm (fun a=>sm (fun b=>sc (a+b)*(P a x*P b y)) (N+1)) (N+1)=Cn N x*Cn N y-Sn N x*Sn N y:=by
  unfold Cn Sn;rw [wX,wX,←sm_sub];refine eW fun a _=>?_;rw [←sm_sub];refine eW fun b _=>?_;rw [(signs a b).1];grind
 have es:sm (fun a=>sm (fun b=>ss (a+b)*(P a x*P b y)) (N+1)) (N+1)=Sn N x*Cn N y+Cn N x*Sn N y:=by
  unfold Cn Sn;rw [wX,wX,←CO];refine eW fun a _=>?_;rw [←CO];refine eW fun b _=>?_;rw [(signs a b).2];grind
 have tc:=aA0 sc (fun n=>(AS n).1) N h1 h2 h3 h4;have ts:=aA0 ss (fun n=>(AS n).2) N h1 h2 h3 h4;rw [ec] at hc;rw [es] at hs;have fc:sm (fun n=>sc n*P n (x+y)) (N+1)=Cn N (x+y):=rfl;have fs:sm (fun n=>ss n*P n (x+y)) (N+1)=Sn N (x+y):=rfl;rw [fc] at hc;rw [fs] at hs;constructor<;>constructor<;>grind
end TA
section
namespace TA
open SM
theorem sS_eq (x:Rat):x*(1-hR 1 (x*x) 10 0)=Sn 21 x:=by
 simp [hR,Sn,sm,ss,P];grind
theorem sC_eq (x:Rat):1-hR 0 (x*x) 10 0=Cn 20 x:=by
 simp [hR,Cn,sm,sc,P];grind
theorem tail_of (g:Nat→Rat) (hg:∀n,-1≤g n∧g n≤1) (m n:Nat) {x X:Rat} (h1:-X≤x) (h2:x≤X):
  -(En (m+n) X-En m X)≤sm (fun k=>g k*P k x) (m+n+1)-sm (fun k=>g k*P k x) (m+1)∧sm (fun k=>g k*P k x) (m+n+1)-sm (fun k=>g k*P k x) (m+1)≤En (m+n) X-En m X:=by
 have e:m+n+1=m+1+n:=by omega
 have s1:=AT (fun k=>g k*P k x) (m+1) n;have s2:=AT (fun k=>P k X) (m+1) n;have b:=sm_abs (f:=fun i=>g (m+1+i)*P (m+1+i) x) (g:=fun i=>P (m+1+i) X) (n:=n) (fun i _=>by
  have p:=UG h1 h2 (m+1+i);have:=aB (hg (m+1+i)).1 (hg (m+1+i)).2 p.1 p.2;grind)
 unfold En;rw [e,s1,s2];grind
theorem P_neg (x:Rat):∀n,P n (-x)=if n%2=0 then P n x else-P n x
 | 0=>by simp [P]
 | n+1=>by
  have ih:=P_neg x n;show P n (-x)*(-x)/((n:Rat)+1)=if (n+1)%2=0 then P n x*x/((n:Rat)+1) else -(P n x*x/((n:Rat)+1))
  rw [ih];by_cases h:n%2=0
  ·have:¬(n+1)%2=0:=by omega
   rw [if_pos h,if_neg this];grind
  ·have:(n+1)%2=0:=by omega
   rw [if_neg h,if_pos this];grind
theorem PE (N:Nat) (x:Rat):Cn N (-x)=Cn N x:=by
 refine eW fun k _=>?_;rw [P_neg];unfold sc;repeat' split
 all_goals first | grind | omega
theorem PJ (N:Nat) (x:Rat):Sn N (-x)=-Sn N x:=by
 unfold Sn;rw [←sm_neg];refine eW fun k _=>?_;rw [P_neg];unfold ss;repeat' split
 all_goals first | grind | omega
theorem AP:rest 100 (32/5)≤1/2^150:=by decide+kernel
theorem tail_21:En 100 (4/5)-En 21 (4/5)≤1/2^70:=by decide+kernel
theorem tail_20:En 100 (4/5)-En 20 (4/5)≤1/2^70:=by decide+kernel
theorem at_turn:(-(1/2^90)≤Cn 100 (th*21600000)-1∧Cn 100 (th*21600000)-1≤1/2^90)∧(-(1/2^90)≤Sn 100 (th*21600000)∧Sn 100 (th*21600000)≤1/2^90):=by decide+kernel
theorem at_quarter:(-(1/2^90)≤Cn 100 (th*5400000)∧Cn 100 (th*5400000)≤1/2^90)∧(-(1/2^90)≤Sn 100 (th*5400000)-1∧Sn 100 (th*5400000)-1≤1/2^90):=by decide+kernel
theorem Cn_zero:Cn 100 0=1:=by decide+kernel
theorem SN {x:Rat} (h1:-(32/5)≤x) (h2:x≤32/5):(-2≤Cn 100 x∧Cn 100 x≤2)∧(-2≤Sn 100 x∧Sn 100 x≤2):=by
 have a:=(addition 100 (x:=x) (y:=-x) (X:=32/5) h1 h2 (by grind) (by grind)).1;rw [PE,PJ,show x+-x=0 by grind,Cn_zero] at a;have r:=AP;have s1:0≤Cn 100 x*Cn 100 x:=by have:=mul_self_nonneg' (Cn 100 x);exact this
 have s2:0≤Sn 100 x*Sn 100 x:=by have:=mul_self_nonneg' (Sn 100 x);exact this
 have k:∀z:Rat,z*z≤2→-2≤z∧z≤2:=fun z hz=>by
  constructor
  ·rcases (abX:-2≤z∨z≤-2) with h | h
   ·exact h
   ·have:0≤(-2-z)*(-2-z):=mul_self_nonneg' _;have:0≤(-2-z)*(2-z):=aaQ (by grind) (by grind);grind
  ·rcases (abX:z≤2∨2≤z) with h | h
   ·exact h
   ·have:0≤(z-2)*(z+2):=aaQ (by grind) (by grind);grind
 exact ⟨k _ (by grind),k _ (by grind)⟩
where
 mul_self_nonneg' (z:Rat):0≤z*z:=by
  rcases (abX:0≤z∨z≤0) with h | h
  ·exact aaQ h h
  ·have:=aaQ (a:=-z) (b:=-z) (by grind) (by grind)
   grind
end TA
end
section
namespace TA
open SM
def rd (n:Int):Int:=(n+10800000)%21600000-10800000
def jO (n:Int):Rat:=Sn 100 (th*(rd n:Rat))
def lD (n:Int):Rat:=Cn 100 (th*(rd n:Rat))
def eta:Rat:=1/2^85
theorem th_bd:0≤th∧th*10800000≤16/5:=by decide+kernel
theorem rd_bd (n:Int):-(16/5)≤th*(rd n:Rat)∧th*(rd n:Rat)≤16/5:=by
 have h1:-10800000≤rd n∧rd n≤10800000:=by unfold rd;omega
 have h2:((-10800000:Int):Rat)≤(rd n:Rat):=ahQ.2 h1.1;have h3:(rd n:Rat)≤((10800000:Int):Rat):=ahQ.2 h1.2;have e2:((-10800000:Int):Rat)=-10800000:=rfl;have e3:((10800000:Int):Rat)=10800000:=rfl;rw [e2] at h2;rw [e3] at h3;have t:=th_bd;have m1:0≤th*(10800000-(rd n:Rat)):=aaQ t.1 (by grind);have m2:0≤th*((rd n:Rat)+10800000):=aaQ t.1 (by grind);constructor<;>grind
theorem bound2 (n:Int):(-2≤lD n∧lD n≤2)∧(-2≤jO n∧jO n≤2):=by
 have:=rd_bd n;exact SN (by grind) (by grind)
theorem gU {z c k:Rat} (hz:-2≤z∧z≤2) (hc:-k≤c∧c≤k):-(2*k)≤z*c∧z*c≤2*k:=aB hz.1 hz.2 hc.1 hc.2
theorem turned {x t:Rat} (ht:t=th*21600000∨t=-(th*21600000)) (h1:-(32/5)≤x) (h2:x≤32/5):
  (-(1/2^87)≤Cn 100 (x+t)-Cn 100 x∧Cn 100 (x+t)-Cn 100 x≤1/2^87)∧(-(1/2^87)≤Sn 100 (x+t)-Sn 100 x∧Sn 100 (x+t)-Sn 100 x≤1/2^87):=by
 have q:=th_bd;have hb:-(32/5)≤t∧t≤32/5:=by rcases ht with rfl | rfl<;>constructor<;>grind
 have a:=addition 100 (x:=x) (y:=t) (X:=32/5) h1 h2 hb.1 hb.2;have r:=AP;have w:=at_turn;have hc:-(1/2^90)≤Cn 100 t-1∧Cn 100 t-1≤1/2^90:=by
  rcases ht with rfl | rfl
  ·exact w.1
  ·rw [PE];exact w.1
 have hs:-(1/2^90)≤Sn 100 t∧Sn 100 t≤1/2^90:=by
  rcases ht with rfl | rfl
  ·exact w.2
  ·rw [PJ];grind
 have p:=SN h1 h2;have m1:=gU p.1 hc;have m2:=gU p.2 hs;have m3:=gU p.2 hc;have m4:=gU p.1 hs;refine ⟨⟨?_,?_⟩,?_,?_⟩<;>grind
theorem addQ (m n:Int):(-eta≤lD m*lD n-jO m*jO n-lD (m+n)∧lD m*lD n-jO m*jO n-lD (m+n)≤eta)∧
  (-eta≤jO m*lD n+lD m*jO n-jO (m+n)∧jO m*lD n+lD m*jO n-jO (m+n)≤eta):=by
 have hx:=rd_bd m;have hy:=rd_bd n;have a:=addition 100 (x:=th*(rd m:Rat)) (y:=th*(rd n:Rat)) (X:=32/5) (by grind) (by grind) (by grind) (by grind);have r:=AP;have d:rd (m+n)=rd m+rd n∨rd (m+n)=rd m+rd n+21600000∨rd (m+n)=rd m+rd n-21600000:=by unfold rd;omega
 have s0:-(32/5)≤th*(rd m:Rat)+th*(rd n:Rat)∧th*(rd m:Rat)+th*(rd n:Rat)≤32/5:=by constructor<;>grind
 have z21:((21600000:Int):Rat)=21600000:=rfl;unfold lD jO eta;rcases d with e | e | e
 ·have e1:th*(rd (m+n):Rat)=th*(rd m:Rat)+th*(rd n:Rat):=by rw [e,acQ];grind
  rw [e1];grind
 ·have e1:th*(rd (m+n):Rat)=(th*(rd m:Rat)+th*(rd n:Rat))+th*21600000:=by rw [e,acQ,acQ,z21];grind
  have w:=turned (x:=th*(rd m:Rat)+th*(rd n:Rat)) (.inl rfl) s0.1 s0.2;rw [←e1] at w;grind
 ·have e1:th*(rd (m+n):Rat)=(th*(rd m:Rat)+th*(rd n:Rat))+-(th*21600000):=by rw [e,abZ,acQ,z21];grind
  have w:=turned (x:=th*(rd m:Rat)+th*(rd n:Rat)) (.inr rfl) s0.1 s0.2;rw [←e1] at w;grind
theorem ZC:(-(1/2^90)≤lD 5400000∧lD 5400000≤1/2^90)∧(-(1/2^90)≤jO 5400000-1∧jO 5400000-1≤1/2^90):=by
 have e:(rd 5400000:Rat)=5400000:=by decide+kernel
 unfold lD jO;rw [e];exact at_quarter
theorem halfQ:(-(1/2^83)≤lD 10800000+1∧lD 10800000+1≤1/2^83)∧(-(1/2^83)≤jO 10800000∧jO 10800000≤1/2^83):=by
 have a:=addQ 5400000 5400000;have q:=ZC;rw [show (5400000:Int)+5400000=10800000 by rfl] at a;unfold eta at a;have m1:=aB q.1.1 q.1.2 q.1.1 q.1.2;have m2:=aB q.2.1 q.2.2 q.2.1 q.2.2;have m3:=aB q.1.1 q.1.2 q.2.1 q.2.2;refine ⟨⟨?_,?_⟩,?_,?_⟩<;>grind
theorem negQ (n:Int):(-(1/2^82)≤lD (-n)-lD n∧lD (-n)-lD n≤1/2^82)∧(-(1/2^82)≤jO (-n)+jO n∧jO (-n)+jO n≤1/2^82):=by
 by_cases h:rd n=-10800000
 ·have h2:rd (-n)=-10800000:=by unfold rd at*;omega
  have h3:rd 10800000=-10800000:=by decide
  have q:=halfQ;unfold lD jO at*;rw [h,h2];rw [h3] at q;refine ⟨⟨?_,?_⟩,?_,?_⟩<;>grind
 ·have h2:rd (-n)=-rd n:=by unfold rd at*;omega
  unfold lD jO;rw [h2,afQ,show th*-(rd n:Rat)=-(th*(rd n:Rat)) by grind,PE,PJ];refine ⟨⟨?_,?_⟩,?_,?_⟩<;>grind
theorem coQ (n:Int):(-(1/2^80)≤jO (5400000-n)-lD n∧jO (5400000-n)-lD n≤1/2^80)∧(-(1/2^80)≤lD (5400000-n)-jO n∧lD (5400000-n)-jO n≤1/2^80):=by
 have a:=addQ 5400000 (-n);have g:=negQ n;have q:=ZC;have b:=bound2 (-n);rw [show (5400000:Int)+-n=5400000-n by omega] at a;unfold eta at a;have m1:=gU b.1 q.1;have m2:=gU b.1 q.2;have m3:=gU b.2 q.1;have m4:=gU b.2 q.2;refine ⟨⟨?_,?_⟩,?_,?_⟩<;>grind
theorem OT (m n N:Nat) (hN:m+n=N) {x X:Rat} (h1:-X≤x) (h2:x≤X) {d:Rat} (hd:En N X-En m X≤d):-d≤Sn N x-Sn m x∧Sn N x-Sn m x≤d:=by
 subst hN;have t:=tail_of ss (fun n=>(AS n).2) m n h1 h2;unfold Sn;exact ⟨by grind,by grind⟩
theorem ZZ (m n N:Nat) (hN:m+n=N) {x X:Rat} (h1:-X≤x) (h2:x≤X) {d:Rat} (hd:En N X-En m X≤d):-d≤Cn N x-Cn m x∧Cn N x-Cn m x≤d:=by
 subst hN;have t:=tail_of sc (fun n=>(AS n).1) m n h1 h2;unfold Cn;exact ⟨by grind,by grind⟩
theorem near_T (n:Nat) (h:n≤5400000):-(1/2^65)≤jO (n:Int)-T n∧jO (n:Int)-T n≤1/2^65:=by
 have key:∀k:Nat,k≤2700000→(-(1/2^70)≤jO (k:Int)-tS k∧jO (k:Int)-tS k≤1/2^70)∧(-(1/2^70)≤lD (k:Int)-tC k∧lD (k:Int)-tC k≤1/2^70):=fun k hk=>by
  have e:rd (k:Int)=(k:Int):=by unfold rd;omega
  have ek:((k:Int):Rat)=(k:Rat):=rfl;have hx:xR k=th*(k:Rat):=rfl;have b0:(0:Rat)≤(k:Rat):=by exact_mod_cast afX k
  have b1:(k:Rat)≤((2700000:Nat):Rat):=by exact_mod_cast hk
  have z:((2700000:Nat):Rat)=2700000:=rfl;rw [z] at b1;have t:th*2700000≤4/5:=by decide+kernel
  have t0:=th_bd.1;have m0:0≤th*(k:Rat):=aaQ t0 b0;have m1:0≤th*(2700000-(k:Rat)):=aaQ t0 (by grind);have s:=OT 21 79 100 rfl (x:=th*(k:Rat)) (X:=4/5) (by grind) (by grind) tail_21;have c:=ZZ 20 80 100 rfl (x:=th*(k:Rat)) (X:=4/5) (by grind) (by grind) tail_20;have es:tS k=Sn 21 (th*(k:Rat)):=by unfold tS;rw [hx,sS_eq]
  have ec:tC k=Cn 20 (th*(k:Rat)):=by unfold tC;rw [hx,sC_eq]
  unfold jO lD;rw [e,ek,es,ec];exact ⟨s,c⟩
 have w0:∀{a b:Rat},(-(1/2^70)≤a-b∧a-b≤1/2^70)→-(1/2^65)≤a-b∧a-b≤1/2^65:=fun h=>⟨by grind,by grind⟩;have w1:∀{a b c:Rat},(-(1/2^70)≤a-b∧a-b≤1/2^70)→(-(1/2^80)≤c-a∧c-a≤1/2^80)→-(1/2^65)≤c-b∧c-b≤1/2^65:=fun h g=>⟨by grind,by grind⟩;by_cases hk:n≤2700000
 ·have e:T n=tS n:=by unfold T;rw [if_pos hk]
  rw [e];exact w0 (key n hk).1
 ·have e:T n=tC (5400000-n):=by unfold T;rw [if_neg hk]
  have k:=(key (5400000-n) (by omega)).2;have c:=(coQ ((5400000-n:Nat):Int)).1;have e2:(5400000:Int)-((5400000-n:Nat):Int)=(n:Int):=by omega
  rw [e2] at c;rw [e];exact w1 k c
end TA
end
section
namespace TB
open SM TA
def pw (n:Nat):Rat:=1/((2^n:Nat):Rat)
def piN:Nat:=1361252757398622614210308031816944563295789684324126529685410669750463032901918149778521655839743605959674928731089823146989365642170368889113133881887576594843707879128282940504223844271883137412851325937349614932712174980589351087954220001438807934692205467635764783614178486695651005420606763724274834328528948581018923114502452792556190226489351253372057085896525025124384269588334446152912592611219108414341446061058571548015383485157918025243662716944804850517630198168356061990570741769777839903697453293271042854722388163096590410892661043239943502317395869422906788611909947251132614021423401616192386183657163344982368202759587978585651728916046104554464074683541188811774354136770053165430412068306334717002271937927145831956506959951963934297900526159389632913
def tb:Rat:=(piN:Rat)*pw 2560/10800000
def u0:Rat:=pw 2500
def e0:Rat:=1048576*u0
def cn (x:Rat):Rat:=Cn 652 x
def sn (x:Rat):Rat:=Sn 652 x
theorem rest_B:rest 652 (32/5)≤u0:=by decide+kernel
theorem quart_B:(-u0≤Cn 652 (tb*5400000)∧Cn 652 (tb*5400000)≤u0)∧-u0≤Sn 652 (tb*5400000)-1∧Sn 652 (tb*5400000)-1≤u0:=by decide+kernel
theorem third_B:-u0≤Sn 652 (tb*1800000)-1/2∧Sn 652 (tb*1800000)-1/2≤u0:=by decide+kernel
theorem zero_B:Cn 652 0=1∧Sn 652 0=0:=by decide+kernel
theorem jY:1/3437750≤tb∧tb≤1/3437740:=by decide+kernel
theorem aY:0<u0∧u0≤1/2^200:=by decide+kernel
theorem dY:0<e0∧e0≤1/2^200:=by decide+kernel
end TB
end
section
namespace TB
open SM TA
def Cl (e a b:Rat):Prop:=-e≤a-b∧a-b≤e
theorem Cl.symm {e a b:Rat} (h:Cl e a b):Cl e b a:=by unfold Cl at*;constructor<;>grind
theorem Cl.trans {e f a b c:Rat} (h:Cl e a b) (k:Cl f b c):Cl (e+f) a c:=by unfold Cl at*;constructor<;>grind
theorem Cl.wide {e f a b:Rat} (h:Cl e a b) (k:e≤f):Cl f a b:=by unfold Cl at*;constructor<;>grind
theorem Cl.refl {e:Rat} (a:Rat) (h:0≤e):Cl e a a:=by unfold Cl;constructor<;>grind
theorem Cl.add {e f a b c d:Rat} (h:Cl e a b) (k:Cl f c d):Cl (e+f) (a+c) (b+d):=by unfold Cl at*;constructor<;>grind
theorem Cl.sub {e f a b c d:Rat} (h:Cl e a b) (k:Cl f c d):Cl (e+f) (a-c) (b-d):=by unfold Cl at*;constructor<;>grind
theorem Cl.neg {e a b:Rat} (h:Cl e a b):Cl e (-a) (-b):=by unfold Cl at*;constructor<;>grind
theorem Cl.mul {e f a b c d:Rat} (A B:Rat) (h:Cl e a b) (k:Cl f c d) (hc:-A≤c∧c≤A) (hb:-B≤b∧b≤B):Cl (A*e+B*f) (a*c) (b*d):=by
 unfold Cl at*;have m:=aB h.1 h.2 hc.1 hc.2;have n:=aB hb.1 hb.2 k.1 k.2;have x:a*c-b*d=(a-b)*c+b*(c-d):=by grind
 rw [x];generalize (a-b)*c=p at*;generalize b*(c-d)=q at*;constructor<;>grind
theorem fC (z:Rat):0≤z*z:=by
 rcases (abX:0≤z∨z≤0) with h | h
 ·exact aaQ h h
 ·have:=aaQ (a:=-z) (b:=-z) (by grind) (by grind);grind
theorem QF (x:Rat):cn (-x)=cn x:=PE 652 x
theorem TT (x:Rat):sn (-x)=-sn x:=PJ 652 x
theorem cn_0:cn 0=1:=zero_B.1
theorem sn_0:sn 0=0:=zero_B.2
theorem add {x y:Rat} (hx:-(32/5)≤x∧x≤32/5) (hy:-(32/5)≤y∧y≤32/5):Cl u0 (cn x*cn y-sn x*sn y) (cn (x+y))∧Cl u0 (sn x*cn y+cn x*sn y) (sn (x+y)):=by
 have a:=addition 652 (X:=32/5) hx.1 hx.2 hy.1 hy.2;have r:=rest_B;unfold Cl cn sn;generalize rest 652 (32/5)=R at*;generalize Cn 652 x*Cn 652 y-Sn 652 x*Sn 652 y=A at*;generalize Sn 652 x*Cn 652 y+Cn 652 x*Sn 652 y=B at*;generalize Cn 652 (x+y)=A' at*;generalize Sn 652 (x+y)=B' at*;refine ⟨⟨?_,?_⟩,?_,?_⟩<;>grind
theorem yW {z:Rat} (hz:z*z≤2):-2≤z∧z≤2:=by
 constructor
 ·rcases (abX:-2≤z∨z≤-2) with h | h
  ·exact h
  ·have:=fC (-2-z);have:0≤(-2-z)*(2-z):=aaQ (by grind) (by grind);grind
 ·rcases (abX:z≤2∨2≤z) with h | h
  ·exact h
  ·have:=fC (z-2);have:0≤(z-2)*(z+2):=aaQ (by grind) (by grind);grind
theorem bd {x:Rat} (h:-(32/5)≤x∧x≤32/5):(-2≤cn x∧cn x≤2)∧(-2≤sn x∧sn x≤2):=by
 have a:=(add h (y:=-x) (by grind)).1;rw [QF,TT,show x+-x=0 by grind,cn_0] at a;have s1:=fC (cn x);have s2:=fC (sn x);have u:=aY;unfold Cl at a;generalize cn x=c at*;generalize sn x=s at*;exact ⟨yW (by grind),yW (by grind)⟩
theorem FX {z e:Rat} (he:0≤e) (hz:z*z≤1+e):-(1+e)≤z∧z≤1+e:=by
 constructor
 ·rcases (abX:-(1+e)≤z∨z≤-(1+e)) with h | h
  ·exact h
  ·have:=aaQ (show 0≤-(1+e)-z by grind) (show 0≤-1-z by grind);have:=aaQ he (show 0≤-1-z by grind);grind
 ·rcases (abX:z≤1+e∨1+e≤z) with h | h
  ·exact h
  ·have:=aaQ (show 0≤z-(1+e) by grind) (show 0≤z-1 by grind);have:=aaQ he (show 0≤z-1 by grind);grind
theorem quart:Cl u0 (cn (tb*5400000)) 0∧Cl u0 (sn (tb*5400000)) 1:=by
 have q:=quart_B;unfold Cl cn sn;generalize Cn 652 (tb*5400000)=c at*;generalize Sn 652 (tb*5400000)=s at*;refine ⟨⟨?_,?_⟩,?_,?_⟩<;>grind
theorem half:Cl (16*u0) (cn (tb*10800000)) (-1)∧Cl (16*u0) (sn (tb*10800000)) 0:=by
 have q:=quart;have t:=jY;have a:=add (x:=tb*5400000) (y:=tb*5400000) (by grind) (by grind);rw [show tb*5400000+tb*5400000=tb*10800000 by grind] at a;have m1:=Cl.mul 2 2 q.1 q.1 (by unfold Cl at q;have:=aY;grind) (by grind);have m2:=Cl.mul 2 2 q.2 q.2 (by unfold Cl at q;have:=aY;grind) (by grind);have m3:=Cl.mul 2 2 q.2 q.1 (by unfold Cl at q;have:=aY;grind) (by grind);have m4:=Cl.mul 2 2 q.1 q.2 (by unfold Cl at q;have:=aY;grind) (by grind);unfold Cl at*;generalize cn (tb*5400000)*cn (tb*5400000)=p1 at*;generalize sn (tb*5400000)*sn (tb*5400000)=p2 at*;generalize sn (tb*5400000)*cn (tb*5400000)=p3 at*;generalize cn (tb*5400000)*sn (tb*5400000)=p4 at*;generalize cn (tb*10800000)=c at*;generalize sn (tb*10800000)=s at*;refine ⟨⟨?_,?_⟩,?_,?_⟩<;>grind
theorem whole:Cl (256*u0) (cn (tb*21600000)) 1∧Cl (256*u0) (sn (tb*21600000)) 0:=by
 have q:=half;have t:=jY;have u:=aY;have a:=add (x:=tb*10800000) (y:=tb*10800000) (by grind) (by grind);rw [show tb*10800000+tb*10800000=tb*21600000 by grind] at a;have m1:=Cl.mul 2 2 q.1 q.1 (by unfold Cl at q;grind) (by grind);have m2:=Cl.mul 2 2 q.2 q.2 (by unfold Cl at q;grind) (by grind);have m3:=Cl.mul 2 2 q.2 q.1 (by unfold Cl at q;grind) (by grind);have m4:=Cl.mul 2 2 q.1 q.2 (by unfold Cl at q;grind) (by grind);unfold Cl at*;generalize cn (tb*10800000)*cn (tb*10800000)=p1 at*;generalize sn (tb*10800000)*sn (tb*10800000)=p2 at*;generalize sn (tb*10800000)*cn (tb*10800000)=p3 at*;generalize cn (tb*10800000)*sn (tb*10800000)=p4 at*;generalize cn (tb*21600000)=c at*;generalize sn (tb*21600000)=s at*;refine ⟨⟨?_,?_⟩,?_,?_⟩<;>grind
theorem shift {x t:Rat} (ht:t=tb*21600000∨t=-(tb*21600000)) (hx:-(32/5)≤x∧x≤32/5):Cl (1200*u0) (cn (x+t)) (cn x)∧Cl (1200*u0) (sn (x+t)) (sn x):=by
 have w:=whole;have q:=jY;have u:=aY;have c1:Cl (256*u0) (cn t) 1:=by
  rcases ht with rfl | rfl
  ·exact w.1
  ·rw [QF];exact w.1
 have s1:Cl (256*u0) (sn t) 0:=by
  rcases ht with rfl | rfl
  ·exact w.2
  ·rw [TT];have:=w.2.neg;rwa [show -(0:Rat)=0 by grind] at this
 have a:=add hx (y:=t) (by rcases ht with rfl | rfl<;>constructor<;>grind);have b:=bd hx;have m1:=aB b.1.1 b.1.2 c1.1 c1.2;have m2:=aB b.2.1 b.2.2 s1.1 s1.2;have m3:=aB b.2.1 b.2.2 c1.1 c1.2;have m4:=aB b.1.1 b.1.2 s1.1 s1.2;unfold Cl at a ⊢;generalize cn (x+t)=X at*;generalize sn (x+t)=Y at*;generalize cn x=c at*;generalize sn x=s at*;generalize cn t=c' at*;generalize sn t=s' at*;clear b c1 s1 w;refine ⟨⟨?_,?_⟩,?_,?_⟩<;>grind
def tm (q:Rat):Int:=((q+10800000)/21600000).floor
def jB (q:Rat):Rat:=q-21600000*(tm q:Rat)
theorem qF (q:Rat):-10800000≤jB q∧jB q<10800000:=by
 have a:=Rat.floor_le ((q+10800000)/21600000);have b:=Rat.lt_floor_add_one ((q+10800000)/21600000);rw [acQ] at b;have z:((1:Int):Rat)=1:=rfl;rw [z] at b;unfold jB tm;generalize (((q+10800000)/21600000).floor:Rat)=f at*;constructor<;>grind
theorem rdq_turn (q:Rat) (m:Int):jB (q+21600000*(m:Rat))=jB q:=by
 unfold jB tm;have:(q+21600000*(m:Rat)+10800000)/21600000=(q+10800000)/21600000+(m:Rat):=by grind
 rw [this,Rat.floor_add_intCast,acQ];grind
theorem qG {q:Rat} (h0:-10800000≤q) (h1:q<10800000):jB q=q:=by
 have f:tm q=0:=by
  unfold tm;have a:0≤((q+10800000)/21600000).floor:=Rat.le_floor_iff.2 (by rw [show ((0:Int):Rat)=0 by rfl];grind);have b:((q+10800000)/21600000).floor<1:=Rat.floor_lt_iff.2 (by rw [show ((1:Int):Rat)=1 by rfl];grind);omega
 unfold jB;rw [f];have z:((0:Int):Rat)=0:=rfl;rw [z];grind
def co (q:Rat):Rat:=cn (tb*jB q)
def si (q:Rat):Rat:=sn (tb*jB q)
theorem eQ (q:Rat) (m:Int):co (q+21600000*(m:Rat))=co q∧si (q+21600000*(m:Rat))=si q:=by
 unfold co si;rw [rdq_turn];exact ⟨rfl,rfl⟩
theorem pF {p:Rat} {c d:Rat} (h0:-c≤p) (h1:p≤c) (hd:c/3437740≤d):-d≤tb*p∧tb*p≤d:=by
 have t:=jY;have hc:0≤c:=by grind
 have m1:=aaQ (show 0≤tb by grind) (show 0≤c-p by grind);have m2:=aaQ (show 0≤tb by grind) (show 0≤c+p by grind);have m3:=aaQ (show 0≤1/3437740-tb by grind) hc;generalize tb=t at*;constructor<;>grind
theorem rep {p:Rat} (h0:-21600000≤p) (h1:p≤21600000):Cl (1200*u0) (cn (tb*p)) (co p)∧Cl (1200*u0) (sn (tb*p)) (si p):=by
 have b:=qF p;have u:=aY;have x:=pF (d:=32/5) h0 h1 (by grind);have e:jB p=p-21600000*(tm p:Rat):=rfl;have lo:(-1:Int)≤tm p:=by
  rcases aiJ (tm p) (-1) with h | h
  ·have:(tm p:Rat)≤((-2:Int):Rat):=ahQ.2 (by omega);rw [show ((-2:Int):Rat)=-2 by rfl] at this;grind
  ·exact h
 have hi:tm p≤1:=by
  rcases aiJ 1 (tm p) with h | h
  ·have:((2:Int):Rat)≤(tm p:Rat):=ahQ.2 (by omega);rw [show ((2:Int):Rat)=2 by rfl] at this;grind
  ·exact h
 unfold co si;rcases (show tm p=0∨tm p=1∨tm p=-1 by omega) with h | h | h
 ·rw [e,h,show ((0:Int):Rat)=0 by rfl,show p-21600000*0=p by grind];exact ⟨Cl.refl _ (by grind),Cl.refl _ (by grind)⟩
 ·rw [e,h,show ((1:Int):Rat)=1 by rfl,show tb*(p-21600000*1)=tb*p+-(tb*21600000) by grind];have s:=shift (x:=tb*p) (.inr rfl) x;exact ⟨s.1.symm,s.2.symm⟩
 ·rw [e,h,show ((-1:Int):Rat)=-1 by rfl,show tb*(p-21600000*-1)=tb*p+tb*21600000 by grind];have s:=shift (x:=tb*p) (.inl rfl) x;exact ⟨s.1.symm,s.2.symm⟩
theorem wZ (p q:Rat):Cl (1300*u0) (co (p+q)) (co p*co q-si p*si q)∧Cl (1300*u0) (si (p+q)) (si p*co q+co p*si q):=by
 have a:=qF p;have b:=qF q;have u:=aY;have x:=pF (p:=jB p) (c:=10800000) (d:=32/5) (by grind) (by grind) (by grind);have y:=pF (p:=jB q) (c:=10800000) (d:=32/5) (by grind) (by grind) (by grind);have s:=add x y;have r:=rep (p:=jB p+jB q) (by grind) (by grind);rw [show tb*(jB p+jB q)=tb*jB p+tb*jB q by grind] at r;have e:jB p+jB q=(p+q)+21600000*((-tm p-tm q:Int):Rat):=by
  unfold jB;rw [abZ,afQ];grind
 have t:=eQ (p+q) (-tm p-tm q);rw [←e] at t;rw [t.1,t.2] at r;refine ⟨?_,?_⟩
 ·exact (r.1.symm.trans s.1.symm).wide (by grind)
 ·exact (r.2.symm.trans s.2.symm).wide (by grind)
theorem vK (q:Rat):Cl (1200*u0) (co (-q)) (co q)∧Cl (1200*u0) (si (-q)) (-si q):=by
 have b:=qF q;have r:=rep (p:=-jB q) (by grind) (by grind);rw [show tb*-jB q=-(tb*jB q) by grind,QF,TT] at r;have e:-jB q=-q+21600000*(tm q:Rat):=by unfold jB;grind
 have t:=eQ (-q) (tm q);rw [←e] at t;rw [t.1,t.2] at r;exact ⟨r.1.symm,r.2.symm⟩
theorem cL (q:Rat):(-2≤co q∧co q≤2)∧(-2≤si q∧si q≤2):=by
 have b:=qF q;exact bd (pF (c:=10800000) (by grind) (by grind) (by grind))
theorem co_0:co 0=1:=by
 unfold co;rw [qG (by grind) (by grind),show tb*0=0 by grind,cn_0]
theorem si_0:si 0=0:=by
 unfold si;rw [qG (by grind) (by grind),show tb*0=0 by grind,sn_0]
theorem nE (q:Rat):Cl (8192*u0) (co q*co q+si q*si q) 1:=by
 have a:=(wZ q (-q)).1;have n:=vK q;have b:=cL q;have m1:=Cl.mul 2 2 (Cl.refl (co q) (e:=0) (by grind)) n.1 (by have:=(cL (-q)).1;exact this) b.1;have m2:=Cl.mul 2 2 (Cl.refl (si q) (e:=0) (by grind)) n.2 (by have:=(cL (-q)).2;exact this) b.2;rw [show q+-q=0 by grind,co_0] at a;have u:=aY;unfold Cl at*;generalize co q*co (-q)=p1 at*;generalize si q*si (-q)=p2 at*;rw [show si q*-si q=-(si q*si q) by grind] at m2;generalize co q*co q=p3 at*;generalize si q*si q=p4 at*;constructor<;>grind
theorem LO (q:Rat):(-(1+8192*u0)≤co q∧co q≤1+8192*u0)∧(-(1+8192*u0)≤si q∧si q≤1+8192*u0):=by
 have n:=nE q;have s1:=fC (co q);have s2:=fC (si q);have u:=aY;unfold Cl at n;exact ⟨FX (by grind) (by grind),FX (by grind) (by grind)⟩
theorem qH (p q:Rat):Cl (8000*u0) (co (p-q)) (co p*co q+si p*si q)∧Cl (8000*u0) (si (p-q)) (si p*co q-co p*si q):=by
 have a:=wZ p (-q);have n:=vK q;have b:=cL p;have b':=cL (-q);have u:=aY;have m1:=Cl.mul 2 2 (Cl.refl (co p) (e:=0) (by grind)) n.1 b'.1 b.1;have m2:=Cl.mul 2 2 (Cl.refl (si p) (e:=0) (by grind)) n.2 b'.2 b.2;have m3:=Cl.mul 2 2 (Cl.refl (si p) (e:=0) (by grind)) n.1 b'.1 b.2;have m4:=Cl.mul 2 2 (Cl.refl (co p) (e:=0) (by grind)) n.2 b'.2 b.1;rw [show p+-q=p-q by grind] at a;constructor
 ·have:=a.1.trans (m1.sub m2);rw [show co p*co q-si p*-si q=co p*co q+si p*si q by grind] at this;exact this.wide (by grind)
 ·have:=a.2.trans (m3.add m4);rw [show si p*co q+co p*-si q=si p*co q-co p*si q by grind] at this;exact this.wide (by grind)
theorem KG:Cl u0 (co 5400000) 0∧Cl u0 (si 5400000) 1:=by
 unfold co si;rw [qG (by grind) (by grind)];exact quart
theorem yY (q:Rat):Cl (8192*u0) (si (5400000-q)) (co q)∧Cl (8192*u0) (co (5400000-q)) (si q):=by
 have a:=qH 5400000 q;have k:=KG;have b:=cL q;have u:=aY;have m1:=Cl.mul 2 1 k.2 (Cl.refl (co q) (e:=0) (by grind)) b.1 (by grind);have m2:=Cl.mul 2 1 k.1 (Cl.refl (si q) (e:=0) (by grind)) b.2 (by grind);have m3:=Cl.mul 2 1 k.1 (Cl.refl (co q) (e:=0) (by grind)) b.1 (by grind);have m4:=Cl.mul 2 1 k.2 (Cl.refl (si q) (e:=0) (by grind)) b.2 (by grind);constructor
 ·have:=a.2.trans (m1.sub m2);rw [show 1*co q-0*si q=co q by grind] at this;exact this.wide (by grind)
 ·have:=a.1.trans (m3.add m4);rw [show 0*co q+1*si q=si q by grind] at this;exact this.wide (by grind)
theorem oppq (q:Rat):Cl (20000*u0) (co (q+10800000)) (-co q)∧Cl (20000*u0) (si (q+10800000)) (-si q):=by
 have a:=yY (-(q+5400000));have b:=yY (-q);have n:=vK q;have n2:=vK (q+5400000);have c:=yY (-(q+5400000));have u:=aY;have e1:(5400000:Rat)- -(q+5400000)=q+10800000:=by grind
 have e2:(5400000:Rat)- -q=q+5400000:=by grind
 rw [e1] at a;rw [e2] at b;constructor
 ·have:=((a.2.trans n2.2).trans (b.1.neg)).trans n.1.neg;exact this.wide (by grind)
 ·have:=((a.1.trans n2.1).trans b.2).trans n.2;exact this.wide (by grind)
theorem P_two {x:Rat} (h0:0≤x) (h1:x≤8/5) (n:Nat):0≤P (n+3) x∧P (n+3) x≤P (n+1) x:=by
 have p1:=GI h0 (n+1);have p3:=GI h0 (n+3);have e2:=xW (n+1) x;have e3:=xW (n+2) x;refine ⟨p3,?_⟩;have hn:(0:Rat)≤(n:Rat):=by exact_mod_cast afX n
 have c1:((n+1:Nat):Rat)=(n:Rat)+1:=by push_cast;rfl
 have c2:((n+2:Nat):Rat)=(n:Rat)+2:=by push_cast;rfl
 rw [c1] at e2;rw [c2] at e3;rw [show n+1+1=n+2 by rfl] at e2;rw [show n+2+1=n+3 by rfl] at e3;have q:((n:Rat)+1+1)*((n:Rat)+2+1)*P (n+3) x=x*x*P (n+1) x:=by grind
 have x2:x*x≤64/25:=by
  have:=aaQ h0 (show 0≤8/5-x by grind);grind
 have g1:=aaQ (show 0≤64/25-x*x by grind) p1;have g2:=aaQ (aaQ hn (show 0≤(n:Rat)+5 by grind)) p3;generalize P (n+3) x=a at*;generalize P (n+1) x=b at*;have:6*a≤3*b:=by grind
 grind
theorem sn_le4 {x:Rat} (h0:0≤x) (h1:x≤8/5):∀m:Nat,sm (fun k=>ss k*P k x) (4*m+1)≤x-P (4*m+1) x
 | 0=>by
  have:P 1 x=x:=by simp [P];grind
  simp only [Nat.mul_zero,Nat.zero_add,this,sm];have:ss 0=0:=by decide+kernel
  rw [this];grind
 | m+1=>by
  have ih:=sn_le4 h0 h1 m;rw [show 4*(m+1)+1=4*m+1+1+1+1+1 by omega,sm,sm,sm,sm];have s1:ss (4*m+1)=1:=by unfold ss;rw [if_pos (by omega)]
  have s2:ss (4*m+1+1)=0:=by unfold ss;rw [if_neg (by omega),if_neg (by omega)]
  have s3:ss (4*m+1+1+1)=-1:=by unfold ss;rw [if_neg (by omega),if_pos (by omega)]
  have s4:ss (4*m+1+1+1+1)=0:=by unfold ss;rw [if_neg (by omega),if_neg (by omega)]
  rw [s1,s2,s3,s4];have a:=P_two h0 h1 (4*m);have b:=P_two h0 h1 (4*m+2);rw [show 4*m+2+3=4*m+1+1+1+1+1 by omega,show 4*m+2+1=4*m+1+1+1 by omega] at b;rw [show 4*m+3=4*m+1+1+1 by omega] at a;generalize sm (fun k=>ss k*P k x) (4*m+1)=S0 at*;generalize P (4*m+1) x=p1 at*;generalize P (4*m+1+1) x=p2 at*;generalize P (4*m+1+1+1) x=p3 at*;generalize P (4*m+1+1+1+1) x=p4 at*;generalize P (4*m+1+1+1+1+1) x=p5 at*;grind
theorem sn_ge4 {x:Rat} (h0:0≤x) (h1:x≤8/5):∀m:Nat,x/2≤sm (fun k=>ss k*P k x) (4*(m+1)+1)
 | 0=>by
  have s0:ss 0=0:=by decide+kernel
  have s1:ss 1=1:=by decide+kernel
  have s2:ss 2=0:=by decide+kernel
  have s3:ss 3=-1:=by decide+kernel
  have s4:ss 4=0:=by decide+kernel
  simp only [sm];rw [s0,s1,s2,s3,s4];have e1:P 1 x=x:=by simp [P];grind
  have e3:P 3 x=x*x*x/6:=by simp [P];grind
  rw [e1,e3];have a:=aaQ h0 (show 0≤8/5-x by grind);have b:=aaQ h0 (show 0≤64/25-x*x by grind);generalize P 0 x=p0 at*;generalize P 2 x=p2 at*;generalize P 4 x=p4 at*;grind
 | m+1=>by
  have ih:=sn_ge4 h0 h1 m;rw [show 4*(m+1+1)+1=4*(m+1)+1+1+1+1+1 by omega,sm,sm,sm,sm];have s1:ss (4*(m+1)+1)=1:=by unfold ss;rw [if_pos (by omega)]
  have s2:ss (4*(m+1)+1+1)=0:=by unfold ss;rw [if_neg (by omega),if_neg (by omega)]
  have s3:ss (4*(m+1)+1+1+1)=-1:=by unfold ss;rw [if_neg (by omega),if_pos (by omega)]
  have s4:ss (4*(m+1)+1+1+1+1)=0:=by unfold ss;rw [if_neg (by omega),if_neg (by omega)]
  rw [s1,s2,s3,s4];have a:=P_two h0 h1 (4*(m+1));rw [show 4*(m+1)+3=4*(m+1)+1+1+1 by omega] at a;generalize sm (fun k=>ss k*P k x) (4*(m+1)+1)=S0 at*;generalize P (4*(m+1)+1) x=p1 at*;generalize P (4*(m+1)+1+1) x=p2 at*;generalize P (4*(m+1)+1+1+1) x=p3 at*;generalize P (4*(m+1)+1+1+1+1) x=p4 at*;grind
theorem sn_pos {x:Rat} (h0:0≤x) (h1:x≤8/5):x/2≤sn x∧sn x≤x:=by
 have a:=sn_ge4 h0 h1 162;have b:=sn_le4 h0 h1 163;have c:=GI h0 (4*163+1);unfold sn Sn;exact ⟨a,by grind⟩
theorem tb_q {q:Rat} (h0:0≤q) (h1:q≤5400000):0≤tb*q∧tb*q≤8/5:=by
 have t:=jY;have:=pF (p:=q) (c:=5400000) (d:=8/5) (by grind) h1 (by grind);exact ⟨aaQ (by grind) h0,this.2⟩
theorem iW {q:Rat} (h0:0≤q) (h1:q≤5400000):tb*q/2≤si q∧si q≤tb*q:=by
 unfold si;rw [qG (by grind) (by grind)];have:=tb_q h0 h1;exact sn_pos this.1 this.2
theorem gL {q:Rat} (h0:-10800000<q) (h1:q<10800000):si (-q)=-si q∧co (-q)=co q:=by
 unfold si co;rw [qG (by grind) (by grind),qG (by grind) (by grind),show tb*-q=-(tb*q) by grind,TT,QF];exact ⟨rfl,rfl⟩
theorem gG {q:Rat} (h0:0≤q) (h1:q≤5400000):0≤si q:=by
 have a:=(iW h0 h1).1;have b:=(tb_q h0 h1).1;generalize tb*q=x at*;generalize si q=y at*;grind
theorem IE {q d:Rat} (h0:-5400000≤q) (_h1:q≤5400000) (g0:0≤d) (g1:d≤5400000-q) (g2:d≤5400000+q):tb*d/2-e0≤co q:=by
 have e:e0=1048576*u0:=rfl;have u:=aY;have t:=jY;have key:∀z:Rat,0≤z→d≤5400000-z→tb*d/2-e0≤co z:=fun z k0 k1=>by
  have s:=(iW (q:=5400000-z) (by grind) (by grind)).1;have c:=(yY z).1;have m:=aaQ (show 0≤tb by grind) (show 0≤5400000-z-d by grind);unfold Cl at c;generalize si (5400000-z)=a at*;generalize co z=b at*;generalize tb=t at*;grind
 rcases (abX:0≤q∨q≤0) with h | h
 ·exact key q h g1
 ·have k:=key (-q) (by grind) (by grind);rwa [(gL (q:=q) (by grind) (by grind)).2] at k
theorem diff (m d:Rat):Cl (10000*u0) (si (m+d)-si (m-d)) (2*(co m*si d))∧Cl (10000*u0) (co (m+d)-co (m-d)) (-(2*(si m*si d))):=by
 have a:=wZ m d;have b:=qH m d;have u:=aY;constructor
 ·have:=a.2.sub b.2;rw [show si m*co d+co m*si d-(si m*co d-co m*si d)=2*(co m*si d) by grind] at this;exact this.wide (by grind)
 ·have:=a.1.sub b.1;rw [show co m*co d-si m*si d-(co m*co d+si m*si d)=-(2*(si m*si d)) by grind] at this;exact this.wide (by grind)
theorem JE {p q:Rat} (h0:-5400000≤p) (h:p≤q) (h1:q≤5400000):(q-p)*(q-p)/100000000000000-8*e0≤si q-si p:=by
 have e:e0=1048576*u0:=rfl;have u:=aY;have t:=jY;have hd:0≤(q-p)/2∧(q-p)/2≤5400000:=by constructor<;>grind
 have f:=(diff ((p+q)/2) ((q-p)/2)).1;rw [show (p+q)/2+(q-p)/2=q by grind,show (p+q)/2-(q-p)/2=p by grind] at f;have s:=(iW hd.1 hd.2).1;have s2:=(cL ((q-p)/2)).2.2;have c:=IE (q:=(p+q)/2) (d:=(q-p)/2) (by grind) (by grind) hd.1 (by grind) (by grind);have sq1:=fC ((q-p)/2);generalize si ((q-p)/2)=S at*;generalize co ((p+q)/2)=C at*;have hd0:=hd.1;have ed:(q-p)*(q-p)=4*((q-p)/2*((q-p)/2)):=by grind
 rw [ed];generalize (q-p)/2=d at*;have x0:0≤tb*d:=aaQ (by grind) hd0;have g1:d/3437750≤tb*d:=by
  have:=aaQ (show 0≤tb-1/3437750 by grind) hd0;grind
 have m1:=aaQ (show 0≤C-(tb*d/2-e0) by grind) (show 0≤S by grind);have m2:=aaQ (show 0≤S-tb*d/2 by grind) (show 0≤tb*d/2 by grind);have m3:=aaQ (show 0≤tb*d-d/3437750 by grind) (show 0≤tb*d+d/3437750 by grind);have m4:=aaQ (show 0≤e0 by grind) (show 0≤2-S by grind);unfold Cl at f;generalize tb*d=x at*;generalize e0=w at*;generalize si q=y1 at*;generalize si p=y2 at*;grind
theorem lip {p q:Rat} (h:p≤q) (h1:q≤p+5400000):Cl ((q-p)/1000000+e0) (si q) (si p)∧Cl ((q-p)/1000000+e0) (co q) (co p):=by
 have e:e0=1048576*u0:=rfl;have u:=aY;have t:=jY;have hd:0≤(q-p)/2∧(q-p)/2≤5400000:=by constructor<;>grind
 have f:=diff ((p+q)/2) ((q-p)/2);rw [show (p+q)/2+(q-p)/2=q by grind,show (p+q)/2-(q-p)/2=p by grind] at f;have s:=(iW hd.1 hd.2).2;have s0:=gG hd.1 hd.2;have b:=cL ((p+q)/2);have m1:=aB b.1.1 b.1.2 (show -(si ((q-p)/2))≤si ((q-p)/2) by grind) (show si ((q-p)/2)≤si ((q-p)/2) by grind);have m2:=aB b.2.1 b.2.2 (show -(si ((q-p)/2))≤si ((q-p)/2) by grind) (show si ((q-p)/2)≤si ((q-p)/2) by grind);have g1:tb*((q-p)/2)≤(q-p)/2/3437740:=by
  have:=aaQ (show 0≤1/3437740-tb by grind) hd.1;grind
 generalize co ((p+q)/2)*si ((q-p)/2)=z1 at*;generalize si ((p+q)/2)*si ((q-p)/2)=z2 at*;generalize si ((q-p)/2)=S at*;generalize tb*((q-p)/2)=x at*;unfold Cl at*;generalize si q=y1 at*;generalize si p=y2 at*;generalize co q=y3 at*;generalize co p=y4 at*;clear b s0 hd;refine ⟨⟨?_,?_⟩,?_,?_⟩<;>grind
end TB
end
section
namespace TB
open SM TA
theorem si_quart:1-e0≤si 5400000∧si (-5400000)≤-1+e0:=by
 have e:e0=1048576*u0:=rfl;have u:=aY;have q:=KG.2;have n:=(gL (q:=5400000) (by grind) (by grind)).1;unfold Cl at q;rw [n];constructor<;>grind
theorem halve (y:Rat) (n:Nat):∀a b:Rat,-5400000≤a→a≤b→b≤5400000→si a≤y+e0→y-e0≤si b→∃a' b':Rat,-5400000≤a'∧a'≤b'∧b'≤5400000∧si a'≤y+e0∧y-e0≤si b'∧(b'-a')*2^n=b-a:=by
 induction n with
 | zero=>
  intro a b h0 h h1 ha hb;exact ⟨a,b,h0,h,h1,ha,hb,by rw [Rat.pow_zero];grind⟩
 | succ n ih=>
  intro a b h0 h h1 ha hb;have e:=dY.1;rcases (abX:si ((a+b)/2)≤y∨y≤si ((a+b)/2)) with c | c
  ·obtain ⟨a',b',k0,k,k1,ka,kb,kw⟩:=ih ((a+b)/2) b (by grind) (by grind) h1 (by grind) hb;refine ⟨a',b',k0,k,k1,ka,kb,?_⟩;rw [Rat.pow_succ];generalize (2:Rat)^n=z at*;grind
  ·obtain ⟨a',b',k0,k,k1,ka,kb,kw⟩:=ih a ((a+b)/2) h0 (by grind) (by grind) ha (by grind);refine ⟨a',b',k0,k,k1,ka,kb,?_⟩;rw [Rat.pow_succ];generalize (2:Rat)^n=z at*;grind
theorem pow_big:10800000≤(2:Rat)^2520*e0∧(0:Rat)<2^2520:=by decide+kernel
theorem inv {y:Rat} (h0:-1≤y) (h1:y≤1):∃q:Rat,-5400000≤q∧q≤5400000∧Cl (4*e0) (si q) y:=by
 have e:=dY;have s:=si_quart;obtain ⟨a,b,k0,k,k1,ka,kb,kw⟩:=halve y 2520 (-5400000) 5400000 (by grind) (by grind) (by grind) (by grind) (by grind);have l:=(lip (p:=a) (q:=b) k (by grind)).1;have p:=pow_big;have w:b-a≤e0:=by
  generalize (2:Rat)^2520=z at*;rcases (abX:b-a≤e0∨e0≤b-a) with c | c
  ·exact c
  ·have:=aaQ (show 0≤b-a-e0 by grind) (show 0≤z by grind);have:(b-a-e0)*z=0:=by grind
   rcases anZ.1 this with h | h
   ·grind
   ·grind
 refine ⟨a,k0,by grind,?_⟩;unfold Cl at*;generalize si a=x1 at*;generalize si b=x2 at*;constructor<;>grind
theorem gX {z f e:Rat} (hf:0≤f) (hz:z*z≤e) (hfe:e≤f*f):-f≤z∧z≤f:=by
 constructor
 ·rcases (abX:-f≤z∨z≤-f) with h | h
  ·exact h
  ·have a:=aaQ (show 0≤-f-z by grind) (show 0≤f-z by grind);have:(-f-z)*(f-z)=z*z-f*f:=by grind
   have b:=aaQ (show 0≤-f-z by grind) (show 0≤-f-z by grind);have:-f-z=0:=by
    have c:(-f-z)*(-f-z)+2*f*(-f-z)=z*z-f*f:=by grind
    have d:=aaQ hf (show 0≤-f-z by grind);have:(-f-z)*(-f-z)=0:=by grind
    rcases anZ.1 this with h | h<;>exact h
   grind
 ·rcases (abX:z≤f∨f≤z) with h | h
  ·exact h
  ·have b:=aaQ (show 0≤z-f by grind) (show 0≤z-f by grind);have:z-f=0:=by
    have c:(z-f)*(z-f)+2*f*(z-f)=z*z-f*f:=by grind
    have d:=aaQ hf (show 0≤z-f by grind);have:(z-f)*(z-f)=0:=by grind
    rcases anZ.1 this with h | h<;>exact h
   grind
def e1:Rat:=pw 1220
def e2:Rat:=pw 600
theorem iL:0<e1∧e1≤1/2^200:=by decide+kernel
theorem co_from {q x y f g:Rat} (hf:e0≤f) (hf1:f≤1/1000) (hg:0≤g) (hfg:100*f≤g*g) (h0:-5400000≤q) (h1:q≤5400000) (hs:Cl (6*f) (si q) y) (hx:0≤x) (hu:Cl (4*f) (x*x+y*y) 1):Cl g (co q) x:=by
 have e:=dY;have ee:e0=1048576*u0:=rfl;have u:=nE q;have c:=IE (q:=q) (d:=0) h0 h1 (by grind) (by grind) (by grind);rw [show tb*0/2-e0=-e0 by grind] at c;have b:=cL q;have m:=Cl.mul 2 3 hs hs b.2 (by unfold Cl at hs;have:=b.2;constructor<;>grind);have d:Cl (36*f) (co q*co q) (x*x):=by
  unfold Cl at*;generalize co q*co q=z1 at*;generalize si q*si q=z2 at*;generalize y*y=z3 at*;generalize x*x=z4 at*;constructor<;>grind
 have hx2:x≤2:=by
  have:=fC y;unfold Cl at hu;exact (yW (z:=x) (by grind)).2
 have k:=gX (z:=co q-x) (f:=g) (e:=100*f) hg ?_ hfg
 ·exact k
 ·unfold Cl at d;rcases (abX:co q≤x∨x≤co q) with h | h
  ·have a:=aaQ (show 0≤x-co q by grind) (show 0≤co q+f by grind);have a2:=aaQ (show 0≤f by grind) (show 0≤4-(x-co q) by grind);generalize co q=z at*;grind
  ·have a:=aaQ (show 0≤co q-x by grind) hx;generalize co q=z at*;grind
theorem dir {x y f g:Rat} (hf:e0≤f) (hf1:f≤1/1000) (hg:f≤g) (hfg:100*f≤g*g) (hu:Cl (2*f) (x*x+y*y) 1):∃q:Rat,-10800000≤q∧q≤16200000∧Cl (2*g) (co q) x∧Cl (8*f) (si q) y:=by
 have e:=dY;have ee:e0=1048576*u0:=rfl;have eu:=aY;have sx:=fC x;have hy:=FX (z:=y) (e:=2*f) (by grind) (by unfold Cl at hu;grind);obtain ⟨y',y0,y1,yc⟩:∃y':Rat,-1≤y'∧y'≤1∧Cl (2*f) y' y:=by
  rcases (abX:y≤1∨1≤y) with h | h
  ·rcases (abX:-1≤y∨y≤-1) with k | k
   ·exact ⟨y,k,h,Cl.refl _ (by grind)⟩
   ·exact ⟨-1,by grind,by grind,by unfold Cl;constructor<;>grind⟩
  ·exact ⟨1,by grind,by grind,by unfold Cl;constructor<;>grind⟩
 obtain ⟨q,q0,q1,qs⟩:=inv y0 y1;have qy:Cl (6*f) (si q) y:=(qs.trans yc).wide (by grind);rcases (abX:0≤x∨x≤0) with h | h
 ·have c:=co_from hf hf1 (by grind) hfg q0 q1 qy h (hu.wide (by grind));exact ⟨q,by grind,by grind,c.wide (by grind),qy.wide (by grind)⟩
 ·have c:=co_from (x:=-x) hf hf1 (by grind) hfg q0 q1 qy (by grind) (by rw [show -x*-x=x*x by grind];exact hu.wide (by grind));have o:=oppq (-q);have n:=gL (q:=q) (by grind) (by grind);rw [n.1,n.2] at o;refine ⟨-q+10800000,by grind,by grind,?_,?_⟩
  ·have:=o.1.trans c.neg;rw [show- -x=x by grind] at this;exact this.wide (by grind)
  ·rw [show- -si q=si q by grind] at o;exact (o.2.trans qy).wide (by grind)
end TB
end
section
open SM
theorem YJ {m n:Int} (h0:-5400000≤m) (h:m≤n) (h1:n≤5400000):qD m≤qD n:=by
 have a:=(SE (-m) (by omega) (by omega)).1;have b:=(SE (-n) (by omega) (by omega)).1;have c:=oX (m:=-n) (n:=-m) (by omega) (by omega) (by omega);rw [Int.neg_neg] at a b;omega
theorem lob_cong {m n:Int} (h:m%21600000=n%21600000):qD m=qD n∧nF m=nF n:=by
 unfold qD nF nT nO;rw [h];exact ⟨rfl,rfl⟩
def fO (n:Int):Int:=(n+5400000)%21600000-5400000
theorem mX (n:Int):qD n=qD (fO n)∧nF n=nF (fO n):=lob_cong (by unfold fO;omega)
theorem AJ {m:Int} (_h0:5400000≤m) (_h1:m≤16200000):qD m=qD (10800000-m)∧nF m=nF (10800000-m):=by
 have:=lob_sym (m-5400000);rw [show m-5400000+5400000=m by omega,show 5400000-(m-5400000)=10800000-m by omega] at this;exact this
theorem IV {lo hi n:Int} (h1:lo≤n) (h2:n≤hi):mK lo hi≤qD n:=by
 unfold mK;by_cases hm:AK lo hi 16200000=true
 ·rw [if_pos hm];have:=oG n;omega
 ·rw [if_neg hm];have hm':¬(16200000-lo)%21600000≤hi-lo:=fun q=>hm (decide_eq_true q);have e1:fO n=fO lo+(n-lo):=by unfold fO;omega
  have e2:fO hi=fO lo+(hi-lo):=by unfold fO;omega
  have b1:-5400000<fO lo:=by unfold fO;omega
  have b2:fO hi<16200000:=by unfold fO;omega
  rw [(mX n).1,(mX lo).1,(mX hi).1];by_cases q:fO n≤5400000
  ·have:=YJ (m:=fO lo) (n:=fO n) (by omega) (by omega) q;omega
  ·rw [(AJ (m:=fO n) (by omega) (by omega)).1];have h3:=(AJ (m:=fO hi) (by omega) (by omega)).1;have:=YJ (m:=10800000-fO hi) (n:=10800000-fO n) (by omega) (by omega) (by omega);omega
theorem IU {lo hi n:Int} (h1:lo≤n) (h2:n≤hi):nF n≤mJ lo hi:=by
 unfold mJ;by_cases hm:AK lo hi 5400000=true
 ·rw [if_pos hm];have:=oG n;omega
 ·rw [if_neg hm];have hm':¬(5400000-lo)%21600000≤hi-lo:=fun q=>hm (decide_eq_true q);by_cases q:fO n≤5400000
  ·by_cases q2:fO hi≤5400000∧fO n≤fO hi
   ·have:=oX (m:=fO n) (n:=fO hi) (by unfold fO;omega) q2.2 q2.1;rw [(mX n).2,(mX hi).2];omega
   ·exfalso;unfold fO at q q2;omega
  ·have b1:fO n<16200000:=by unfold fO;omega
   have e1:5400000<fO lo∧fO lo≤fO n:=by unfold fO at*;omega
   rw [(mX n).2,(mX lo).2,(AJ (m:=fO n) (by omega) (by omega)).2];have h3:=(AJ (m:=fO lo) (by omega) (by omega)).2;have:=oX (m:=10800000-fO n) (n:=10800000-fO lo) (by omega) (by omega) (by omega);omega
theorem NI {a b:Int} (h:a≤b):mK a b≤mJ a b:=by
 have h1:=IV (lo:=a) (hi:=b) (n:=a) (by omega) h;have h2:=IU (lo:=a) (hi:=b) (n:=a) (by omega) h;have:=oG a;omega
def Within (r s:Int×Int×Int):Prop:=r.2.2=0∧s.2.2=0∧s.1≤r.1∧r.1≤r.2.1∧r.2.1≤s.2.1
theorem aR {a b:Int} (h1:-1099511627776≤a) (h2:a≤b) (h3:b≤1099511627776):aE a b=true:=decide_eq_true ⟨h1,h2,h3⟩
theorem qE {a b:Int} (h:aE a b=true):(-1073741824≤(aK a b).1∧(aK a b).1≤(aK a b).2.1∧(aK a b).2.1≤1073741824∧(aK a b).2.2=0)∧(-1073741824≤(aI a b).1∧(aI a b).1≤(aI a b).2.1∧(aI a b).2.1≤1073741824∧(aI a b).2.2=0)∧
  (0≤(dT a b).1∧(dT a b).1≤(dT a b).2.1∧(dT a b).2.1≤1073741824∧(dT a b).2.2=0):=by
 have hv:=cG h;have h1:=QZ a b;have h2:=QZ (a+5400000) (b+5400000);have h3:=NI (a:=a) (b:=b) (by omega);have h4:=NI (a:=a+5400000) (b:=b+5400000) (by omega);simp [aK,aI,dT,h];omega
theorem lin_x {a x b:Int} (y:Int) (h1:a≤x) (h2:x≤b):(a*y≤x*y∧x*y≤b*y)∨(b*y≤x*y∧x*y≤a*y):=by
 rcases asX 0 y with h | h
 ·exact .inl ⟨aeZ h1 h,aeZ h2 h⟩
 ·exact .inr ⟨Int.mul_le_mul_of_nonpos_right h2 h,Int.mul_le_mul_of_nonpos_right h1 h⟩
theorem lin_y {c y d:Int} (x:Int) (h1:c≤y) (h2:y≤d):(x*c≤x*y∧x*y≤x*d)∨(x*d≤x*y∧x*y≤x*c):=by
 have:=lin_x (a:=c) (x:=y) (b:=d) x h1 h2;rw [akZ c x,akZ y x,akZ d x] at this;exact this
theorem mn4 (p q r s:Int):(mn (mn (mn p q) r) s≤p∧mn (mn (mn p q) r) s≤q∧mn (mn (mn p q) r) s≤r∧mn (mn (mn p q) r) s≤s)∧
  (mn (mn (mn p q) r) s=p∨mn (mn (mn p q) r) s=q∨mn (mn (mn p q) r) s=r∨mn (mn (mn p q) r) s=s):=by
 have h1:=vC p q;have h2:=vC (mn p q) r;have h3:=vC (mn (mn p q) r) s;omega
theorem mx4 (p q r s:Int):(p≤mx (mx (mx p q) r) s∧q≤mx (mx (mx p q) r) s∧r≤mx (mx (mx p q) r) s∧s≤mx (mx (mx p q) r) s)∧
  (mx (mx (mx p q) r) s=p∨mx (mx (mx p q) r) s=q∨mx (mx (mx p q) r) s=r∨mx (mx (mx p q) r) s=s):=by
 have h1:=vJ p q;have h2:=vJ (mx p q) r;have h3:=vJ (mx (mx p q) r) s;omega
theorem mul_has {a b c d x y:Int} (h1:a≤x) (h2:x≤b) (h3:c≤y) (h4:y≤d):pN a b c d≤x*y∧x*y≤pM a b c d:=by
 have e1:=lin_x y h1 h2;have e2:=lin_y a h3 h4;have e3:=lin_y b h3 h4;have l:=(mn4 (a*c) (a*d) (b*c) (b*d)).1;have u:=(mx4 (a*c) (a*d) (b*c) (b*d)).1;unfold pN pM;omega
theorem mulL_at (a b c d:Int):∃x y,(x=a∨x=b)∧(y=c∨y=d)∧pN a b c d=x*y:=by
 rcases (mn4 (a*c) (a*d) (b*c) (b*d)).2 with h | h | h | h
 ·exact ⟨a,c,.inl rfl,.inl rfl,h⟩
 ·exact ⟨a,d,.inl rfl,.inr rfl,h⟩
 ·exact ⟨b,c,.inr rfl,.inl rfl,h⟩
 ·exact ⟨b,d,.inr rfl,.inr rfl,h⟩
theorem mulH_at (a b c d:Int):∃x y,(x=a∨x=b)∧(y=c∨y=d)∧pM a b c d=x*y:=by
 rcases (mx4 (a*c) (a*d) (b*c) (b*d)).2 with h | h | h | h
 ·exact ⟨a,c,.inl rfl,.inl rfl,h⟩
 ·exact ⟨a,d,.inl rfl,.inr rfl,h⟩
 ·exact ⟨b,c,.inr rfl,.inl rfl,h⟩
 ·exact ⟨b,d,.inr rfl,.inr rfl,h⟩
theorem iP {a b:Int} (h:aN a b=true):-2147483648≤a∧a≤b∧b≤2147483648:=by simpa [aN] using h
theorem fF {a b:Int} (h1:-2147483648≤a) (h2:a≤b) (h3:b≤2147483648):aN a b=true:=decide_eq_true ⟨h1,h2,h3⟩
theorem oC {a b c d:Int} (h1:aN a b=true) (h2:aN c d=true):fS a b c d=true:=by unfold fS;rw [h1,h2];rfl
theorem JA {a b:Int} (h:(lZ a b).2.2=0):aN a b=true∧lZ a b=(a,b,0):=by
 unfold lZ at h ⊢;split at h
 ·rename_i hv;exact ⟨hv,by rw [if_pos hv]⟩
 ·cases h
theorem BT {a b:Int} (h:aN a b=true):lZ a b=(a,b,0):=by unfold lZ;rw [if_pos h]
theorem FG {f:Int×Int×Int} {a b c d:Int} (h:(if fS a b c d=true then f else (0,0,1)).2.2=0):fS a b c d=true∧f.2.2=0:=by
 split at h
 ·rename_i hb;exact ⟨hb,h⟩
 ·cases h
theorem mul_order {a b c d:Int} (h1:a≤b) (h2:c≤d):pN a b c d≤pM a b c d:=by
 have:=mul_has (a:=a) (b:=b) (c:=c) (d:=d) (x:=a) (y:=c) (by omega) h1 (by omega) h2;omega
theorem mul_one {a b c d:Int} (h1:-1073741824≤a) (h2:a≤b) (h3:b≤1073741824) (h4:-1073741824≤c) (h5:c≤d) (h6:d≤1073741824):
  (bF a b c d).2.2=0∧-1073741824≤(bF a b c d).1∧(bF a b c d).1≤(bF a b c d).2.1∧(bF a b c d).2.1≤1073741824:=by
 have bd:∀x y:Int,-1073741824≤x→x≤1073741824→-1073741824≤y→y≤1073741824→-1152921504606846976≤x*y∧x*y≤1152921504606846976:=fun x y p q r s=>by
  have h:(x*y).natAbs=x.natAbs*y.natAbs:=Int.natAbs_mul x y;have:x.natAbs*y.natAbs≤1073741824*1073741824:=Nat.mul_le_mul (by omega) (by omega);omega
 unfold bF;rw [if_pos (oC (fF (by omega) h2 (by omega)) (fF (by omega) h5 (by omega)))];obtain ⟨x,y,hx,hy,e⟩:=mulL_at a b c d;obtain ⟨x2,y2,hx2,hy2,e2⟩:=mulH_at a b c d;have q1:=bd x y (by omega) (by omega) (by omega) (by omega);have q2:=bd x2 y2 (by omega) (by omega) (by omega) (by omega);have q3:=mul_order h2 h5;rw [BT (fF (by omega) (by omega) (by omega))];refine ⟨rfl,?_,?_,?_⟩<;>dsimp only<;>omega
theorem rR {x x' y:Int} (hy:0<y) (h:x≤x'):x/y≤x'/y:=Int.ediv_le_ediv hy h
theorem rS {x y y':Int} (hy:0<y) (h:y≤y'):(0≤x→x/y'≤x/y)∧(x≤0→x/y≤x/y'):=by
 constructor
 ·intro hx;have h0:0≤x/y':=Int.ediv_nonneg hx (by omega);have h1:x/y'*y'≤x:=Int.ediv_mul_le x (by omega);have h2:x/y'*y≤x/y'*y':=Int.mul_le_mul_of_nonneg_left h h0;exact (Int.le_ediv_iff_mul_le hy).2 (by omega)
 ·intro hx;have h0:x/y≤0:=Int.ediv_nonpos_of_nonpos_of_neg hx (by omega);have h1:x/y*y≤x:=Int.ediv_mul_le x (by omega);have h2:x/y*y'≤x/y*y:=Int.mul_le_mul_of_nonpos_left h0 h;exact (Int.le_ediv_iff_mul_le (by omega)).2 (by omega)
theorem div_mid {x c y d:Int} (hc:0<c) (h1:c≤y) (h2:y≤d):(x/c≤x/y∧x/y≤x/d)∨(x/d≤x/y∧x/y≤x/c):=by
 rcases asX 0 x with h | h
 ·exact .inr ⟨(rS (y:=y) (y':=d) (by omega) h2).1 h,(rS (y:=c) (y':=y) hc h1).1 h⟩
 ·exact .inl ⟨(rS (y:=c) (y':=y) hc h1).2 h,(rS (y:=y) (y':=d) (by omega) h2).2 h⟩
theorem RC {x c y d:Int} (hz:0<c∨d<0) (h1:c≤y) (h2:y≤d):(mU x c≤mU x y∧mU x y≤mU x d)∨(mU x d≤mU x y∧mU x y≤mU x c):=by
 unfold mU;rcases hz with hz | hz
 ·rw [if_pos (by omega),if_pos (by omega),if_pos (by omega)];exact div_mid hz h1 h2
 ·rw [if_neg (by omega),if_neg (by omega),if_neg (by omega)];have:=div_mid (x:=-x) (c:=-d) (y:=-y) (d:=-c) (by omega) (by omega) (by omega);omega
theorem fl_x {a x b y:Int} (hy:y≠0) (h1:a≤x) (h2:x≤b):(mU a y≤mU x y∧mU x y≤mU b y)∨(mU b y≤mU x y∧mU x y≤mU a y):=by
 unfold mU;by_cases h:0<y
 ·rw [if_pos h,if_pos h,if_pos h];exact .inl ⟨rR h h1,rR h h2⟩
 ·rw [if_neg h,if_neg h,if_neg h];exact .inr ⟨rR (by omega) (by omega),rR (by omega) (by omega)⟩
theorem mn5 (z p q r s:Int) (hz:z=p):(mn (mn (mn (mn z p) q) r) s≤p∧mn (mn (mn (mn z p) q) r) s≤q∧mn (mn (mn (mn z p) q) r) s≤r∧mn (mn (mn (mn z p) q) r) s≤s)∧
  (mn (mn (mn (mn z p) q) r) s=p∨mn (mn (mn (mn z p) q) r) s=q∨mn (mn (mn (mn z p) q) r) s=r∨mn (mn (mn (mn z p) q) r) s=s):=by
 have h0:=vC z p;have h1:=vC (mn z p) q;have h2:=vC (mn (mn z p) q) r;have h3:=vC (mn (mn (mn z p) q) r) s;omega
theorem mx5 (z p q r s:Int) (hz:z=p):(p≤mx (mx (mx (mx z p) q) r) s∧q≤mx (mx (mx (mx z p) q) r) s∧r≤mx (mx (mx (mx z p) q) r) s∧s≤mx (mx (mx (mx z p) q) r) s)∧
  (mx (mx (mx (mx z p) q) r) s=p∨mx (mx (mx (mx z p) q) r) s=q∨mx (mx (mx (mx z p) q) r) s=r∨mx (mx (mx (mx z p) q) r) s=s):=by
 have h0:=vJ z p;have h1:=vJ (mx z p) q;have h2:=vJ (mx (mx z p) q) r;have h3:=vJ (mx (mx (mx z p) q) r) s;omega
theorem FJ {a b c d x y:Int} (hz:0<c∨d<0) (h1:a≤x) (h2:x≤b) (h3:c≤y) (h4:y≤d):divL a b c d≤mU (x*1073741824) y∧zM (x*1073741824) y≤divH a b c d:=by
 have e1:=fl_x (a:=a*1073741824) (x:=x*1073741824) (b:=b*1073741824) (y:=y) (by omega) (by omega) (by omega);have e2:=RC (x:=a*1073741824) hz h3 h4;have e3:=RC (x:=b*1073741824) hz h3 h4;have f1:=fl_x (a:=-(b*1073741824)) (x:=-(x*1073741824)) (b:=-(a*1073741824)) (y:=y) (by omega) (by omega) (by omega);have f2:=RC (x:=-(a*1073741824)) hz h3 h4;have f3:=RC (x:=-(b*1073741824)) hz h3 h4;have l:=(mn5 (mU (a*1073741824) c) (mU (a*1073741824) c) (mU (a*1073741824) d) (mU (b*1073741824) c) (mU (b*1073741824) d) rfl).1;have u:=(mx5 (zM (a*1073741824) c) (zM (a*1073741824) c) (zM (a*1073741824) d) (zM (b*1073741824) c) (zM (b*1073741824) d) rfl).1;unfold divL divH;unfold zM at u ⊢;omega
theorem asn_order {u v:Int} (hu:-1073741824≤u) (h:u≤v) (hv:v≤1073741824):pK u≤-pK (-v):=by
 have a:=pZ u hu;have b:=pZ (-v) (by omega);obtain ⟨a1,a2,a3,_⟩:=a;obtain ⟨b1,b2,b3,_⟩:=b;have c:=(SE (pK (-v)) b1 b2).1;rcases aiJ (-pK (-v)) (pK u) with q | q
 ·have:=strict (m:=-pK (-v)) (n:=pK u) (by omega) q a2;omega
 ·exact q
theorem asin_ok {x y:Int} (h:(bE x y).2.2=0):aN x y=true∧max x (-1073741824)≤min y 1073741824∧bE x y=(pK (max x (-1073741824)),-pK (-min y 1073741824),0):=by
 unfold bE at h ⊢;cases hv:aN x y with
 | false=>rw [hv] at h;simp at h
 | true=>
  rw [hv] at h;simp only [Bool.true_eq_false,if_false] at h ⊢;split at h
  ·rename_i q;exact ⟨trivial,q,by rw [if_pos q]⟩
  ·cases h
theorem asin_grow {a b c d:Int} (hv:aN c d=true) (h:(bE a b).2.2=0) (h1:c≤a) (h3:b≤d):Within (bE a b) (bE c d):=by
 obtain ⟨v1,v2,v3⟩:=asin_ok h;have e:bE c d=(pK (max c (-1073741824)),-pK (-min d 1073741824),0):=by
  unfold bE;rw [hv];simp only [Bool.true_eq_false,if_false];rw [if_pos (by omega)]
 rw [v3,e];have q1:=VA (u:=max c (-1073741824)) (v:=max a (-1073741824)) (by omega) (by omega);have q2:=VA (u:=-min d 1073741824) (v:=-min b 1073741824) (by omega) (by omega);have q3:=asn_order (u:=max a (-1073741824)) (v:=min b 1073741824) (by omega) v2 (by omega);refine ⟨rfl,rfl,?_,?_,?_⟩<;>dsimp only<;>omega
end
end
end Go.Proofs.YtajpgkpdhcbngaaGreatDoor
