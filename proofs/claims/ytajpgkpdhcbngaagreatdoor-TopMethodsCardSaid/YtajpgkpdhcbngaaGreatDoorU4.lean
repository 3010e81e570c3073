/-
  Fixed-point intervals: what each function gives, as a plain law.   .
-/
import Derived.Test.YtajpgkpdhcbngaaGreatDoorEv
import Derived.Test.YtajpgkpdhcbngaaGreatDoorU3
import Derived.KernelRfl
import Derived.IntWalk
import Derived.Laws.StructEq
import Derived.Deep.CutRange
import Derived.Deep.CutBlock
set_option maxRecDepth 100000
set_option maxHeartbeats 4000000
open Go.RowKit.Below renaming refl→aeX
open _root_.Int renaming lt_or_le→aiJ,lt_trichotomy→alQ,natCast_mul→ajX,tdiv→arZ,tmod_lt_of_pos→asJ,zero_sub→axQ
open Go.Lib renaming hid→aaX
open _root_.Nat renaming le_refl→aaJ,lt_or_ge→adZ,mul_comm→aoQ,mul_le_mul→aiX,mul_le_mul_left→akQ,mul_le_mul_right→arX
open Go.Proofs.Tryz renaming prog→aaZ
open Go.World renaming drewN→alJ,setCell→ayQ
open Go.IntKind (i64 u64)
namespace Go.Proofs.YtajpgkpdhcbngaaGreatDoor
noncomputable section
section
open Ev
def Cs:List FuncId:=[2,3,4,5,6,7,8,9,10,11,12,13,14,15,16,17,18,19,20,21,22,23,24,25,26,27,28,29,30,31,32,33,34,35,36,37,38,39,40,41,42,43,44,45,46,47,48,49,50,51,52,53,54,55,56,57,58,59,60,61,62,63,64,65,66,67,68,69,70,71,72,73,74,75,76,77,78,79,80,81,82,83,84,85,86,87,88,89,90,91,92,93,94,95,96,97,98,99,100,101,102,103,104,105,106,107,108,109,110,111,112,113,114,115,116,117,118,119,120,121,122,123,124,125,126,127,128,129,130,131,132,133,134,135,136,137,138,139,140,141,142,143,144,145,146,147,148,149,150,151,152,153,154,155,156,157,158,159,160,161,162,163,164,165,166,167,168,169,170,171,172,173,174,175,176,177,178,179,180,181,182,183,184,185,186,187,188,189,190,191,192,194,195,196,197,198,199,200,201,202,203,204,205,206,207,208,209,210,211,212,213,214,215,216,217,218,219,220,221,222,223,224,225,226,227,228,229,230,231,232,233,234,235,236,237,238,239,240,241,242,243,244,245,246,247,248,249,250,251,252,254,255,256,257,258,259,260,261,262,263,264,265,266,267,268,269,270,271,272,273,274,275,276,277,278,279,280,281,282,283,284,285,286,287,288,289,290,291,292,293,294,295,296,297,298,299,300,301,302,303,304,305,306,307,308,309,310,311,312,313,314,315,316,338]
def callB (P:Program) (g:FuncId):Bool:=
 match P.funcs[g]? with
 | some fn=> !(fn.name== "runtime.NumGoroutine")&& !fn.body.isNone
 | none=>false
theorem callB_ok {P:Program} {g:FuncId} (h:callB P g=true):jF P g:=by
 unfold callB at h;split at h
 ·rename_i fn hf;rw [Bool.and_eq_true,Bool.not_eq_true',Bool.not_eq_true'] at h;exact VO hf h.1 h.2
 ·cases h
theorem GF:∀g∈Cs,jF aaZ g:=fun g hg=>callB_ok (List.all_eq_true.1 (show Cs.all (callB aaZ)=true by kernel_rfl) g hg)
theorem mixed:aaZ.follows .mixedOrders=true:=by kernel_rfl
theorem bK:∀e∈([]:List (TypeId×Nat)),nI aaZ e:=fun _ h=>nomatch h
def ev6 (E:List (TypeId×Nat)) (O:bJ) (g:FuncId) (vs:List Value):Option AV:=evF aaZ E Cs O 20 6 g (vs.map AV.v) [] [] YF
theorem aF {E:List (TypeId×Nat)} {O:bJ} {g:FuncId} {vs:List Value} {V:Value} {t:Option AV} (hE:∀e∈E,nI aaZ e) (hO:aJ aaZ O) (ht:ev6 E O g vs=t) (h:t=some (.v V)):aH aaZ g vs V:=BR mixed hE GF hO (ht.trans h)
def evm (E:List (TypeId×Nat)) (O:bJ) (g:FuncId) (ty:TypeId) (k:Int) (vs:List Value):Option (AV×kJ):=evF aaZ E Cs O 20 6 g (.p [] 0::vs.map AV.v) [([],⟨[.v (.int .i64 k)],ty⟩)] [] lastC
theorem bM {E:List (TypeId×Nat)} {O:bJ} {g:FuncId} {ty:TypeId} {k c:Int} {vs:List Value} {V:Value} {t:Option (AV×kJ)} (hE:∀e∈E,nI aaZ e) (hO:aJ aaZ O) (ht:evm E O g ty k vs=t) (h:t=some (.v V,⟨[.v (.int .i64 c)],ty⟩)):gN aaZ g ty k vs V c:=evF_mods mixed hE GF hO (ht.trans h)
theorem bR {x:Int} (h:-9223372036854775808≤x∧x≤9223372036854775807):i64.wrap x=x:=IntWalk.i64_in _ h
def GV (r:Bool×Int):Value:=.tuple ⟨[.bool r.1,.int .i64 r.2]⟩
@[reducible] def mn (x y:Int):Int:=if y<x then y else x
@[reducible] def mx (x y:Int):Int:=if y>x then y else x
theorem vC (x y:Int):mn x y≤x∧mn x y≤y∧(mn x y=x∨mn x y=y):=by unfold mn;split<;>omega
theorem vJ (x y:Int):x≤mx x y∧y≤mx x y∧(mx x y=x∨mx x y=y):=by unfold mx;split<;>omega
def mU (a b:Int):Int:=if 0<b then a/b else -a/ -b
theorem AW (a b:Int):(0≤a→0≤a.tmod b)∧(a≤0→a.tmod b≤0):=by
 constructor
 ·intro h;exact Int.tmod_nonneg b h
 ·intro h;have:=Int.tmod_nonneg b (show 0≤-a by omega);rw [Int.neg_tmod] at this;omega
theorem RD (a b:Int) (hb:0<b):a/b=(if a.tmod b≠0∧a<0 then a.tdiv b-1 else a.tdiv b):=by
 have h1:=Int.mul_tdiv_add_tmod a b;have h2:=AW a b;have h3:=asJ a hb;have h4:=asJ (-a) hb;rw [Int.neg_tmod] at h4;split
 ·rename_i h;have h5:a.tmod b<0:=by have:=h2.2 (by omega);omega
  refine ((Int.ediv_emod_unique hb (r:=a.tmod b+b)).2 ⟨?_,by omega,by omega⟩).1;rw [Int.mul_sub];omega
 ·rename_i h;have h5:0≤a.tmod b:=by
   by_cases q:a<0
   ·have:a.tmod b=0:=by
     by_cases z:a.tmod b=0
     ·exact z
     ·exact absurd ⟨z,q⟩ h
    omega
   ·exact h2.1 (by omega)
  exact ((Int.ediv_emod_unique hb (r:=a.tmod b)).2 ⟨by omega,h5,h3⟩).1
theorem flD_eq (a b:Int) (hb:b≠0):mU a b=(if a.tmod b≠0∧(decide (a<0)≠decide (b<0)) then a.tdiv b-1 else a.tdiv b):=by
 unfold mU;by_cases h:0<b
 ·rw [if_pos h,RD a b h];have:decide (b<0)=false:=decide_eq_false (by omega);rw [this];simp
 ·rw [if_neg h,RD (-a) (-b) (by omega)];have:decide (b<0)=true:=decide_eq_true (by omega);rw [this,Int.neg_tmod,Int.tmod_neg,Int.neg_tdiv_neg];by_cases h0:a.tmod b=0
  ·simp [h0]
  ·have h1:=AW a b;have hp:(0<a)↔(0≤a):=by
    constructor
    ·intro;omega
    ·intro q;rcases aiJ 0 a with z | z
     ·exact z
     ·have:a=0:=by omega
      subst this;simp at h0
   have:(-a<0)↔¬a<0:=by
    constructor
    ·intro;omega
    ·intro q;rcases aiJ 0 a with z | z
     ·omega
     ·have:a=0:=by omega
      subst this;simp at h0
   simp [h0,hp]
theorem GD (a b m:Int) (h1:-m≤a) (h2:a≤m):-m≤a.tdiv b∧a.tdiv b≤m:=by
 have h:=Int.natAbs_tdiv a b;have h3:(a.tdiv b).natAbs≤a.natAbs:=by rw [h];exact Nat.div_le_self _ _
 omega
def lZ (a b:Int):Int×Int×Int:=if aN a b=true then (a,b,0) else (0,0,5)
def kF10:bJ:=(70,eP (fun a b=>.bool (aN a b)))::[]
theorem kF10_ok:aJ aaZ kF10:=(aA (dD (fun a b W _=>iU a b W)) fE)
theorem yK (a b:Int):aH aaZ 87 [.int .i64 a,.int .i64 b] (aP (lZ a b)):=by
 refine aF bK kF10_ok (t:=cond (!(aN a b)) (some (.v (.tuple ⟨[.agg ⟨[.int .i64 0,.int .i64 0]⟩,.int .i64 5]⟩))) (some (.v (.tuple ⟨[.agg ⟨[.int .i64 a,.int .i64 b]⟩,.int .i64 0]⟩)))) (by kernel_rfl) ?_;cases h1:(aN a b)
 ·rw [Bool.not_false,cond_true];simp [lZ,aP,aG, *]
 ·rw [Bool.not_true,cond_false];simp [lZ,aP,aG, *]
def fS (a b c d:Int):Bool:=aN a b&&aN c d
def kF11:bJ:=(87,eII (fun a b=>aP (lZ a b)))::kF10
theorem kF11_ok:aJ aaZ kF11:=(aA (yG yK) kF10_ok)
theorem pR (a b c d:Int):aH aaZ 86 [.agg ⟨[.int .i64 a,.int .i64 b]⟩,.agg ⟨[.int .i64 c,.int .i64 d]⟩] (.bool (fS a b c d)):=by
 refine aF bK kF11_ok (t:=cond (aN a b) (some (.v (.bool (aN c d)))) (some (.v (.bool false)))) (by kernel_rfl) ?_;cases h1:(aN a b)
 ·rw [cond_false];simp [fS, *]
 ·rw [cond_true];simp [fS, *]
def pI (a b:Int):Bool:=decide (a≤0∧0≤b)
def kF12:bJ:=(86,rI (fun a b c d=>.bool (fS a b c d)))::kF11
theorem RQ:aJ aaZ kF12:=(aA (dM pR) kF11_ok)
theorem EN (a b:Int):aH aaZ 128 [.agg ⟨[.int .i64 a,.int .i64 b]⟩] (.bool (pI a b)):=by
 refine aF bK RQ (t:=cond (decide (a≤0)) (some (.v (.bool (decide (b≥0))))) (some (.v (.bool false)))) (by kernel_rfl) ?_;cases h1:(decide (a≤0))
 ·rw [cond_false];replace h1:=of_decide_eq_false h1;simp [pI, *]
 ·rw [cond_true];replace h1:=of_decide_eq_true h1;simp [pI, *]
def tT (a b:Int):Bool:=decide (b≠0∧-4611686018427387904≤a∧a≤4611686018427387904)
theorem BU (a b:Int) (hp:tT a b=true):aH aaZ 121 [.int .i64 a,.int .i64 b] (.int .i64 (mU a b)):=by
 refine aF bK RQ (t:=cond (b==0) (none) (cond (b==0) (none) (cond ((Int.tmod a b) != 0) (cond (!((decide (a<0))==(decide (b<0)))) (some (.v (.int .i64 (i64.wrap ((i64.wrap (arZ a b))-1))))) (some (.v (.int .i64 (i64.wrap (arZ a b)))))) (some (.v (.int .i64 (i64.wrap (arZ a b)))))))) (by kernel_rfl) ?_;obtain ⟨hb,ha1,ha2⟩:=of_decide_eq_true hp;have t:=GD a b 4611686018427387904 ha1 ha2;have e0:(b==0)=false:=beq_eq_false_iff_ne.2 hb;rw [e0,bR (x:=arZ a b) (by omega),bR (x:=arZ a b-1) (by omega),flD_eq a b hb];simp only [cond_false];by_cases h1:a.tmod b=0
 ·simp [h1]
 ·by_cases h2:decide (a<0)=decide (b<0)
  ·simp [h1,h2]
  ·have e1:(decide (a<0)==decide (b<0))=false:=beq_eq_false_iff_ne.2 h2;have e2:(a.tmod b != 0)=true:=bne_iff_ne.2 h1;rw [e1,e2];simp [h1,h2]
def zM (a b:Int):Int:=-mU (-a) b
theorem flD_bd (a b:Int) (hb:b≠0) (m:Int) (h1:-m≤a) (h2:a≤m):-m-1≤mU a b∧mU a b≤m:=by
 rw [flD_eq a b hb];have:=GD a b m h1 h2;split<;>omega
def kF13:bJ:=(121,tE tT (fun a b=>.int .i64 (mU a b)))::kF12
theorem kF13_ok:aJ aaZ kF13:=(aA (kM BU) RQ)
theorem BK (a b:Int) (hp:tT a b=true):aH aaZ 122 [.int .i64 a,.int .i64 b] (.int .i64 (zM a b)):=by
 refine aF bK kF13_ok (t:=cond (tT (i64.wrap (0-a)) b) (some (.v (.int .i64 (i64.wrap (0-(mU (i64.wrap (0-a)) b)))))) (none)) (by kernel_rfl) ?_;obtain ⟨hb,ha1,ha2⟩:=of_decide_eq_true hp;have t:=flD_bd (-a) b hb 4611686018427387904 (by omega) (by omega);have e1:i64.wrap (0-a)=-a:=by rw [bR (by omega)];omega
 have e2:tT (-a) b=true:=decide_eq_true ⟨hb,by omega,by omega⟩;simp only [e1,e2,cond_true];rw [bR (by omega)];unfold zM;rw [axQ]
def gB (a b c d:Int):Int×Int×Int:=if fS a b c d=true then lZ (a+c) (b+d) else (0,0,1)
theorem zK {a b c d:Int} (h:fS a b c d=true):-2147483648≤a∧a≤b∧b≤2147483648∧-2147483648≤c∧c≤d∧d≤2147483648:=by
 simp [fS,aN] at h;omega
def kF14:bJ:=(122,tE tT (fun a b=>.int .i64 (zM a b)))::kF13
theorem FU:aJ aaZ kF14:=(aA (kM BK) kF13_ok)
theorem mR (a b c d:Int):aH aaZ 45 [.agg ⟨[.int .i64 a,.int .i64 b]⟩,.agg ⟨[.int .i64 c,.int .i64 d]⟩] (aP (gB a b c d)):=by
 refine aF bK FU (t:=cond (!(fS a b c d)) (some (.v (.tuple ⟨[.agg ⟨[.int .i64 0,.int .i64 0]⟩,.int .i64 1]⟩))) (lt (lZ (i64.wrap (a+c)) (i64.wrap (b+d))) fun x1=>some (.v (.tuple ⟨[.agg ⟨[.int .i64 x1.1,.int .i64 x1.2.1]⟩,.int .i64 x1.2.2]⟩)))) (by kernel_rfl) ?_;unfold gB;cases h:fS a b c d
 ·rfl
 ·have:=zK h;rw [bR (by omega),bR (by omega)];rfl
def lJ (a b c d:Int):Int×Int×Int:=if fS a b c d=true then lZ (a-d) (b-c) else (0,0,1)
theorem sI (a b c d:Int):aH aaZ 68 [.agg ⟨[.int .i64 a,.int .i64 b]⟩,.agg ⟨[.int .i64 c,.int .i64 d]⟩] (aP (lJ a b c d)):=by
 refine aF bK FU (t:=cond (!(fS a b c d)) (some (.v (.tuple ⟨[.agg ⟨[.int .i64 0,.int .i64 0]⟩,.int .i64 1]⟩))) (lt (lZ (i64.wrap (a-d)) (i64.wrap (b-c))) fun x1=>some (.v (.tuple ⟨[.agg ⟨[.int .i64 x1.1,.int .i64 x1.2.1]⟩,.int .i64 x1.2.2]⟩)))) (by kernel_rfl) ?_;unfold lJ;cases h:fS a b c d
 ·rfl
 ·have:=zK h;rw [bR (by omega),bR (by omega)];rfl
def mM (a b:Int):Int×Int×Int:=if aN a b=true then (-b,-a,0) else (0,0,1)
theorem yO (a b:Int):aH aaZ 69 [.agg ⟨[.int .i64 a,.int .i64 b]⟩] (aP (mM a b)):=by
 refine aF bK FU (t:=cond (!(aN a b)) (some (.v (.tuple ⟨[.agg ⟨[.int .i64 0,.int .i64 0]⟩,.int .i64 1]⟩))) (some (.v (.tuple ⟨[.agg ⟨[.int .i64 (i64.wrap (0-b)),.int .i64 (i64.wrap (0-a))]⟩,.int .i64 0]⟩)))) (by kernel_rfl) ?_;unfold mM;cases h:aN a b
 ·rfl
 ·have:-2147483648≤a∧a≤b∧b≤2147483648:=by simpa [aN] using h
  rw [bR (by omega),bR (by omega),axQ,axQ];rfl
def pN (a b c d:Int):Int:=mn (mn (mn (a*c) (a*d)) (b*c)) (b*d)
def pM (a b c d:Int):Int:=mx (mx (mx (a*c) (a*d)) (b*c)) (b*d)
def bF (a b c d:Int):Int×Int×Int:=if fS a b c d=true then lZ (pN a b c d/1073741824) (-(-pM a b c d/1073741824)) else (0,0,1)
theorem GA {x y:Int} (h1:-2147483648≤x) (h2:x≤2147483648) (h3:-2147483648≤y) (h4:y≤2147483648):-4611686018427387904≤x*y∧x*y≤4611686018427387904:=by
 have h:(x*y).natAbs=x.natAbs*y.natAbs:=Int.natAbs_mul x y;have:x.natAbs*y.natAbs≤2147483648*2147483648:=aiX (by omega) (by omega);omega
theorem jM (a b c d:Int):aH aaZ 67 [.agg ⟨[.int .i64 a,.int .i64 b]⟩,.agg ⟨[.int .i64 c,.int .i64 d]⟩] (aP (bF a b c d)):=by
 refine aF bK FU (t:=cond (!(fS a b c d)) (some (.v (.tuple ⟨[.agg ⟨[.int .i64 0,.int .i64 0]⟩,.int .i64 1]⟩))) (cond (tT (mn (mn (mn (i64.wrap (a*c)) (i64.wrap (a*d))) (i64.wrap (b*c))) (i64.wrap (b*d))) 1073741824) (cond (tT (mx (mx (mx (i64.wrap (a*c)) (i64.wrap (a*d))) (i64.wrap (b*c))) (i64.wrap (b*d))) 1073741824) (lt (lZ (mU (mn (mn (mn (i64.wrap (a*c)) (i64.wrap (a*d))) (i64.wrap (b*c))) (i64.wrap (b*d))) 1073741824) (zM (mx (mx (mx (i64.wrap (a*c)) (i64.wrap (a*d))) (i64.wrap (b*c))) (i64.wrap (b*d))) 1073741824)) fun x1=>some (.v (.tuple ⟨[.agg ⟨[.int .i64 x1.1,.int .i64 x1.2.1]⟩,.int .i64 x1.2.2]⟩))) (none)) (none))) (by kernel_rfl) ?_;unfold bF;cases h:fS a b c d
 ·rfl
 ·have:=zK h;have p1:=GA (x:=a) (y:=c) (by omega) (by omega) (by omega) (by omega);have p2:=GA (x:=a) (y:=d) (by omega) (by omega) (by omega) (by omega);have p3:=GA (x:=b) (y:=c) (by omega) (by omega) (by omega) (by omega);have p4:=GA (x:=b) (y:=d) (by omega) (by omega) (by omega) (by omega);rw [bR (x:=a*c) (by omega),bR (x:=a*d) (by omega),bR (x:=b*c) (by omega),bR (x:=b*d) (by omega)];have e1:mn (mn (mn (a*c) (a*d)) (b*c)) (b*d)=pN a b c d:=rfl;have e2:mx (mx (mx (a*c) (a*d)) (b*c)) (b*d)=pM a b c d:=rfl;have b1:-4611686018427387904≤pN a b c d∧pN a b c d≤4611686018427387904:=by
   have q1:=vC (a*c) (a*d);have q2:=vC (mn (a*c) (a*d)) (b*c);have q3:=vC (mn (mn (a*c) (a*d)) (b*c)) (b*d);rw [e1] at q3;omega
  have b2:-4611686018427387904≤pM a b c d∧pM a b c d≤4611686018427387904:=by
   have q1:=vJ (a*c) (a*d);have q2:=vJ (mx (a*c) (a*d)) (b*c);have q3:=vJ (mx (mx (a*c) (a*d)) (b*c)) (b*d);rw [e2] at q3;omega
  rw [e1,e2];have f1:tT (pN a b c d) 1073741824=true:=decide_eq_true ⟨by omega,b1.1,b1.2⟩;have f2:tT (pM a b c d) 1073741824=true:=decide_eq_true ⟨by omega,b2.1,b2.2⟩;rw [f1,f2];have g1:mU (pN a b c d) 1073741824=pN a b c d/1073741824:=rfl;have g2:zM (pM a b c d) 1073741824=-(-pM a b c d/1073741824):=rfl;rw [g1,g2];rfl
end
section
open Go.RowKit
def iZ (V:Int):Value:=cO (V/6277101735386680763835789423207666416102355444464034512896) (V/340282366920938463463374607431768211456%18446744073709551616) (V/18446744073709551616%18446744073709551616) (V%18446744073709551616)
def Big (V:Int):Prop:=0≤V∧V<115792089237316195423570985008687907853269984665640564039457584007913129639936
theorem cJ {V:Int} (h:Big V):∃a0 a1 a2 a3:Int,(bQ a0∧bQ a1∧bQ a2∧bQ a3)∧num a0 a1 a2 a3=V∧iZ V=cO a0 a1 a2 a3:=by
 obtain ⟨h0,h1⟩:=h;refine ⟨_,_,_,_,⟨⟨?_,?_⟩,⟨?_,?_⟩,⟨?_,?_⟩,⟨?_,?_⟩⟩,?_,rfl⟩;all_goals (first | omega | (unfold num;omega))
theorem zJ {a0 a1 a2 a3:Int} (h:bQ a0∧bQ a1∧bQ a2∧bQ a3):iZ (num a0 a1 a2 a3)=cO a0 a1 a2 a3:=by
 obtain ⟨⟨_,_⟩,⟨_,_⟩,⟨_,_⟩,⟨_,_⟩⟩:=h;have e0:num a0 a1 a2 a3/6277101735386680763835789423207666416102355444464034512896=a0:=by unfold num;omega
 have e1:num a0 a1 a2 a3/340282366920938463463374607431768211456%18446744073709551616=a1:=by unfold num;omega
 have e2:num a0 a1 a2 a3/18446744073709551616%18446744073709551616=a2:=by unfold num;omega
 have e3:num a0 a1 a2 a3%18446744073709551616=a3:=by unfold num;omega
 unfold iZ;rw [e0,e1,e2,e3]
theorem zE (x y b:Int) (hx:bQ x) (hy:bQ y) (hb:0≤b∧b≤1):∃s c:Int,bQ s∧(0≤c∧c≤1)∧s=x+y+b-18446744073709551616*c∧∀w,(callFunc 193 #[.int .u64 x,.int .u64 y,.int .u64 b]).run aaZ w=.ok (.value (.tuple #[.int .u64 s,.int .u64 c])) w:=by
 obtain ⟨x1,x2⟩:=hx;obtain ⟨y1,y2⟩:=hy;refine ⟨(x+y+b)%18446744073709551616,(x+y+b)/18446744073709551616,⟨by omega,by omega⟩,⟨by omega,by omega⟩,by omega,fun w=>mQ x y b x1 y1 hb w⟩
theorem bsub_any (a b:Int) (ha:Big a) (hb:Big b) (w:World):Calls aaZ 223 #[iZ a,iZ b] w (cI (iZ ((a-b)%115792089237316195423570985008687907853269984665640564039457584007913129639936)) w):=by
 obtain ⟨a0,a1,a2,a3,⟨ha0,ha1,ha2,ha3⟩,rfl,ea⟩:=cJ ha;obtain ⟨b0,b1,b2,b3,⟨hb0,hb1,hb2,hb3⟩,rfl,eb⟩:=cJ hb;rw [ea,eb];obtain ⟨s3,c3,g3,d3,e3,E3⟩:=nP a3 b3 0 ha3 hb3 (by omega);obtain ⟨s2,c2,g2,d2,e2,E2⟩:=nP a2 b2 c3 ha2 hb2 d3;obtain ⟨s1,c1,g1,d1,e1,E1⟩:=nP a1 b1 c2 ha1 hb1 d2;obtain ⟨s0,c0,g0,d0,e0,E0⟩:=nP a0 b0 c1 ha0 hb0 d1;have hs:(num a0 a1 a2 a3-num b0 b1 b2 b3)%115792089237316195423570985008687907853269984665640564039457584007913129639936=num s0 s1 s2 s3:=by
  obtain ⟨_,_⟩:=g0;obtain ⟨_,_⟩:=g1;obtain ⟨_,_⟩:=g2;obtain ⟨_,_⟩:=g3;clear E0 E1 E2 E3;unfold num;omega
 rw [hs,zJ ⟨g0,g1,g2,g3⟩];clear ea eb hs ha hb;clear g0 g1 g2 g3 d0 d1 d2 d3 e0 e1 e2 e3 ha0 ha1 ha2 ha3 hb0 hb1 hb2 hb3;have HP:=aaX (show ∀c1 c2:Array Value,cI (cO s0 s1 s2 s3) w (.returned (cO s0 s1 s2 s3)) (((w.alloc (.cells c1 176)).alloc (.cells c2 176)).alloc (.cells #[.int .u64 s0,.int .u64 s1,.int .u64 s2,.int .u64 s3] 176)).drew.drew.drew.drew from fun c1 c2=>⟨rfl,((((((aeX _ _).alloc (aaJ _) _).alloc (by simp) _).alloc (by simp;omega) _).drew).drew).drew.drew⟩);unfold cO at HP ⊢;go_enter Tryz.func223,Tryz.ntmps223;go_wp2;refine wp_loop_rounds 5 ?_;rw [rounds_succ];go_wp2;go_region
 go_wp2;rw [rounds_succ];go_wp2;go_region
 go_wp2;rw [rounds_succ];go_wp2;go_region
 go_wp2;rw [rounds_succ];go_wp2;go_region
 go_wp2;rw [rounds_succ];go_wp2;simp [bodyPost,results,Tryz.results223,go_sem];exact HP.out _ _
theorem badd_any (a b:Int) (ha:Big a) (hb:Big b) (w:World):Calls aaZ 224 #[iZ a,iZ b] w (cI (iZ ((a+b)%115792089237316195423570985008687907853269984665640564039457584007913129639936)) w):=by
 obtain ⟨a0,a1,a2,a3,⟨ha0,ha1,ha2,ha3⟩,rfl,ea⟩:=cJ ha;obtain ⟨b0,b1,b2,b3,⟨hb0,hb1,hb2,hb3⟩,rfl,eb⟩:=cJ hb;rw [ea,eb];obtain ⟨s3,c3,g3,d3,e3,E3⟩:=zE a3 b3 0 ha3 hb3 (by omega);obtain ⟨s2,c2,g2,d2,e2,E2⟩:=zE a2 b2 c3 ha2 hb2 d3;obtain ⟨s1,c1,g1,d1,e1,E1⟩:=zE a1 b1 c2 ha1 hb1 d2;obtain ⟨s0,c0,g0,d0,e0,E0⟩:=zE a0 b0 c1 ha0 hb0 d1;have hs:(num a0 a1 a2 a3+num b0 b1 b2 b3)%115792089237316195423570985008687907853269984665640564039457584007913129639936=num s0 s1 s2 s3:=by
  obtain ⟨_,_⟩:=g0;obtain ⟨_,_⟩:=g1;obtain ⟨_,_⟩:=g2;obtain ⟨_,_⟩:=g3;clear E0 E1 E2 E3;unfold num;omega
 rw [hs,zJ ⟨g0,g1,g2,g3⟩];clear ea eb hs ha hb;clear g0 g1 g2 g3 d0 d1 d2 d3 e0 e1 e2 e3 ha0 ha1 ha2 ha3 hb0 hb1 hb2 hb3;have HP:=aaX (show ∀c1 c2:Array Value,cI (cO s0 s1 s2 s3) w (.returned (cO s0 s1 s2 s3)) (((w.alloc (.cells c1 176)).alloc (.cells c2 176)).alloc (.cells #[.int .u64 s0,.int .u64 s1,.int .u64 s2,.int .u64 s3] 176)).drew.drew.drew.drew from fun c1 c2=>⟨rfl,((((((aeX _ _).alloc (aaJ _) _).alloc (by simp) _).alloc (by simp;omega) _).drew).drew).drew.drew⟩);unfold cO at HP ⊢;go_enter Tryz.func224,Tryz.ntmps224;go_wp2;refine wp_loop_rounds 5 ?_;rw [rounds_succ];go_wp2;go_region
 go_wp2;rw [rounds_succ];go_wp2;go_region
 go_wp2;rw [rounds_succ];go_wp2;go_region
 go_wp2;rw [rounds_succ];go_wp2;go_region
 go_wp2;rw [rounds_succ];go_wp2;simp [bodyPost,results,Tryz.results224,go_sem];exact HP.out _ _
theorem yB (a n:Int) (ha:Big a) (hn0:0≤n) (hn1:n≤4611686018427387904) (w:World):Calls aaZ 159 #[iZ a,.int .u64 n] w (cI (iZ (a*n%115792089237316195423570985008687907853269984665640564039457584007913129639936)) w):=by
 obtain ⟨a0,a1,a2,a3,⟨ha0,ha1,ha2,ha3⟩,rfl,ea⟩:=cJ ha;rw [ea];obtain ⟨x3,y3,s3,k3,t3,g3,d3,e3,M3,A3,z3⟩:=vO a3 n 0 4611686018427387904 ha3 hn0 hn1 (by omega) (by omega) (by omega);obtain ⟨x2,y2,s2,k2,t2,g2,d2,e2,M2,A2,z2⟩:=vO a2 n t3 4611686018427387904 ha2 hn0 hn1 (by omega) d3.1 d3.2;obtain ⟨x1,y1,s1,k1,t1,g1,d1,e1,M1,A1,z1⟩:=vO a1 n t2 4611686018427387904 ha1 hn0 hn1 (by omega) d2.1 d2.2;obtain ⟨x0,y0,s0,k0,t0,g0,d0,e0,M0,A0,z0⟩:=vO a0 n t1 4611686018427387904 ha0 hn0 hn1 (by omega) d1.1 d1.2;have hs:num a0 a1 a2 a3*n%115792089237316195423570985008687907853269984665640564039457584007913129639936=num s0 s1 s2 s3:=by
  have e:num a0 a1 a2 a3*n=a0*n*6277101735386680763835789423207666416102355444464034512896+a1*n*340282366920938463463374607431768211456+a2*n*18446744073709551616+a3*n:=by unfold num;grind
  rw [e];obtain ⟨_,_⟩:=g0;obtain ⟨_,_⟩:=g1;obtain ⟨_,_⟩:=g2;obtain ⟨_,_⟩:=g3;clear M0 M1 M2 M3 A0 A1 A2 A3 ha0 ha1 ha2 ha3;generalize a0*n=p0 at*;generalize a1*n=p1 at*;generalize a2*n=p2 at*;generalize a3*n=p3 at*;unfold num;omega
 rw [hs,zJ ⟨g0,g1,g2,g3⟩];clear ea hs ha e0 e1 e2 e3 d0 d1 d2 d3 g0 g1 g2 g3;have M0:=aaX M0;have M1:=aaX M1;have M2:=aaX M2;have M3:=aaX M3;have HP:=aaX (show ∀c1:Array Value,cI (cO s0 s1 s2 s3) w (.returned (cO s0 s1 s2 s3)) ((w.alloc (.cells c1 176)).alloc (.cells #[.int .u64 s0,.int .u64 s1,.int .u64 s2,.int .u64 s3] 176)) from fun c1=>⟨rfl,((aeX _ _).alloc (aaJ _) _).alloc (by simp) _⟩);unfold cO at HP ⊢;go_enter Tryz.func159,Tryz.ntmps159;go_wp2;refine wp_loop_rounds 5 ?_;rw [rounds_succ];go_wp2_with (first | (go_at_call 192;refine (M3.out _).mono ?_;rintro e w' ⟨rfl,rfl⟩))
 rw [rounds_succ];go_wp2_with (first | (go_at_call 192;refine (M2.out _).mono ?_;rintro e w' ⟨rfl,rfl⟩))
 rw [rounds_succ];go_wp2_with (first | (go_at_call 192;refine (M1.out _).mono ?_;rintro e w' ⟨rfl,rfl⟩))
 rw [rounds_succ];go_wp2_with (first | (go_at_call 192;refine (M0.out _).mono ?_;rintro e w' ⟨rfl,rfl⟩))
 rw [rounds_succ];go_wp2_with fail
 simp [bodyPost,results,Tryz.results159,go_sem];exact HP.out _
theorem MX (a d:Int) (ha:Big a) (hd:0<d) (hd2:d<4294967296) (w:World):Calls aaZ 189 #[iZ a,.int .u64 d] w (cI (iZ (a/d)) w):=by
 obtain ⟨a0,a1,a2,a3,⟨ha0,ha1,ha2,ha3⟩,rfl,ea⟩:=cJ ha;rw [ea];obtain ⟨s0,r0,g0,g0',d0,d0',e0,E0⟩:=jU 0 a0 d hd hd2 (by omega) hd ha0.1 ha0.2;obtain ⟨s1,r1,g1,g1',d1,d1',e1,E1⟩:=jU r0 a1 d hd hd2 d0 d0' ha1.1 ha1.2;obtain ⟨s2,r2,g2,g2',d2,d2',e2,E2⟩:=jU r1 a2 d hd hd2 d1 d1' ha2.1 ha2.2;obtain ⟨s3,r3,g3,g3',d3,d3',e3,E3⟩:=jU r2 a3 d hd hd2 d2 d2' ha3.1 ha3.2;have hs:num a0 a1 a2 a3/d=num s0 s1 s2 s3:=by
  have e:num a0 a1 a2 a3=r3+num s0 s1 s2 s3*d:=by
   clear E0 E1 E2 E3 ea;unfold num;grind
  rw [e,Int.add_mul_ediv_right _ _ (by omega),Int.ediv_eq_zero_of_lt d3 d3'];omega
 rw [hs,zJ ⟨⟨g0,g0'⟩,⟨g1,g1'⟩,⟨g2,g2'⟩,⟨g3,g3'⟩⟩];clear ea hs ha;clear g0 g0' g1 g1' g2 g2' g3 g3' d0 d0' d1 d1' d2 d2' d3 d3' e0 e1 e2 e3 ha0 ha1 ha2 ha3 hd hd2;have E0:=aaX E0;have E1:=aaX E1;have E2:=aaX E2;have E3:=aaX E3;unfold cO;go_enter Tryz.func189,Tryz.ntmps189;go_wp2;refine wp_loop_rounds 5 ?_;rw [rounds_succ];go_wp2_with fail
 refine (E0.out _).mono ?_;rintro e w' ⟨rfl,hw⟩;obtain ⟨w1,rfl,hs1,hb1⟩:=vR _ _ _ _ hw;clear hw;go_wp2_with fail
 rw [rounds_succ];go_wp2_with fail
 refine (E1.out _).mono ?_;rintro e w' ⟨rfl,hw⟩;obtain ⟨w2,rfl,hs2,hb2⟩:=vR _ _ _ _ hw;clear hw;rw [hs1] at hb2 hs2;go_wp2_with fail
 rw [rounds_succ];go_wp2_with fail
 refine (E2.out _).mono ?_;rintro e w' ⟨rfl,hw⟩;obtain ⟨w3,rfl,hs3,hb3⟩:=vR _ _ _ _ hw;clear hw;rw [hs2] at hb3 hs3;go_wp2_with fail
 rw [rounds_succ];go_wp2_with fail
 refine (E3.out _).mono ?_;rintro e w' ⟨rfl,hw⟩;obtain ⟨w4,rfl,hs4,hb4⟩:=vR _ _ _ _ hw;clear hw;rw [hs3] at hb4 hs4;go_wp2_with fail
 rw [rounds_succ];go_wp2_with fail
 have hB:=(((hb1.trans hb2).trans hb3).trans hb4);simp [bodyPost,results,Tryz.results189,go_sem,hs4];exact ⟨rfl,(hB.alloc (by rw [hs4];exact aaJ _) _).alloc (by simp [hs4]) _⟩
end
section
open Go.RowKit
theorem blt_any (a b:Int) (ha:Big a) (hb:Big b) (w:World):Calls aaZ 160 #[iZ a,iZ b] w (cI (.bool (decide (a<b))) w):=by
 obtain ⟨a0,a1,a2,a3,⟨⟨_,_⟩,⟨_,_⟩,⟨_,_⟩,⟨_,_⟩⟩,hA,ea⟩:=cJ ha;obtain ⟨b0,b1,b2,b3,⟨⟨_,_⟩,⟨_,_⟩,⟨_,_⟩,⟨_,_⟩⟩,hB,eb⟩:=cJ hb;rw [ea,eb];obtain ⟨V,hV⟩:∃V,V=Value.bool (decide (a<b)):=⟨_,rfl⟩;rw [←hV];have HB:∀v:Bool,decide (a<b)=v→∀w',Below w.heap.size w w'→cI V w (.returned (.bool v)) w':=fun v h w' hb=>⟨by rw [hV,h],hb⟩;have BL:=aaX (((aeX w.heap.size w).alloc (aaJ _) (.cells #[.int .u64 a0,.int .u64 a1,.int .u64 a2,.int .u64 a3] 176)).alloc (by simp) (.cells #[.int .u64 b0,.int .u64 b1,.int .u64 b2,.int .u64 b3] 176));unfold num at hA hB;unfold cO;clear hV ea eb;rcases alQ a0 b0 with h | h | h
 ·have HP:=aaX (HB true (by rw [decide_eq_true];omega));clear HB hA hB ha hb;go_enter Tryz.func160,Tryz.ntmps160;go_wp2;refine wp_loop_rounds 5 ?_;rw [rounds_succ];go_wp2;go_quiet (fail)
  go_wp2;go_quiet (fail)
  go_wp2;go_ret;refine HP.out _ ?_;first
   | exact (below_drewN (below_drewN (below_drewN (below_drewN (below_drewN BL.out _) _) _) _) _)
   | exact (below_drewN (below_drewN (below_drewN (below_drewN BL.out _) _) _) _)
   | exact (below_drewN (below_drewN (below_drewN BL.out _) _) _)
   | exact (below_drewN (below_drewN BL.out _) _)
   | exact (below_drewN BL.out _)
 ·subst h;rcases alQ a1 b1 with h | h | h
  ·have HP:=aaX (HB true (by rw [decide_eq_true];omega));clear HB hA hB ha hb;go_enter Tryz.func160,Tryz.ntmps160;go_wp2;refine wp_loop_rounds 5 ?_;rw [rounds_succ];go_wp2;go_quiet (fail)
   go_wp2;rw [rounds_succ];go_wp2;go_quiet (fail)
   go_wp2;go_quiet (fail)
   go_wp2;go_ret;refine HP.out _ ?_;first
    | exact (below_drewN (below_drewN (below_drewN (below_drewN (below_drewN BL.out _) _) _) _) _)
    | exact (below_drewN (below_drewN (below_drewN (below_drewN BL.out _) _) _) _)
    | exact (below_drewN (below_drewN (below_drewN BL.out _) _) _)
    | exact (below_drewN (below_drewN BL.out _) _)
    | exact (below_drewN BL.out _)
  ·subst h;rcases alQ a2 b2 with h | h | h
   ·have HP:=aaX (HB true (by rw [decide_eq_true];omega));clear HB hA hB ha hb;go_enter Tryz.func160,Tryz.ntmps160;go_wp2;refine wp_loop_rounds 5 ?_;rw [rounds_succ];go_wp2;go_quiet (fail)
    go_wp2;rw [rounds_succ];go_wp2;go_quiet (fail)
    go_wp2;rw [rounds_succ];go_wp2;go_quiet (fail)
    go_wp2;go_quiet (fail)
    go_wp2;go_ret;refine HP.out _ ?_;first
     | exact (below_drewN (below_drewN (below_drewN (below_drewN (below_drewN BL.out _) _) _) _) _)
     | exact (below_drewN (below_drewN (below_drewN (below_drewN BL.out _) _) _) _)
     | exact (below_drewN (below_drewN (below_drewN BL.out _) _) _)
     | exact (below_drewN (below_drewN BL.out _) _)
     | exact (below_drewN BL.out _)
   ·subst h;rcases alQ a3 b3 with h | h | h
    ·have HP:=aaX (HB true (by rw [decide_eq_true];omega));clear HB hA hB ha hb;go_enter Tryz.func160,Tryz.ntmps160;go_wp2;refine wp_loop_rounds 5 ?_;rw [rounds_succ];go_wp2;go_quiet (fail)
     go_wp2;rw [rounds_succ];go_wp2;go_quiet (fail)
     go_wp2;rw [rounds_succ];go_wp2;go_quiet (fail)
     go_wp2;rw [rounds_succ];go_wp2;go_quiet (fail)
     go_wp2;go_quiet (fail)
     go_wp2;go_ret;refine HP.out _ ?_;first
      | exact (below_drewN (below_drewN (below_drewN (below_drewN (below_drewN BL.out _) _) _) _) _)
      | exact (below_drewN (below_drewN (below_drewN (below_drewN BL.out _) _) _) _)
      | exact (below_drewN (below_drewN (below_drewN BL.out _) _) _)
      | exact (below_drewN (below_drewN BL.out _) _)
      | exact (below_drewN BL.out _)
    ·subst h;have HP:=aaX (HB false (by rw [decide_eq_false];omega));clear HB hA hB ha hb;go_enter Tryz.func160,Tryz.ntmps160;go_wp2;refine wp_loop_rounds 5 ?_;rw [rounds_succ];go_wp2;go_quiet (fail)
     go_wp2;rw [rounds_succ];go_wp2;go_quiet (fail)
     go_wp2;rw [rounds_succ];go_wp2;go_quiet (fail)
     go_wp2;rw [rounds_succ];go_wp2;go_quiet (fail)
     go_wp2;rw [rounds_succ];go_wp2;go_ret;refine HP.out _ ?_;first
      | exact (below_drewN (below_drewN (below_drewN (below_drewN (below_drewN BL.out _) _) _) _) _)
      | exact (below_drewN (below_drewN (below_drewN (below_drewN BL.out _) _) _) _)
      | exact (below_drewN (below_drewN (below_drewN BL.out _) _) _)
      | exact (below_drewN (below_drewN BL.out _) _)
      | exact (below_drewN BL.out _)
    ·have HP:=aaX (HB (decide (a3<b3)) (by rw [decide_eq_false (by omega),decide_eq_false (by omega)]));clear HB hA hB ha hb;go_enter Tryz.func160,Tryz.ntmps160;go_wp2;refine wp_loop_rounds 5 ?_;rw [rounds_succ];go_wp2;go_quiet (fail)
     go_wp2;rw [rounds_succ];go_wp2;go_quiet (fail)
     go_wp2;rw [rounds_succ];go_wp2;go_quiet (fail)
     go_wp2;rw [rounds_succ];go_wp2;go_quiet (fail)
     go_wp2;go_quiet (fail)
     go_wp2;go_ret;refine HP.out _ ?_;first
      | exact (below_drewN (below_drewN (below_drewN (below_drewN (below_drewN BL.out _) _) _) _) _)
      | exact (below_drewN (below_drewN (below_drewN (below_drewN BL.out _) _) _) _)
      | exact (below_drewN (below_drewN (below_drewN BL.out _) _) _)
      | exact (below_drewN (below_drewN BL.out _) _)
      | exact (below_drewN BL.out _)
   ·have HP:=aaX (HB (decide (a2<b2)) (by rw [decide_eq_false (by omega),decide_eq_false (by omega)]));clear HB hA hB ha hb;go_enter Tryz.func160,Tryz.ntmps160;go_wp2;refine wp_loop_rounds 5 ?_;rw [rounds_succ];go_wp2;go_quiet (fail)
    go_wp2;rw [rounds_succ];go_wp2;go_quiet (fail)
    go_wp2;rw [rounds_succ];go_wp2;go_quiet (fail)
    go_wp2;go_quiet (fail)
    go_wp2;go_ret;refine HP.out _ ?_;first
     | exact (below_drewN (below_drewN (below_drewN (below_drewN (below_drewN BL.out _) _) _) _) _)
     | exact (below_drewN (below_drewN (below_drewN (below_drewN BL.out _) _) _) _)
     | exact (below_drewN (below_drewN (below_drewN BL.out _) _) _)
     | exact (below_drewN (below_drewN BL.out _) _)
     | exact (below_drewN BL.out _)
  ·have HP:=aaX (HB (decide (a1<b1)) (by rw [decide_eq_false (by omega),decide_eq_false (by omega)]));clear HB hA hB ha hb;go_enter Tryz.func160,Tryz.ntmps160;go_wp2;refine wp_loop_rounds 5 ?_;rw [rounds_succ];go_wp2;go_quiet (fail)
   go_wp2;rw [rounds_succ];go_wp2;go_quiet (fail)
   go_wp2;go_quiet (fail)
   go_wp2;go_ret;refine HP.out _ ?_;first
    | exact (below_drewN (below_drewN (below_drewN (below_drewN (below_drewN BL.out _) _) _) _) _)
    | exact (below_drewN (below_drewN (below_drewN (below_drewN BL.out _) _) _) _)
    | exact (below_drewN (below_drewN (below_drewN BL.out _) _) _)
    | exact (below_drewN (below_drewN BL.out _) _)
    | exact (below_drewN BL.out _)
 ·have HP:=aaX (HB (decide (a0<b0)) (by rw [decide_eq_false (by omega),decide_eq_false (by omega)]));clear HB hA hB ha hb;go_enter Tryz.func160,Tryz.ntmps160;go_wp2;refine wp_loop_rounds 5 ?_;rw [rounds_succ];go_wp2;go_quiet (fail)
  go_wp2;go_quiet (fail)
  go_wp2;go_ret;refine HP.out _ ?_;first
   | exact (below_drewN (below_drewN (below_drewN (below_drewN (below_drewN BL.out _) _) _) _) _)
   | exact (below_drewN (below_drewN (below_drewN (below_drewN BL.out _) _) _) _)
   | exact (below_drewN (below_drewN (below_drewN BL.out _) _) _)
   | exact (below_drewN (below_drewN BL.out _) _)
   | exact (below_drewN BL.out _)
end
section
open Go.RowKit
structure Mac2 (a b o c s c':Int):Prop where
 out:∃hi lo s1 k1 h1 k2:Int,(∀w,Calls aaZ 192 #[.int .u64 a,.int .u64 b] w fun e w'=>e=.returned (.tuple #[.int .u64 hi,.int .u64 lo])∧w'=w)∧
  (∀w,(callFunc 193 #[.int .u64 lo,.int .u64 o,.int .u64 0]).run aaZ w=.ok (.value (.tuple #[.int .u64 s1,.int .u64 k1])) w)∧u64.wrap (hi+k1)=h1∧
  (∀w,(callFunc 193 #[.int .u64 s1,.int .u64 c,.int .u64 0]).run aaZ w=.ok (.value (.tuple #[.int .u64 s,.int .u64 k2])) w)∧u64.wrap (h1+k2)=c'
theorem iA (a b o c:Int) (ha:bQ a) (hb:bQ b) (ho:bQ o) (hc:bQ c):∃s c':Int,bQ s∧bQ c'∧o+a*b+c=s+18446744073709551616*c'∧Mac2 a b o c s c':=by
 obtain ⟨a0,a1⟩:=ha;obtain ⟨b0,b1⟩:=hb;obtain ⟨o0,o1⟩:=ho;obtain ⟨c0,c1⟩:=hc;have hp0:0≤a*b:=Int.mul_nonneg a0 b0;have hp1:a*b≤18446744073709551615*18446744073709551615:=Int.mul_le_mul (by omega) (by omega) b0 (by decide);have hM:∀w,Calls aaZ 192 #[.int .u64 a,.int .u64 b] w fun e w'=>e=.returned (.tuple #[.int .u64 (a*b/18446744073709551616),.int .u64 (a*b%18446744073709551616)])∧w'=w:=fun w=>(wT a b ⟨a0,a1⟩ ⟨b0,b1⟩ w).mono fun _ _ h=>⟨h.1,h.2.symm⟩;generalize hP:a*b=P at*;refine ⟨((P%18446744073709551616+o)%18446744073709551616+c)%18446744073709551616,P/18446744073709551616+(P%18446744073709551616+o)/18446744073709551616+((P%18446744073709551616+o)%18446744073709551616+c)/18446744073709551616,⟨by omega,by omega⟩,⟨by omega,by omega⟩,by omega,
  ⟨P/18446744073709551616,P%18446744073709551616,(P%18446744073709551616+o)%18446744073709551616,(P%18446744073709551616+o)/18446744073709551616,P/18446744073709551616+(P%18446744073709551616+o)/18446744073709551616,((P%18446744073709551616+o)%18446744073709551616+c)/18446744073709551616,hM,fun w=>?_,?_,fun w=>?_,?_⟩⟩
 ·have:=mQ (P%18446744073709551616) o 0 (by omega) (by omega) (by omega) w;simpa using this
 ·exact cY _ (by omega) (by omega)
 ·have:=mQ ((P%18446744073709551616+o)%18446744073709551616) c 0 (by omega) c0 (by omega) w;simpa using this
 ·exact cY _ (by omega) (by omega)
theorem array_at2 (a:Option Addr) (w:World):(Instr.arrayAt 176 (.slice a 4 7)).run aaZ w=.ok (.pointer a) w:=run_arrayAt w 176 174 4 a 4 7 (by kernel_rfl) (by decide)
theorem bmul_walk (a0 a1 a2 a3 b0 b1 b2 b3 p1 c1 p2 c2 p3 c3 p4 c4 p5 c5 p6 c6 p7 c7 p8 c8 p9 c9 p10 c10 p11 c11 p12 c12 p13 c13 p14 c14 p15 c15 p16 c16:Int) (m1:Mac2 a3 b3 0 0 p1 c1) (m2:Mac2 a3 b2 0 c1 p2 c2) (m3:Mac2 a3 b1 0 c2 p3 c3) (m4:Mac2 a3 b0 0 c3 p4 c4) (m5:Mac2 a2 b3 p2 0 p5 c5) (m6:Mac2 a2 b2 p3 c5 p6 c6) (m7:Mac2 a2 b1 p4 c6 p7 c7) (m8:Mac2 a2 b0 c4 c7 p8 c8) (m9:Mac2 a1 b3 p6 0 p9 c9) (m10:Mac2 a1 b2 p7 c9 p10 c10) (m11:Mac2 a1 b1 p8 c10 p11 c11) (m12:Mac2 a1 b0 c8 c11 p12 c12) (m13:Mac2 a0 b3 p10 0 p13 c13) (m14:Mac2 a0 b2 p11 c13 p14 c14) (m15:Mac2 a0 b1 p12 c14 p15 c15) (m16:Mac2 a0 b0 c12 c15 p16 c16) (g4:bQ c4) (g8:bQ c8) (g12:bQ c12) (g16:bQ c16) (w:World):Calls aaZ 190 #[cO a0 a1 a2 a3,cO b0 b1 b2 b3] w (gC w (cO p16 p15 p14 p13)):=by
 have m1:=aaX m1;have m2:=aaX m2;have m3:=aaX m3;have m4:=aaX m4;have m5:=aaX m5;have m6:=aaX m6;have m7:=aaX m7;have m8:=aaX m8;have m9:=aaX m9;have m10:=aaX m10;have m11:=aaX m11;have m12:=aaX m12;have m13:=aaX m13;have m14:=aaX m14;have m15:=aaX m15;have m16:=aaX m16;have g4:=aaX g4;have g8:=aaX g8;have g12:=aaX g12;have g16:=aaX g16;unfold cO;go_enter Tryz.func190,Tryz.ntmps190;go_wp2;refine wp_loop_rounds 5 ?_;rw [rounds_succ];go_wp2_with fail
 refine wp_loop_rounds 5 ?_;rw [rounds_succ];go_wp2_with fail
 obtain ⟨hi,lo,s,k,h,l,M,A,x,B,y⟩:=m1.out.out;have M:=aaX M;go_quiet (first | (go_at_call 192;refine Calls.quiet_of_same (M.out _)))
 simp only [bH];rename_i nq;have hd:=bO w w nq ⟨rfl,aeX _ _⟩;generalize alJ w nq=w1 at*;obtain ⟨hs,hb⟩:=hd;go_wp2_with fail
 clear A x B y;rw [rounds_succ];go_wp2_with fail
 obtain ⟨hi,lo,s,k,h,l,M,A,x,B,y⟩:=m2.out.out;have M:=aaX M;go_quiet (first | (go_at_call 192;refine Calls.quiet_of_same (M.out _)))
 simp only [bH];rename_i nq;have hd:=bO w1 w nq ⟨hs,hb⟩;generalize alJ w1 nq=w2 at*;clear hs hb;obtain ⟨hs,hb⟩:=hd;go_wp2_with fail
 clear A x B y;rw [rounds_succ];go_wp2_with fail
 obtain ⟨hi,lo,s,k,h,l,M,A,x,B,y⟩:=m3.out.out;have M:=aaX M;go_quiet (first | (go_at_call 192;refine Calls.quiet_of_same (M.out _)))
 simp only [bH];rename_i nq;have hd:=bO w2 w nq ⟨hs,hb⟩;generalize alJ w2 nq=w3 at*;clear hs hb;obtain ⟨hs,hb⟩:=hd;go_wp2_with fail
 clear A x B y;rw [rounds_succ];go_wp2_with fail
 obtain ⟨hi,lo,s,k,h,l,M,A,x,B,y⟩:=m4.out.out;have M:=aaX M;go_quiet (first | (go_at_call 192;refine Calls.quiet_of_same (M.out _)))
 simp only [bH];rename_i nq;have hd:=bO w3 w nq ⟨hs,hb⟩;generalize alJ w3 nq=w4 at*;clear hs hb;obtain ⟨hs,hb⟩:=hd;go_wp2_with fail
 clear A x B y;rw [rounds_succ];have Z:u64.wrap c4=c4:=cY _ g4.out.1 g4.out.2;have Z':u64.wrap (0+c4)=c4:=by rw [Int.zero_add];exact Z
 go_wp2_with fail
 clear Z Z';rw [rounds_succ];go_wp2_with fail
 refine wp_loop_rounds 5 ?_;rw [rounds_succ];go_wp2_with fail
 obtain ⟨hi,lo,s,k,h,l,M,A,x,B,y⟩:=m5.out.out;have M:=aaX M;go_quiet (first | (go_at_call 192;refine Calls.quiet_of_same (M.out _)))
 simp only [bH];rename_i nq;have hd:=bO w4 w nq ⟨hs,hb⟩;generalize alJ w4 nq=w5 at*;clear hs hb;obtain ⟨hs,hb⟩:=hd;go_wp2_with fail
 clear A x B y;rw [rounds_succ];go_wp2_with fail
 obtain ⟨hi,lo,s,k,h,l,M,A,x,B,y⟩:=m6.out.out;have M:=aaX M;go_quiet (first | (go_at_call 192;refine Calls.quiet_of_same (M.out _)))
 simp only [bH];rename_i nq;have hd:=bO w5 w nq ⟨hs,hb⟩;generalize alJ w5 nq=w6 at*;clear hs hb;obtain ⟨hs,hb⟩:=hd;go_wp2_with fail
 clear A x B y;rw [rounds_succ];go_wp2_with fail
 obtain ⟨hi,lo,s,k,h,l,M,A,x,B,y⟩:=m7.out.out;have M:=aaX M;go_quiet (first | (go_at_call 192;refine Calls.quiet_of_same (M.out _)))
 simp only [bH];rename_i nq;have hd:=bO w6 w nq ⟨hs,hb⟩;generalize alJ w6 nq=w7 at*;clear hs hb;obtain ⟨hs,hb⟩:=hd;go_wp2_with fail
 clear A x B y;rw [rounds_succ];go_wp2_with fail
 obtain ⟨hi,lo,s,k,h,l,M,A,x,B,y⟩:=m8.out.out;have M:=aaX M;go_quiet (first | (go_at_call 192;refine Calls.quiet_of_same (M.out _)))
 simp only [bH];rename_i nq;have hd:=bO w7 w nq ⟨hs,hb⟩;generalize alJ w7 nq=w8 at*;clear hs hb;obtain ⟨hs,hb⟩:=hd;go_wp2_with fail
 clear A x B y;rw [rounds_succ];have Z:u64.wrap c8=c8:=cY _ g8.out.1 g8.out.2;have Z':u64.wrap (0+c8)=c8:=by rw [Int.zero_add];exact Z
 go_wp2_with fail
 clear Z Z';rw [rounds_succ];go_wp2_with fail
 refine wp_loop_rounds 5 ?_;rw [rounds_succ];go_wp2_with fail
 obtain ⟨hi,lo,s,k,h,l,M,A,x,B,y⟩:=m9.out.out;have M:=aaX M;go_quiet (first | (go_at_call 192;refine Calls.quiet_of_same (M.out _)))
 simp only [bH];rename_i nq;have hd:=bO w8 w nq ⟨hs,hb⟩;generalize alJ w8 nq=w9 at*;clear hs hb;obtain ⟨hs,hb⟩:=hd;go_wp2_with fail
 clear A x B y;rw [rounds_succ];go_wp2_with fail
 obtain ⟨hi,lo,s,k,h,l,M,A,x,B,y⟩:=m10.out.out;have M:=aaX M;go_quiet (first | (go_at_call 192;refine Calls.quiet_of_same (M.out _)))
 simp only [bH];rename_i nq;have hd:=bO w9 w nq ⟨hs,hb⟩;generalize alJ w9 nq=w10 at*;clear hs hb;obtain ⟨hs,hb⟩:=hd;go_wp2_with fail
 clear A x B y;rw [rounds_succ];go_wp2_with fail
 obtain ⟨hi,lo,s,k,h,l,M,A,x,B,y⟩:=m11.out.out;have M:=aaX M;go_quiet (first | (go_at_call 192;refine Calls.quiet_of_same (M.out _)))
 simp only [bH];rename_i nq;have hd:=bO w10 w nq ⟨hs,hb⟩;generalize alJ w10 nq=w11 at*;clear hs hb;obtain ⟨hs,hb⟩:=hd;go_wp2_with fail
 clear A x B y;rw [rounds_succ];go_wp2_with fail
 obtain ⟨hi,lo,s,k,h,l,M,A,x,B,y⟩:=m12.out.out;have M:=aaX M;go_quiet (first | (go_at_call 192;refine Calls.quiet_of_same (M.out _)))
 simp only [bH];rename_i nq;have hd:=bO w11 w nq ⟨hs,hb⟩;generalize alJ w11 nq=w12 at*;clear hs hb;obtain ⟨hs,hb⟩:=hd;go_wp2_with fail
 clear A x B y;rw [rounds_succ];have Z:u64.wrap c12=c12:=cY _ g12.out.1 g12.out.2;have Z':u64.wrap (0+c12)=c12:=by rw [Int.zero_add];exact Z
 go_wp2_with fail
 clear Z Z';rw [rounds_succ];go_wp2_with fail
 refine wp_loop_rounds 5 ?_;rw [rounds_succ];go_wp2_with fail
 obtain ⟨hi,lo,s,k,h,l,M,A,x,B,y⟩:=m13.out.out;have M:=aaX M;go_quiet (first | (go_at_call 192;refine Calls.quiet_of_same (M.out _)))
 simp only [bH];rename_i nq;have hd:=bO w12 w nq ⟨hs,hb⟩;generalize alJ w12 nq=w13 at*;clear hs hb;obtain ⟨hs,hb⟩:=hd;go_wp2_with fail
 clear A x B y;rw [rounds_succ];go_wp2_with fail
 obtain ⟨hi,lo,s,k,h,l,M,A,x,B,y⟩:=m14.out.out;have M:=aaX M;go_quiet (first | (go_at_call 192;refine Calls.quiet_of_same (M.out _)))
 simp only [bH];rename_i nq;have hd:=bO w13 w nq ⟨hs,hb⟩;generalize alJ w13 nq=w14 at*;clear hs hb;obtain ⟨hs,hb⟩:=hd;go_wp2_with fail
 clear A x B y;rw [rounds_succ];go_wp2_with fail
 obtain ⟨hi,lo,s,k,h,l,M,A,x,B,y⟩:=m15.out.out;have M:=aaX M;go_quiet (first | (go_at_call 192;refine Calls.quiet_of_same (M.out _)))
 simp only [bH];rename_i nq;have hd:=bO w14 w nq ⟨hs,hb⟩;generalize alJ w14 nq=w15 at*;clear hs hb;obtain ⟨hs,hb⟩:=hd;go_wp2_with fail
 clear A x B y;rw [rounds_succ];go_wp2_with fail
 obtain ⟨hi,lo,s,k,h,l,M,A,x,B,y⟩:=m16.out.out;have M:=aaX M;go_quiet (first | (go_at_call 192;refine Calls.quiet_of_same (M.out _)))
 simp only [bH];rename_i nq;have hd:=bO w15 w nq ⟨hs,hb⟩;generalize alJ w15 nq=w16 at*;clear hs hb;obtain ⟨hs,hb⟩:=hd;go_wp2_with fail
 clear A x B y;rw [rounds_succ];have Z:u64.wrap c16=c16:=cY _ g16.out.1 g16.out.2;have Z':u64.wrap (0+c16)=c16:=by rw [Int.zero_add];exact Z
 go_wp2_with fail
 clear Z Z';rw [rounds_succ];have HA:=array_at2;go_wp2_with fail
 simp [bodyPost,results,Tryz.results190,go_sem,hs];exact ⟨rfl,(((hb.alloc (by rw [hs];exact aaJ _) _).alloc (by simp [hs]) _).alloc (by simp [hs];omega) _).alloc (by simp [hs];omega) _⟩
theorem VJ (a b:Int) (ha:Big a) (hb:Big b) (w:World):Calls aaZ 190 #[iZ a,iZ b] w (cI (iZ (a*b/6277101735386680763835789423207666416102355444464034512896%115792089237316195423570985008687907853269984665640564039457584007913129639936)) w):=by
 obtain ⟨a0,a1,a2,a3,⟨ha0,ha1,ha2,ha3⟩,rfl,ea⟩:=cJ ha;obtain ⟨b0,b1,b2,b3,⟨hb0,hb1,hb2,hb3⟩,rfl,eb⟩:=cJ hb;rw [ea,eb];have hz:bQ 0:=⟨by omega,by omega⟩;obtain ⟨p1,c1,u1,v1,e1,m1⟩:=iA a3 b3 0 0 ha3 hb3 hz hz;obtain ⟨p2,c2,u2,v2,e2,m2⟩:=iA a3 b2 0 c1 ha3 hb2 hz v1;obtain ⟨p3,c3,u3,v3,e3,m3⟩:=iA a3 b1 0 c2 ha3 hb1 hz v2;obtain ⟨p4,c4,u4,v4,e4,m4⟩:=iA a3 b0 0 c3 ha3 hb0 hz v3;obtain ⟨p5,c5,u5,v5,e5,m5⟩:=iA a2 b3 p2 0 ha2 hb3 u2 hz;obtain ⟨p6,c6,u6,v6,e6,m6⟩:=iA a2 b2 p3 c5 ha2 hb2 u3 v5;obtain ⟨p7,c7,u7,v7,e7,m7⟩:=iA a2 b1 p4 c6 ha2 hb1 u4 v6;obtain ⟨p8,c8,u8,v8,e8,m8⟩:=iA a2 b0 c4 c7 ha2 hb0 v4 v7;obtain ⟨p9,c9,u9,v9,e9,m9⟩:=iA a1 b3 p6 0 ha1 hb3 u6 hz;obtain ⟨p10,c10,u10,v10,e10,m10⟩:=iA a1 b2 p7 c9 ha1 hb2 u7 v9;obtain ⟨p11,c11,u11,v11,e11,m11⟩:=iA a1 b1 p8 c10 ha1 hb1 u8 v10;obtain ⟨p12,c12,u12,v12,e12,m12⟩:=iA a1 b0 c8 c11 ha1 hb0 v8 v11;obtain ⟨p13,c13,u13,v13,e13,m13⟩:=iA a0 b3 p10 0 ha0 hb3 u10 hz;obtain ⟨p14,c14,u14,v14,e14,m14⟩:=iA a0 b2 p11 c13 ha0 hb2 u11 v13;obtain ⟨p15,c15,u15,v15,e15,m15⟩:=iA a0 b1 p12 c14 ha0 hb1 u12 v14;obtain ⟨p16,c16,u16,v16,e16,m16⟩:=iA a0 b0 c12 c15 ha0 hb0 v12 v15;have HM:=bmul_walk a0 a1 a2 a3 b0 b1 b2 b3 p1 c1 p2 c2 p3 c3 p4 c4 p5 c5 p6 c6 p7 c7 p8 c8 p9 c9 p10 c10 p11 c11 p12 c12 p13 c13 p14 c14 p15 c15 p16 c16 m1 m2 m3 m4 m5 m6 m7 m8 m9 m10 m11 m12 m13 m14 m15 m16 v4 v8 v12 v16 w;clear m1 m2 m3 m4 m5 m6 m7 m8 m9 m10 m11 m12 m13 m14 m15 m16;have hsum:num a0 a1 a2 a3*num b0 b1 b2 b3=c16*726838724295606890549323807888004534353641360687318060281490199180639288113397923326191050713763565560762521606266177933534601628614656+p16*39402006196394479212279040100143613805079739270465446667948293404245721771497210611414266254884915640806627990306816+p15*2135987035920910082395021706169552114602704522356652769947041607822219725780640550022962086936576+p14*115792089237316195423570985008687907853269984665640564039457584007913129639936+p13*6277101735386680763835789423207666416102355444464034512896+p9*340282366920938463463374607431768211456+p5*18446744073709551616+p1:=by
  have hex:num a0 a1 a2 a3*num b0 b1 b2 b3=a0*b0*39402006196394479212279040100143613805079739270465446667948293404245721771497210611414266254884915640806627990306816+a0*b1*2135987035920910082395021706169552114602704522356652769947041607822219725780640550022962086936576+a0*b2*115792089237316195423570985008687907853269984665640564039457584007913129639936+a0*b3*6277101735386680763835789423207666416102355444464034512896+a1*b0*2135987035920910082395021706169552114602704522356652769947041607822219725780640550022962086936576+a1*b1*115792089237316195423570985008687907853269984665640564039457584007913129639936+a1*b2*6277101735386680763835789423207666416102355444464034512896+a1*b3*340282366920938463463374607431768211456+a2*b0*115792089237316195423570985008687907853269984665640564039457584007913129639936+a2*b1*6277101735386680763835789423207666416102355444464034512896+a2*b2*340282366920938463463374607431768211456+a2*b3*18446744073709551616+a3*b0*6277101735386680763835789423207666416102355444464034512896+a3*b1*340282366920938463463374607431768211456+a3*b2*18446744073709551616+a3*b3*1:=by unfold num;grind
  rw [hex];clear hex HM ea eb ha hb hz ha0 ha1 ha2 ha3 hb0 hb1 hb2 hb3 u1 v1 u2 v2 u3 v3 u4 v4 u5 v5 u6 v6 u7 v7 u8 v8 u9 v9 u10 v10 u11 v11 u12 v12 u13 v13 u14 v14 u15 v15 u16 v16;generalize a0*b0=P00 at*;generalize a0*b1=P01 at*;generalize a0*b2=P02 at*;generalize a0*b3=P03 at*;generalize a1*b0=P10 at*;generalize a1*b1=P11 at*;generalize a1*b2=P12 at*;generalize a1*b3=P13 at*;generalize a2*b0=P20 at*;generalize a2*b1=P21 at*;generalize a2*b2=P22 at*;generalize a2*b3=P23 at*;generalize a3*b0=P30 at*;generalize a3*b1=P31 at*;generalize a3*b2=P32 at*;generalize a3*b3=P33 at*;omega
 have hs:num a0 a1 a2 a3*num b0 b1 b2 b3/6277101735386680763835789423207666416102355444464034512896%115792089237316195423570985008687907853269984665640564039457584007913129639936=num p16 p15 p14 p13:=by
  rw [hsum];obtain ⟨_,_⟩:=v16;obtain ⟨_,_⟩:=u16;obtain ⟨_,_⟩:=u15;obtain ⟨_,_⟩:=u14;obtain ⟨_,_⟩:=u13;obtain ⟨_,_⟩:=u9;obtain ⟨_,_⟩:=u5;obtain ⟨_,_⟩:=u1;clear HM ea eb ha hb hz ha0 ha1 ha2 ha3 hb0 hb1 hb2 hb3 hsum e1 e2 e3 e4 e5 e6 e7 e8 e9 e10 e11 e12 e13 e14 e15 e16;unfold num;omega
 rw [hs,zJ ⟨u16,u15,u14,u13⟩];exact HM
end
section
open Go.RowKit
def kJ (w:World) (b:Nat) (a0 a1 a2 a3:Int):Prop:=w.heap[b]? =some (.cells #[.int .u64 a0,.int .u64 a1,.int .u64 a2,.int .u64 a3] 176 (0,0))
theorem kJ.lt {w:World} {b:Nat} {a0 a1 a2 a3:Int} (h:kJ w b a0 a1 a2 a3):b<w.heap.size:=by
 unfold kJ at h;exact (Array.getElem?_eq_some_iff.1 h).1
theorem bU {w w':World} {b:Nat} {a0 a1 a2 a3:Int} (hb:Below w.heap.size w w') (h:kJ w b a0 a1 a2 a3):kJ w' b a0 a1 a2 a3:=(hb.block b h.lt).trans h
theorem kJ.alloc {w:World} {b:Nat} {a0 a1 a2 a3:Int} (h:kJ w b a0 a1 a2 a3) (o:Obj):kJ (w.alloc o) b a0 a1 a2 a3:=bU ((aeX _ _).alloc (aaJ _) _) h
theorem kJ.write {w:World} {b:Nat} {a0 a1 a2 a3:Int} (h:kJ w b a0 a1 a2 a3) (v0 v1 v2 v3:Int):
  kJ ((((w.setCell ⟨b,0,none⟩ (.int .u64 v0)).setCell ⟨b,1,none⟩ (.int .u64 v1)).setCell ⟨b,2,none⟩ (.int .u64 v2)).setCell ⟨b,3,none⟩ (.int .u64 v3)) b v0 v1 v2 v3:=by
 unfold kJ at*;simp [ayQ,h,Array.getElem?_modify]
theorem kJ.other {w:World} {b b':Nat} {a0 a1 a2 a3:Int} (h:kJ w b a0 a1 a2 a3) (hb:b≠b') (v0 v1 v2 v3:Value):
  kJ ((((w.setCell ⟨b',0,none⟩ v0).setCell ⟨b',1,none⟩ v1).setCell ⟨b',2,none⟩ v2).setCell ⟨b',3,none⟩ v3) b a0 a1 a2 a3:=by
 unfold kJ at*;have hb':b'≠b:=fun e=>hb e.symm;simp [ayQ,h,Array.getElem?_modify,hb']
theorem hI {w:World} {b:Nat} {a0 a1 a2 a3:Int} (h:kJ w b a0 a1 a2 a3):
  (w.cell? ⟨b,0,none⟩=some (.int .u64 a0)∧w.cell? ⟨b,1,none⟩=some (.int .u64 a1)∧w.cell? ⟨b,2,none⟩=some (.int .u64 a2)∧w.cell? ⟨b,3,none⟩=some (.int .u64 a3))∧
  w.frozen? ⟨b,0,none⟩=false∧w.frozen? ⟨b,1,none⟩=false∧w.frozen? ⟨b,2,none⟩=false∧w.frozen? ⟨b,3,none⟩=false:=by
 unfold kJ at h;refine ⟨⟨?_,?_,?_,?_⟩,?_,?_,?_,?_⟩<;>simp [World.cell?,World.frozen?,h]
theorem pi_any (w:World):Calls aaZ 188 #[] w (cI (iZ 19720096697726538562396133364228268891463450865190089732560) w):=by
 have e:iZ 19720096697726538562396133364228268891463450865190089732560=cO 3 2611923443488327891 1376283091369227076 11820040416388919760:=by unfold iZ;simp
 rw [e];have HB:=aaX ((aeX w.heap.size w).alloc (aaJ _) (.cells #[.int .u64 3,.int .u64 2611923443488327891,.int .u64 1376283091369227076,.int .u64 11820040416388919760] 176));unfold cO;go_enter Tryz.func188,Tryz.ntmps188;go_wp2;refine bodyPost_ret (v:=cO 3 2611923443488327891 1376283091369227076 11820040416388919760) (by simp [results,Tryz.results188,go_sem,cO]) rfl ⟨rfl,HB.out⟩
theorem eq73 (a b c d e f g h:Int) (w:World):(Op.equalIn 10000 176 (.agg #[.int .u64 a,.int .u64 b,.int .u64 c,.int .u64 d]) (.agg #[.int .u64 e,.int .u64 f,.int .u64 g,.int .u64 h])).run aaZ w=.ok (a==e&&(b==f&&(c==g&&d==h))) w:=by
 have u3:=Tryz.underlying174;have a3:=Tryz.isAgg174;have z3:=Tryz.sizeOf174;rw [show (10000:Nat)=9999+1 from rfl,Op.equalIn];simp only [Sem.run_bind,run_underlying Tryz.underlying176,Result.andThen_ok];simp only [Std.Legacy.Range.forIn_eq_forIn_range',Std.Legacy.Range.size,Nat.sub_zero,Nat.add_sub_cancel,Nat.div_one,List.range'_succ,List.range'_zero,List.forIn_cons,List.forIn_nil];go_simp
 by_cases h1:a=e<;>by_cases h2:b=f<;>by_cases h3:c=g<;>by_cases h4:d=h<;>simp [h1,h2,h3,h4]
end
section
open Go.RowKit
def jN (term sq n:Nat):Nat:=(term*sq/6277101735386680763835789423207666416102355444464034512896%115792089237316195423570985008687907853269984665640564039457584007913129639936)/((n+1)*(n+2))
def AR (minus:Bool) (sum term:Nat):Nat:=if minus then (sum+115792089237316195423570985008687907853269984665640564039457584007913129639936-term)%115792089237316195423570985008687907853269984665640564039457584007913129639936 else (sum+term)%115792089237316195423570985008687907853269984665640564039457584007913129639936
def wC:Nat→Bool→Nat→Nat→Nat→Nat→Nat
 | 0,_,sum,_,_,_=>sum
 | f+1,minus,sum,term,sq,n=>if term=0 then sum else wC f (!minus) (AR minus sum (jN term sq n)) (jN term sq n) sq (n+2)
def BlkV (w:World) (b:Nat) (V:Nat):Prop:=∃a0 a1 a2 a3:Int,(bQ a0∧bQ a1∧bQ a2∧bQ a3)∧num a0 a1 a2 a3=(V:Int)∧iZ (V:Int)=cO a0 a1 a2 a3∧kJ w b a0 a1 a2 a3
def SRel (w:World) (b7 b8:Nat) (F Q n R:Nat) (v2 v9:Value) (wr:World):Prop:=
 ∃(j:Nat) (m:Bool) (S T:Nat),v2=.int .u64 ((n+2*j:Nat):Int)∧v9=.bool m∧BlkV wr b7 S∧BlkV wr b8 T∧BlkV wr (w.heap.size+1) Q∧kJ wr (w.heap.size+1+1) 0 0 0 0∧T*2^j≤F∧j≤200∧wC (300-j) m S T Q (n+2*j)=R∧Below w.heap.size w wr
theorem GB (T Q n:Nat) (hQ:Q≤6277101735386680763835789423207666416102355444464034512896):2*jN T Q n≤T:=by
 unfold jN;have h1:T*Q/6277101735386680763835789423207666416102355444464034512896≤T:=by
  have:T*Q≤T*6277101735386680763835789423207666416102355444464034512896:=akQ _ hQ;exact Nat.div_le_of_le_mul (by rw [aoQ _ T];exact this)
 have h2:=Nat.mod_le (T*Q/6277101735386680763835789423207666416102355444464034512896) 115792089237316195423570985008687907853269984665640564039457584007913129639936;generalize T*Q/6277101735386680763835789423207666416102355444464034512896%115792089237316195423570985008687907853269984665640564039457584007913129639936=P at*;have h3:1*2≤(n+1)*(n+2):=aiX (by omega) (by omega);have h4:=Nat.div_mul_le_self P ((n+1)*(n+2));have h5:P/((n+1)*(n+2))*(1*2)≤P/((n+1)*(n+2))*((n+1)*(n+2)):=akQ _ h3;omega
theorem KY (F Q n:Nat) (hF:F<1606938044258990275541962092341162602522202993782792835301376) (hQ:Q≤6277101735386680763835789423207666416102355444464034512896) (hn:n≤1) (w:World):
  Calls aaZ 191 #[iZ (F:Int),iZ (Q:Int),.int .u64 (n:Int)] w (cI (iZ (wC 300 true F F Q n:Int)) w):=by
 obtain ⟨R,hR⟩:∃R,R=wC 300 true F F Q n:=⟨_,rfl⟩;rw [←hR];obtain ⟨f0,f1,f2,f3,wf,nf,ef⟩:=cJ (V:=(F:Int)) ⟨by omega,by omega⟩;obtain ⟨q0,q1,q2,q3,wq,nq,eq⟩:=cJ (V:=(Q:Int)) ⟨by omega,by omega⟩;have HI:∀p7 p8 b7 b8,(p7=Value.pointer (some ⟨b7,0,none⟩)∧p8=Value.pointer (some ⟨b8,0,none⟩))→((b7=w.heap.size+1+1+1∧b8=w.heap.size+1+1+1+1)∨(b8=w.heap.size+1+1+1∧b7=w.heap.size+1+1+1+1))→
   ∃c7 c8:Nat,p7=Value.pointer (some ⟨c7,0,none⟩)∧p8=Value.pointer (some ⟨c8,0,none⟩)∧c7≠c8∧w.heap.size+2<c7∧w.heap.size+2<c8∧
   SRel w c7 c8 F Q n R (.int .u64 (n:Int)) (.bool true) ((((((w.alloc (.cells #[.int .u64 f0,.int .u64 f1,.int .u64 f2,.int .u64 f3] 176)).alloc (.cells #[.int .u64 q0,.int .u64 q1,.int .u64 q2,.int .u64 q3] 176)).alloc (.cells #[.int .u64 0,.int .u64 0,.int .u64 0,.int .u64 0] 176)).alloc (.cells #[.int .u64 f0,.int .u64 f1,.int .u64 f2,.int .u64 f3] 176)).alloc (.cells #[.int .u64 f0,.int .u64 f1,.int .u64 f2,.int .u64 f3] 176)).drew):=by
  intro p7 p8 b7 b8 ⟨e7,e8⟩ hb;have A3:=heap_alloc_new (((w.alloc (.cells #[.int .u64 f0,.int .u64 f1,.int .u64 f2,.int .u64 f3] 176)).alloc (.cells #[.int .u64 q0,.int .u64 q1,.int .u64 q2,.int .u64 q3] 176)).alloc (.cells #[.int .u64 0,.int .u64 0,.int .u64 0,.int .u64 0] 176)) (.cells #[.int .u64 f0,.int .u64 f1,.int .u64 f2,.int .u64 f3] 176);have A4:=heap_alloc_new ((((w.alloc (.cells #[.int .u64 f0,.int .u64 f1,.int .u64 f2,.int .u64 f3] 176)).alloc (.cells #[.int .u64 q0,.int .u64 q1,.int .u64 q2,.int .u64 q3] 176)).alloc (.cells #[.int .u64 0,.int .u64 0,.int .u64 0,.int .u64 0] 176)).alloc (.cells #[.int .u64 f0,.int .u64 f1,.int .u64 f2,.int .u64 f3] 176)) (.cells #[.int .u64 f0,.int .u64 f1,.int .u64 f2,.int .u64 f3] 176);have A2:=heap_alloc_new ((w.alloc (.cells #[.int .u64 f0,.int .u64 f1,.int .u64 f2,.int .u64 f3] 176)).alloc (.cells #[.int .u64 q0,.int .u64 q1,.int .u64 q2,.int .u64 q3] 176)) (.cells #[.int .u64 0,.int .u64 0,.int .u64 0,.int .u64 0] 176);have A1:=heap_alloc_new (w.alloc (.cells #[.int .u64 f0,.int .u64 f1,.int .u64 f2,.int .u64 f3] 176)) (.cells #[.int .u64 q0,.int .u64 q1,.int .u64 q2,.int .u64 q3] 176);have HB:Below w.heap.size w (((((w.alloc (.cells #[.int .u64 f0,.int .u64 f1,.int .u64 f2,.int .u64 f3] 176)).alloc (.cells #[.int .u64 q0,.int .u64 q1,.int .u64 q2,.int .u64 q3] 176)).alloc (.cells #[.int .u64 0,.int .u64 0,.int .u64 0,.int .u64 0] 176)).alloc (.cells #[.int .u64 f0,.int .u64 f1,.int .u64 f2,.int .u64 f3] 176)).alloc (.cells #[.int .u64 f0,.int .u64 f1,.int .u64 f2,.int .u64 f3] 176)):=
   (((((aeX _ _).alloc (aaJ _) _).alloc (by simp) _).alloc (by simp;omega) _).alloc (by simp;omega) _).alloc (by simp;omega) _
  have B3:=(show kJ _ _ f0 f1 f2 f3 from A3).alloc (.cells #[.int .u64 f0,.int .u64 f1,.int .u64 f2,.int .u64 f3] 176);have B4:=(show kJ _ _ f0 f1 f2 f3 from A4);have B2:=((show kJ _ _ 0 0 0 0 from A2).alloc (.cells #[.int .u64 f0,.int .u64 f1,.int .u64 f2,.int .u64 f3] 176)).alloc (.cells #[.int .u64 f0,.int .u64 f1,.int .u64 f2,.int .u64 f3] 176);have B1:=(((show kJ _ _ q0 q1 q2 q3 from A1).alloc (.cells #[.int .u64 0,.int .u64 0,.int .u64 0,.int .u64 0] 176)).alloc (.cells #[.int .u64 f0,.int .u64 f1,.int .u64 f2,.int .u64 f3] 176)).alloc (.cells #[.int .u64 f0,.int .u64 f1,.int .u64 f2,.int .u64 f3] 176);have s1:(w.alloc (.cells #[.int .u64 f0,.int .u64 f1,.int .u64 f2,.int .u64 f3] 176)).heap.size=w.heap.size+1:=by simp
  have s2:((w.alloc (.cells #[.int .u64 f0,.int .u64 f1,.int .u64 f2,.int .u64 f3] 176)).alloc (.cells #[.int .u64 q0,.int .u64 q1,.int .u64 q2,.int .u64 q3] 176)).heap.size=w.heap.size+1+1:=by simp
  have s3:(((w.alloc (.cells #[.int .u64 f0,.int .u64 f1,.int .u64 f2,.int .u64 f3] 176)).alloc (.cells #[.int .u64 q0,.int .u64 q1,.int .u64 q2,.int .u64 q3] 176)).alloc (.cells #[.int .u64 0,.int .u64 0,.int .u64 0,.int .u64 0] 176)).heap.size=w.heap.size+1+1+1:=by simp
  have s4:((((w.alloc (.cells #[.int .u64 f0,.int .u64 f1,.int .u64 f2,.int .u64 f3] 176)).alloc (.cells #[.int .u64 q0,.int .u64 q1,.int .u64 q2,.int .u64 q3] 176)).alloc (.cells #[.int .u64 0,.int .u64 0,.int .u64 0,.int .u64 0] 176)).alloc (.cells #[.int .u64 f0,.int .u64 f1,.int .u64 f2,.int .u64 f3] 176)).heap.size=w.heap.size+1+1+1+1:=by simp
  rw [s1] at B1;rw [s2] at B2;rw [s3] at B3;rw [s4] at B4;have hR':wC (300-0) true F F Q (n+2*0)=R:=hR.symm;rcases hb with ⟨h7,h8⟩ | ⟨h8,h7⟩
  ·exact ⟨b7,b8,e7,e8,by omega,by omega,by omega,0,true,F,F,rfl,rfl,⟨_,_,_,_,wf,nf,ef,by rw [h7];exact B3⟩,⟨_,_,_,_,wf,nf,ef,by rw [h8];exact B4⟩,⟨_,_,_,_,wq,nq,eq,B1⟩,B2,by simp,by omega,hR',HB.drew⟩
  ·exact ⟨b7,b8,e7,e8,by omega,by omega,by omega,0,true,F,F,rfl,rfl,⟨_,_,_,_,wf,nf,ef,by rw [h7];exact B4⟩,⟨_,_,_,_,wf,nf,ef,by rw [h8];exact B3⟩,⟨_,_,_,_,wq,nq,eq,B1⟩,B2,by simp,by omega,hR',HB.drew⟩
 rw [ef,eq];have HI:=aaX HI;unfold cO;go_enter Tryz.func191,Tryz.ntmps191;go_upto_region 1 with fail
 go_cut [7,8] from 10 to 11 (fun p7 p8 wx=>∃c7 c8:Nat,p7=Value.pointer (some ⟨c7,0,none⟩)∧p8=Value.pointer (some ⟨c8,0,none⟩)∧c7≠c8∧w.heap.size+2<c7∧w.heap.size+2<c8∧SRel w c7 c8 F Q n R (.int .u64 (n:Int)) (.bool true) wx)
 case first=>
  go_region_with fail
  all_goals (
   go_wp2_with fail
   go_meet
   first
    | exact HI.out _ _ _ _ ⟨rfl,rfl⟩ (.inl ⟨rfl,rfl⟩)
    | exact HI.out _ _ _ _ ⟨rfl,rfl⟩ (.inr ⟨rfl,rfl⟩))
 case rest=>
  obtain ⟨b7,b8,rfl,rfl,h78,h7,h8,hcut⟩:=hcut;have HC:=aaX hcut;clear hcut HI hR wf nf ef wq nq eq;go_wp2_with fail
  go_loopw [2,9] (fun a m wr=>SRel w b7 b8 F Q n R a m wr) (fun a _ _=>1000-uOf a)
  case atStart=>exact HC.out
  case round=>
   clear HC;obtain ⟨j,m,S,T,rfl,rfl,⟨s0,s1,s2,s3,ws,ns,es,kS⟩,⟨t0,t1,t2,t3,wt,nt,et,kT⟩,⟨q0,q1,q2,q3,wq,nq,eq,kQ⟩,kZ,hT,hj,hs,hb⟩:=hrel;have l7:=kS.lt;have l8:=kT.lt;obtain ⟨⟨a0,a1,a2,a3⟩,a4,a5,a6,a7⟩:=hI kS;obtain ⟨⟨b0,b1,b2,b3⟩,b4,b5,b6,b7'⟩:=hI kT;obtain ⟨⟨c0,c1,c2,c3⟩,c4,c5,c6,c7⟩:=hI kQ;obtain ⟨⟨d0,d1,d2,d3⟩,d4,d5,d6,d7⟩:=hI kZ;have HB:=aaX hb;have KS:=aaX kS;have KT:=aaX kT;have KQ:=aaX kQ;have KZ:=aaX kZ;have HS:=aaX hs;have WS:=aaX ws;have WT:=aaX wt;have WQ:=aaX wq;have NS:=aaX ns;have NT:=aaX nt;have NQ:=aaX nq;have ES:=aaX es;have ET:=aaX et;have EQ:=aaX eq;clear hb kS kT kQ kZ hs ws wt wq ns nt nq es et eq;rcases Nat.eq_zero_or_pos T with hz | hz
   ·subst hz;have hw:t0=0∧t1=0∧t2=0∧t3=0:=by
     have e:=NT.out;obtain ⟨⟨_,_⟩,⟨_,_⟩,⟨_,_⟩,⟨_,_⟩⟩:=WT.out;unfold num at e;omega
    obtain ⟨rfl,rfl,rfl,rfl⟩:=hw;have hRS:R=S:=by
     have h:=HS.out;obtain ⟨f,hf⟩:∃f,300-j=f+1:=⟨299-j,by omega⟩;rw [hf,wC,if_pos rfl] at h;exact h.symm
    have KF:=KZ.out.write s0 s1 s2 s3;obtain ⟨⟨r0,r1,r2,r3⟩,r4,r5,r6,r7⟩:=hI KF;have HF:=aaX ((((HB.out.setCell (p:=⟨w.heap.size+1+1,0,none⟩) (by simp;omega) (.int .u64 s0)).setCell (p:=⟨w.heap.size+1+1,1,none⟩) (by simp;omega) (.int .u64 s1)).setCell (p:=⟨w.heap.size+1+1,2,none⟩) (by simp;omega) (.int .u64 s2)).setCell (p:=⟨w.heap.size+1+1,3,none⟩) (by simp;omega) (.int .u64 s3));have HRS:=aaX hRS;have HE:∀wr:World,(Op.equalIn 10000 176 (.agg #[.int .u64 0,.int .u64 0,.int .u64 0,.int .u64 0]) (.agg #[.int .u64 0,.int .u64 0,.int .u64 0,.int .u64 0])).run aaZ wr=.ok true wr:=fun wr=>eq73 _ _ _ _ _ _ _ _ wr;clear KF hRS hT;go_wp2;refine bodyPost_ret (v:=iZ (R:Int)) (by rw [HRS.out,ES.out];simp [results,Tryz.results191,go_sem,cO,r0,r1,r2,r3]) rfl ⟨rfl,HF.out⟩
   ·have hj2:j<200:=by
     rcases adZ j 200 with h | h
     ·exact h
     ·exfalso;have h1:2^200≤2^j:=Nat.pow_le_pow_right (by omega) h;have h2:1*2^j≤T*2^j:=arX _ hz;have h3:(2:Nat)^200=1606938044258990275541962092341162602522202993782792835301376:=by decide
      omega
    have hne:(t0==0&&(t1==0&&(t2==0&&t3==0)))=false:=by
     cases h:(t0==0&&(t1==0&&(t2==0&&t3==0)))
     ·rfl
     ·exfalso;simp only [Bool.and_eq_true,beq_iff_eq] at h;obtain ⟨rfl,rfl,rfl,rfl⟩:=h;have e:=NT.out;unfold num at e;omega
    have HE:∀wr:World,(Op.equalIn 10000 176 (.agg #[.int .u64 t0,.int .u64 t1,.int .u64 t2,.int .u64 t3]) (.agg #[.int .u64 0,.int .u64 0,.int .u64 0,.int .u64 0])).run aaZ wr=.ok false wr:=fun wr=>by rw [eq73,hne]
    generalize hN:n+2*j=N at*;have hNb:N≤500:=by omega
    have hT200:T<1606938044258990275541962092341162602522202993782792835301376:=by
     have:T*1≤T*2^j:=akQ _ (Nat.one_le_two_pow);omega
    have hS256:S<115792089237316195423570985008687907853269984665640564039457584007913129639936:=by
     have:=mC _ _ _ _ WS.out;have e:=NS.out;omega
    have hU:=GB T Q N hQ;have C81:=VJ (T:Int) (Q:Int) ⟨by omega,by omega⟩ ⟨by omega,by omega⟩;obtain ⟨m0,m1,m2,m3,wm,nm,em⟩:=cJ (V:=((T*Q/6277101735386680763835789423207666416102355444464034512896%115792089237316195423570985008687907853269984665640564039457584007913129639936:Nat):Int)) ⟨by omega,by omega⟩;have hM:((T:Int)*(Q:Int)/6277101735386680763835789423207666416102355444464034512896%115792089237316195423570985008687907853269984665640564039457584007913129639936)=((T*Q/6277101735386680763835789423207666416102355444464034512896%115792089237316195423570985008687907853269984665640564039457584007913129639936:Nat):Int):=by rw [Int.natCast_emod,Int.natCast_ediv,ajX];rfl
    rw [ET.out,EQ.out,hM,em] at C81;have hd1:2≤(N+1)*(N+2):=aiX (show 1≤N+1 by omega) (show 2≤N+2 by omega);have hd2:(N+1)*(N+2)≤501*502:=aiX (by omega) (by omega);have C80:=MX ((T*Q/6277101735386680763835789423207666416102355444464034512896%115792089237316195423570985008687907853269984665640564039457584007913129639936:Nat):Int) (((N+1)*(N+2):Nat):Int) ⟨by omega,by omega⟩ (by omega) (by omega);obtain ⟨u0,u1,u2,u3,wu,nu,eu⟩:=cJ (V:=(jN T Q N:Int)) ⟨by omega,by omega⟩;have hUd:(((T*Q/6277101735386680763835789423207666416102355444464034512896%115792089237316195423570985008687907853269984665640564039457584007913129639936:Nat):Int)/(((N+1)*(N+2):Nat):Int))=(jN T Q N:Int):=by unfold jN;rw [Int.natCast_ediv]
    rw [em,hUd,eu] at C80;have hRec:wC (300-(j+1)) (!m) (AR m S (jN T Q N)) (jN T Q N) Q (n+2*(j+1))=R:=by
     have h:=HS.out;obtain ⟨f,hf⟩:∃f,300-j=f+1:=⟨299-j,by omega⟩;rw [hf,wC,if_neg (by omega)] at h;rw [show 300-(j+1)=f by omega,show n+2*(j+1)=N+2 by omega];exact h
    have hT':jN T Q N*2^(j+1)≤F:=by
     have:jN T Q N*2*2^j≤T*2^j:=arX _ (by omega);rw [Nat.pow_succ,aoQ (2^j) 2,←Nat.mul_assoc];omega
    obtain ⟨v0,v1,v2,v3,wv,nv,ev⟩:=cJ (V:=(AR m S (jN T Q N):Int)) ⟨by omega,by unfold AR;split<;>omega⟩;have hDD:(((N+1)*(N+2):Nat):Int)=((N:Int)+1)*((N:Int)+2):=by push_cast;rfl
    have W1:u64.wrap ((N:Int)+1)=(N:Int)+1:=cY _ (by omega) (by omega);have W2:u64.wrap ((N:Int)+2)=(N:Int)+2:=cY _ (by omega) (by omega);have W3:u64.wrap (((N:Int)+1)*((N:Int)+2))=((N:Int)+1)*((N:Int)+2):=by rw [←hDD];exact cY _ (by omega) (by omega)
    rw [hDD] at C80;have hAdd:∀w,m=false→Calls aaZ 224 #[cO s0 s1 s2 s3,cO u0 u1 u2 u3] w (cI (cO v0 v1 v2 v3) w):=fun w hm=>by
     have h:=badd_any (S:Int) (jN T Q N:Int) ⟨by omega,by omega⟩ ⟨by omega,by omega⟩ w;have e:((S:Int)+(jN T Q N:Int))%115792089237316195423570985008687907853269984665640564039457584007913129639936=(AR m S (jN T Q N):Int):=by
      subst hm;unfold AR;rw [if_neg (by simp),Int.natCast_emod,Int.natCast_add];rfl
     rw [ES.out,eu,e,ev] at h;exact h
    have hSub:∀w,m=true→Calls aaZ 223 #[cO s0 s1 s2 s3,cO u0 u1 u2 u3] w (cI (cO v0 v1 v2 v3) w):=fun w hm=>by
     have h:=bsub_any (S:Int) (jN T Q N:Int) ⟨by omega,by omega⟩ ⟨by omega,by omega⟩ w;have e:((S:Int)-(jN T Q N:Int))%115792089237316195423570985008687907853269984665640564039457584007913129639936=(AR m S (jN T Q N):Int):=by
      subst hm;unfold AR;rw [if_pos rfl];omega
     rw [ES.out,eu,e,ev] at h;exact h
    have C81:=aaX C81;have C80:=aaX C80;have hAdd:=aaX hAdd;have hSub:=aaX hSub;have hRec:=aaX hRec;have hT':=aaX hT';have wu:=aaX wu;have wv:=aaX wv;have nu:=aaX nu;have nv:=aaX nv;have eu:=aaX eu;have ev:=aaX ev;have hN2:=aaX (show (N:Int)+2=((n+2*(j+1):Nat):Int) by omega);have hN:=aaX hN;clear hU hM hd1 hd2 hUd hDD wm nm em hne hT hT200 hS256 hF hQ;generalize AR m S (jN T Q N)=S' at*;generalize jN T Q N=T' at*;unfold cO at C81 C80 hAdd hSub;go_wp2_with fail
    refine (C81.out _).mono ?_;rintro e w1 ⟨rfl,hb⟩;have KS:=aaX (bU hb KS.out);have KT:=aaX (bU hb KT.out);have KQ:=aaX (bU hb KQ.out);have KZ:=aaX (bU hb KZ.out);have HB:=aaX (HB.out.trans (hb.mono HB.out.size));clear hb;go_wp2_with fail
    refine (C80.out _).mono ?_;rintro e w2 ⟨rfl,hb⟩;have kT:=bU hb KT.out;have l9:=kT.lt;obtain ⟨⟨g0,g1,g2,g3⟩,g4,g5,g6,g7⟩:=hI kT;have kS:=(bU hb KS.out).other h78 (.int .u64 u0) (.int .u64 u1) (.int .u64 u2) (.int .u64 u3);have l6:=kS.lt;obtain ⟨⟨i0,i1,i2,i3⟩,i4,i5,i6,i7⟩:=hI kS;have kU:=kT.write u0 u1 u2 u3;obtain ⟨⟨p0,p1,p2,p3⟩,p4,p5,p6,p7⟩:=hI kU;have KQ:=aaX ((bU hb KQ.out).other (b':=b8) (by omega) (.int .u64 u0) (.int .u64 u1) (.int .u64 u2) (.int .u64 u3));have KZ:=aaX ((bU hb KZ.out).other (b':=b8) (by omega) (.int .u64 u0) (.int .u64 u1) (.int .u64 u2) (.int .u64 u3));have HB:=aaX (((((HB.out.trans (hb.mono HB.out.size)).setCell (p:=⟨b8,0,none⟩) (by simp;omega) (.int .u64 u0)).setCell (p:=⟨b8,1,none⟩) (by simp;omega) (.int .u64 u1)).setCell (p:=⟨b8,2,none⟩) (by simp;omega) (.int .u64 u2)).setCell (p:=⟨b8,3,none⟩) (by simp;omega) (.int .u64 u3));have KS:=aaX kS;have KU:=aaX kU;clear hb kT kS kU KT;cases m
    ·have H9:=aaX (fun w=>hAdd.out w rfl);clear hSub hAdd;go_wp2_with fail
     generalize (((w2.setCell ⟨b8,0,none⟩ (.int .u64 u0)).setCell ⟨b8,1,none⟩ (.int .u64 u1)).setCell ⟨b8,2,none⟩ (.int .u64 u2)).setCell ⟨b8,3,none⟩ (.int .u64 u3)=w3 at*;refine (H9.out _).mono ?_;rintro e w4 ⟨rfl,hb⟩;have kS:=bU hb KS.out;have l5:=kS.lt;obtain ⟨⟨x0,x1,x2,x3⟩,x4,x5,x6,x7⟩:=hI kS;have KF:=aaX (kS.write v0 v1 v2 v3);have KU:=aaX ((bU hb KU.out).other h78.symm (.int .u64 v0) (.int .u64 v1) (.int .u64 v2) (.int .u64 v3));have KQ:=aaX ((bU hb KQ.out).other (b':=b7) (by omega) (.int .u64 v0) (.int .u64 v1) (.int .u64 v2) (.int .u64 v3));have KZ:=aaX ((bU hb KZ.out).other (b':=b7) (by omega) (.int .u64 v0) (.int .u64 v1) (.int .u64 v2) (.int .u64 v3));have HB:=aaX (((((HB.out.trans (hb.mono HB.out.size)).setCell (p:=⟨b7,0,none⟩) (by simp;omega) (.int .u64 v0)).setCell (p:=⟨b7,1,none⟩) (by simp;omega) (.int .u64 v1)).setCell (p:=⟨b7,2,none⟩) (by simp;omega) (.int .u64 v2)).setCell (p:=⟨b7,3,none⟩) (by simp;omega) (.int .u64 v3));clear hb kS;go_wp2;go_roundw
     case rel=>exact ⟨j+1,_,S',T',congrArg (Value.int .u64) hN2.out,rfl,⟨_,_,_,_,wv.out,nv.out,ev.out,KF.out⟩,⟨_,_,_,_,wu.out,nu.out,eu.out,KU.out⟩,⟨_,_,_,_,WQ.out,NQ.out,EQ.out,KQ.out⟩,KZ.out,hT'.out,by omega,hRec.out,HB.out⟩
     case measure=>simp [uOf];omega
    ·have H9:=aaX (fun w=>hSub.out w rfl);clear hAdd hSub;go_wp2_with fail
     generalize (((w2.setCell ⟨b8,0,none⟩ (.int .u64 u0)).setCell ⟨b8,1,none⟩ (.int .u64 u1)).setCell ⟨b8,2,none⟩ (.int .u64 u2)).setCell ⟨b8,3,none⟩ (.int .u64 u3)=w3 at*;refine (H9.out _).mono ?_;rintro e w4 ⟨rfl,hb⟩;have kS:=bU hb KS.out;have l5:=kS.lt;obtain ⟨⟨x0,x1,x2,x3⟩,x4,x5,x6,x7⟩:=hI kS;have KF:=aaX (kS.write v0 v1 v2 v3);have KU:=aaX ((bU hb KU.out).other h78.symm (.int .u64 v0) (.int .u64 v1) (.int .u64 v2) (.int .u64 v3));have KQ:=aaX ((bU hb KQ.out).other (b':=b7) (by omega) (.int .u64 v0) (.int .u64 v1) (.int .u64 v2) (.int .u64 v3));have KZ:=aaX ((bU hb KZ.out).other (b':=b7) (by omega) (.int .u64 v0) (.int .u64 v1) (.int .u64 v2) (.int .u64 v3));have HB:=aaX (((((HB.out.trans (hb.mono HB.out.size)).setCell (p:=⟨b7,0,none⟩) (by simp;omega) (.int .u64 v0)).setCell (p:=⟨b7,1,none⟩) (by simp;omega) (.int .u64 v1)).setCell (p:=⟨b7,2,none⟩) (by simp;omega) (.int .u64 v2)).setCell (p:=⟨b7,3,none⟩) (by simp;omega) (.int .u64 v3));clear hb kS;go_wp2;go_roundw
     case rel=>exact ⟨j+1,_,S',T',congrArg (Value.int .u64) hN2.out,rfl,⟨_,_,_,_,wv.out,nv.out,ev.out,KF.out⟩,⟨_,_,_,_,wu.out,nu.out,eu.out,KU.out⟩,⟨_,_,_,_,WQ.out,NQ.out,EQ.out,KQ.out⟩,KZ.out,hT'.out,by omega,hRec.out,HB.out⟩
     case measure=>simp [uOf];omega
end
section
open Go.RowKit
def dP (k:Nat):Nat:=19720096697726538562396133364228268891463450865190089732560*k/10800000
def pJ (k:Nat):Nat:=dP k*dP k/6277101735386680763835789423207666416102355444464034512896
def tV (k:Nat):Nat:=wC 300 true (dP k) (dP k) (pJ k) 1
def tR (k:Nat):Nat:=wC 300 true 6277101735386680763835789423207666416102355444464034512896 6277101735386680763835789423207666416102355444464034512896 (pJ k) 0
def jD (k:Nat):Nat:=if k≤2700000 then tV k else tR (5400000-k)
def iV (k:Nat):Nat:=if k≤2700000 then tR k else tV (5400000-k)
theorem pO (k:Nat) (hk:k≤2700000):dP k<6277101735386680763835789423207666416102355444464034512896:=by unfold dP;omega
theorem sqN_lt (k:Nat) (hk:k≤2700000):pJ k<6277101735386680763835789423207666416102355444464034512896:=by
 have h:=pO k hk;unfold pJ;generalize dP k=t at*;have:t*t≤t*6277101735386680763835789423207666416102355444464034512896:=akQ _ (by omega);generalize t*t=P at*;omega
theorem oJ:∀(f:Nat) (m:Bool) (s t q n:Nat),s<115792089237316195423570985008687907853269984665640564039457584007913129639936→wC f m s t q n<115792089237316195423570985008687907853269984665640564039457584007913129639936
 | 0,_,s,_,_,_,h=>h
 | f+1,m,s,t,q,n,h=>by
  unfold wC;split
  ·exact h
  ·exact oJ f _ _ _ _ _ (by unfold AR;split<;>omega)
theorem ID (k:Nat) (hk:k≤2700000) (w:World):Calls aaZ 158 #[.int .i64 (k:Int)] w (cI (.tuple #[iZ (tV k:Int),iZ (tR k:Int)]) w):=by
 have ht:=pO k hk;have hq:=sqN_lt k hk;have P1:=pi_any;have P2:=yB 19720096697726538562396133364228268891463450865190089732560 (k:Int) ⟨by omega,by omega⟩ (by omega) (by omega);obtain ⟨e0,e1,e2,e3,_,_,ee⟩:=cJ (V:=19720096697726538562396133364228268891463450865190089732560) ⟨by omega,by omega⟩;have hP:19720096697726538562396133364228268891463450865190089732560*(k:Int)%115792089237316195423570985008687907853269984665640564039457584007913129639936=19720096697726538562396133364228268891463450865190089732560*(k:Int):=by omega
 obtain ⟨m0,m1,m2,m3,_,_,em⟩:=cJ (V:=19720096697726538562396133364228268891463450865190089732560*(k:Int)) ⟨by omega,by omega⟩;have P3:=MX (19720096697726538562396133364228268891463450865190089732560*(k:Int)) 10800000 ⟨by omega,by omega⟩ (by omega) (by omega);have hA:19720096697726538562396133364228268891463450865190089732560*(k:Int)/10800000=(dP k:Int):=by unfold dP;rw [Int.natCast_ediv,ajX];rfl
 obtain ⟨t0,t1,t2,t3,_,_,et⟩:=cJ (V:=(dP k:Int)) ⟨by omega,by omega⟩;have P4:=VJ (dP k:Int) (dP k:Int) ⟨by omega,by omega⟩ ⟨by omega,by omega⟩;have hQ:(dP k:Int)*(dP k:Int)/6277101735386680763835789423207666416102355444464034512896%115792089237316195423570985008687907853269984665640564039457584007913129639936=(pJ k:Int):=by
  have:(dP k:Int)*(dP k:Int)/6277101735386680763835789423207666416102355444464034512896=(pJ k:Int):=by unfold pJ;rw [Int.natCast_ediv,ajX];rfl
  rw [this];omega
 obtain ⟨q0,q1,q2,q3,_,_,eq⟩:=cJ (V:=(pJ k:Int)) ⟨by omega,by omega⟩;have P5:=KY (dP k) (pJ k) 1 (by omega) (by omega) (by omega);have P6:=KY 6277101735386680763835789423207666416102355444464034512896 (pJ k) 0 (by omega) (by omega) (by omega);have hs1:=oJ 300 true (dP k) (dP k) (pJ k) 1 (by omega);have hs2:=oJ 300 true 6277101735386680763835789423207666416102355444464034512896 6277101735386680763835789423207666416102355444464034512896 (pJ k) 0 (by omega);change tV k<_ at hs1;change tR k<_ at hs2;obtain ⟨s0,s1,s2,s3,_,_,es⟩:=cJ (V:=(tV k:Int)) ⟨by omega,by omega⟩;obtain ⟨c0,c1,c2,c3,_,_,ec⟩:=cJ (V:=(tR k:Int)) ⟨by omega,by omega⟩;have eo:iZ ((6277101735386680763835789423207666416102355444464034512896:Nat):Int)=cO 1 0 0 0:=by unfold iZ;simp
 change ∀w,Calls aaZ 191 #[_,_,_] w (cI (iZ (tV k:Int)) w) at P5;change ∀w,Calls aaZ 191 #[_,_,_] w (cI (iZ (tR k:Int)) w) at P6;rw [ee] at P1;rw [ee,hP,em] at P2;rw [em,hA,et] at P3;rw [et,hQ,eq] at P4;rw [et,eq,es] at P5;rw [eo,eq,ec] at P6;rw [es,ec];rw [show ((1:Nat):Int)=1 from rfl] at P5;rw [show ((0:Nat):Int)=0 from rfl] at P6;have hw:u64.wrap (k:Int)=(k:Int):=cY _ (by omega) (by omega);replace P1:=aaX P1;replace P2:=aaX P2;replace P3:=aaX P3;replace P4:=aaX P4;replace P5:=aaX P5;replace P6:=aaX P6;clear hs1 hs2 ee hP em hA et hQ eq es ec eo ht hq;have K2:=aaX (show kJ _ w.heap.size 0 0 0 0 from gH w (.cells #[.int .u64 0,.int .u64 0,.int .u64 0,.int .u64 0] 176) (.cells #[.int .u64 0,.int .u64 0,.int .u64 0,.int .u64 0] 176));have K3:=aaX (show kJ _ (w.heap.size+1) 0 0 0 0 from eM w (.cells #[.int .u64 0,.int .u64 0,.int .u64 0,.int .u64 0] 176) (.cells #[.int .u64 0,.int .u64 0,.int .u64 0,.int .u64 0] 176));have HB:=aaX (((aeX w.heap.size w).alloc (aaJ _) (.cells #[.int .u64 0,.int .u64 0,.int .u64 0,.int .u64 0] 176)).alloc (by simp) (.cells #[.int .u64 0,.int .u64 0,.int .u64 0,.int .u64 0] 176));unfold cO at P1 P2 P3 P4 P5 P6 ⊢;go_enter Tryz.func158,Tryz.ntmps158;go_wp2_with fail
 refine (P1.out _).mono ?_;rintro e w1 ⟨rfl,hb⟩;have K2:=aaX (bU hb K2.out);have K3:=aaX (bU hb K3.out);have HB:=aaX (HB.out.trans (hb.mono HB.out.size));clear hb;go_wp2_with fail
 refine (P2.out _).mono ?_;rintro e w2 ⟨rfl,hb⟩;have K2:=aaX (bU hb K2.out);have K3:=aaX (bU hb K3.out);have HB:=aaX (HB.out.trans (hb.mono HB.out.size));clear hb;go_wp2_with fail
 refine (P3.out _).mono ?_;rintro e w3 ⟨rfl,hb⟩;have K2:=aaX ((bU hb K2.out).alloc (.cells #[.int .u64 t0,.int .u64 t1,.int .u64 t2,.int .u64 t3] 176));have K3:=aaX ((bU hb K3.out).alloc (.cells #[.int .u64 t0,.int .u64 t1,.int .u64 t2,.int .u64 t3] 176));have K4:=aaX (show kJ _ w3.heap.size t0 t1 t2 t3 from heap_alloc_new w3 (.cells #[.int .u64 t0,.int .u64 t1,.int .u64 t2,.int .u64 t3] 176));have HB:=aaX ((HB.out.trans (hb.mono HB.out.size)).alloc (by have:=HB.out.size;have:=hb.size;omega) (.cells #[.int .u64 t0,.int .u64 t1,.int .u64 t2,.int .u64 t3] 176));clear hb;go_wp2_with fail
 refine (P4.out _).mono ?_;rintro e w4 ⟨rfl,hb⟩;have K2:=aaX ((bU hb K2.out).alloc (.cells #[.int .u64 q0,.int .u64 q1,.int .u64 q2,.int .u64 q3] 176));have K3:=aaX ((bU hb K3.out).alloc (.cells #[.int .u64 q0,.int .u64 q1,.int .u64 q2,.int .u64 q3] 176));have K4:=aaX ((bU hb K4.out).alloc (.cells #[.int .u64 q0,.int .u64 q1,.int .u64 q2,.int .u64 q3] 176));have K5:=aaX (show kJ _ w4.heap.size q0 q1 q2 q3 from heap_alloc_new w4 (.cells #[.int .u64 q0,.int .u64 q1,.int .u64 q2,.int .u64 q3] 176));have HB:=aaX ((HB.out.trans (hb.mono HB.out.size)).alloc (by have:=HB.out.size;have:=hb.size;omega) (.cells #[.int .u64 q0,.int .u64 q1,.int .u64 q2,.int .u64 q3] 176));clear hb;go_wp2_with fail
 generalize w4.alloc (.cells #[.int .u64 q0,.int .u64 q1,.int .u64 q2,.int .u64 q3] 176)=w5 at*;have l2:=K2.out.lt;have l3:=K3.out.lt;have l4:=K4.out.lt;have l5:=K5.out.lt;obtain ⟨⟨a20,a21,a22,a23⟩,f20,f21,f22,f23⟩:=hI K2.out;obtain ⟨⟨a30,a31,a32,a33⟩,f30,f31,f32,f33⟩:=hI K3.out;obtain ⟨⟨a40,a41,a42,a43⟩,f40,f41,f42,f43⟩:=hI K4.out;obtain ⟨⟨a50,a51,a52,a53⟩,f50,f51,f52,f53⟩:=hI K5.out;clear P1 P2 P3 P4;go_region_with (
  go_at_call 191
  first | with_reducible refine (P5.out _).mono ?_ | with_reducible refine (P6.out _).mono ?_
  rintro e w6 ⟨rfl,hb⟩;have k2:=bU hb (by exact K2.out);have k3:=bU hb (by exact K3.out);have k4:=bU hb (by exact K4.out);have k5:=bU hb (by exact K5.out);have l2:=k2.lt;have l3:=k3.lt;have l4:=k4.lt;have l5:=k5.lt;obtain ⟨⟨a20,a21,a22,a23⟩,f20,f21,f22,f23⟩:=hI k2;obtain ⟨⟨a30,a31,a32,a33⟩,f30,f31,f32,f33⟩:=hI k3;obtain ⟨⟨a40,a41,a42,a43⟩,f40,f41,f42,f43⟩:=hI k4;obtain ⟨⟨a50,a51,a52,a53⟩,f50,f51,f52,f53⟩:=hI k5;have HB:=aaX (show Below w.heap.size w w6 from by first | exact HB.out.trans (hb.mono HB.out.size) | exact HB.out.drew.trans (hb.mono HB.out.size));have K2:=aaX k2;have K3:=aaX k3;have K4:=aaX k4;have K5:=aaX k5;clear hb k2 k3 k4 k5)
 all_goals (
  have k2:=(K2.out.write s0 s1 s2 s3).other (b':=w.heap.size+1) (by omega) (.int .u64 c0) (.int .u64 c1) (.int .u64 c2) (.int .u64 c3);have k3:=(K3.out.other (b':=w.heap.size) (by omega) (.int .u64 s0) (.int .u64 s1) (.int .u64 s2) (.int .u64 s3)).write c0 c1 c2 c3;obtain ⟨⟨r0,r1,r2,r3⟩,g0,g1,g2,g3⟩:=hI k2;obtain ⟨⟨r4,r5,r6,r7⟩,g4,g5,g6,g7⟩:=hI k3;have HF:=aaX (((((((((HB.out).setCell (p:=⟨w.heap.size,0,none⟩) (by first | exact aaJ _ | simp) (.int .u64 s0)).setCell (p:=⟨w.heap.size,1,none⟩) (by first | exact aaJ _ | simp) (.int .u64 s1)).setCell (p:=⟨w.heap.size,2,none⟩) (by first | exact aaJ _ | simp) (.int .u64 s2)).setCell (p:=⟨w.heap.size,3,none⟩) (by first | exact aaJ _ | simp) (.int .u64 s3)).setCell (p:=⟨w.heap.size+1,0,none⟩) (by first | exact aaJ _ | simp) (.int .u64 c0)).setCell (p:=⟨w.heap.size+1,1,none⟩) (by first | exact aaJ _ | simp) (.int .u64 c1)).setCell (p:=⟨w.heap.size+1,2,none⟩) (by first | exact aaJ _ | simp) (.int .u64 c2)).setCell (p:=⟨w.heap.size+1,3,none⟩) (by first | exact aaJ _ | simp) (.int .u64 c3));clear k2 k3;go_wp2;refine bodyPost_ret (v:=.tuple #[cO s0 s1 s2 s3,cO c0 c1 c2 c3]) (by simp [results,Tryz.results158,go_sem,cO,r0,r1,r2,r3,r4,r5,r6,r7]) rfl ⟨rfl,?_⟩;first
   | exact HF.out
   | exact HF.out.drew)
end
section
open Go.RowKit
theorem VU (k:Nat) (hk:2700000<k) (hk2:k≤5400000) (w:World):Calls aaZ 158 #[.int .i64 (k:Int)] w (cI (.tuple #[iZ (tR (5400000-k):Int),iZ (tV (5400000-k):Int)]) w):=by
 have P1:=ID (5400000-k) (by omega);rw [show ((5400000-k:Nat):Int)=5400000-(k:Int) by omega] at P1;have hs1:=oJ 300 true (dP (5400000-k)) (dP (5400000-k)) (pJ (5400000-k)) 1 (by have:=pO (5400000-k) (by omega);omega);have hs2:=oJ 300 true 6277101735386680763835789423207666416102355444464034512896 6277101735386680763835789423207666416102355444464034512896 (pJ (5400000-k)) 0 (by omega);change tV (5400000-k)<_ at hs1;change tR (5400000-k)<_ at hs2;obtain ⟨s0,s1,s2,s3,_,_,es⟩:=cJ (V:=(tV (5400000-k):Int)) ⟨by omega,by omega⟩;obtain ⟨c0,c1,c2,c3,_,_,ec⟩:=cJ (V:=(tR (5400000-k):Int)) ⟨by omega,by omega⟩;rw [es,ec] at P1;rw [es,ec];replace P1:=aaX P1;clear hs1 hs2 es ec;have K2:=aaX (show kJ _ w.heap.size 0 0 0 0 from gH w (.cells #[.int .u64 0,.int .u64 0,.int .u64 0,.int .u64 0] 176) (.cells #[.int .u64 0,.int .u64 0,.int .u64 0,.int .u64 0] 176));have K3:=aaX (show kJ _ (w.heap.size+1) 0 0 0 0 from eM w (.cells #[.int .u64 0,.int .u64 0,.int .u64 0,.int .u64 0] 176) (.cells #[.int .u64 0,.int .u64 0,.int .u64 0,.int .u64 0] 176));have HB:=aaX (((aeX w.heap.size w).alloc (aaJ _) (.cells #[.int .u64 0,.int .u64 0,.int .u64 0,.int .u64 0] 176)).alloc (by simp) (.cells #[.int .u64 0,.int .u64 0,.int .u64 0,.int .u64 0] 176));unfold cO at P1 ⊢;go_enter Tryz.func158,Tryz.ntmps158;go_wp2_with fail
 refine (P1.out _).mono ?_;rintro e w1 ⟨rfl,hb⟩;have k2:=bU hb K2.out;have k3:=bU hb K3.out;have l2:=k2.lt;have l3:=k3.lt;obtain ⟨⟨a20,a21,a22,a23⟩,f20,f21,f22,f23⟩:=hI k2;obtain ⟨⟨a30,a31,a32,a33⟩,f30,f31,f32,f33⟩:=hI k3;have K2:=aaX ((k2.other (b':=w.heap.size+1) (by omega) (.int .u64 s0) (.int .u64 s1) (.int .u64 s2) (.int .u64 s3)).write c0 c1 c2 c3);have K3:=aaX ((k3.write s0 s1 s2 s3).other (b':=w.heap.size) (by omega) (.int .u64 c0) (.int .u64 c1) (.int .u64 c2) (.int .u64 c3));have HB:=aaX (((((((((HB.out.trans (hb.mono HB.out.size)).setCell (p:=⟨w.heap.size+1,0,none⟩) (by first | exact aaJ _ | simp) (.int .u64 s0)).setCell (p:=⟨w.heap.size+1,1,none⟩) (by first | exact aaJ _ | simp) (.int .u64 s1)).setCell (p:=⟨w.heap.size+1,2,none⟩) (by first | exact aaJ _ | simp) (.int .u64 s2)).setCell (p:=⟨w.heap.size+1,3,none⟩) (by first | exact aaJ _ | simp) (.int .u64 s3)).setCell (p:=⟨w.heap.size,0,none⟩) (by first | exact aaJ _ | simp) (.int .u64 c0)).setCell (p:=⟨w.heap.size,1,none⟩) (by first | exact aaJ _ | simp) (.int .u64 c1)).setCell (p:=⟨w.heap.size,2,none⟩) (by first | exact aaJ _ | simp) (.int .u64 c2)).setCell (p:=⟨w.heap.size,3,none⟩) (by first | exact aaJ _ | simp) (.int .u64 c3));clear hb k2 k3;go_wp2_with fail
 generalize ((((((((w1).setCell ⟨w.heap.size+1,0,none⟩ (.int .u64 s0)).setCell ⟨w.heap.size+1,1,none⟩ (.int .u64 s1)).setCell ⟨w.heap.size+1,2,none⟩ (.int .u64 s2)).setCell ⟨w.heap.size+1,3,none⟩ (.int .u64 s3)).setCell ⟨w.heap.size,0,none⟩ (.int .u64 c0)).setCell ⟨w.heap.size,1,none⟩ (.int .u64 c1)).setCell ⟨w.heap.size,2,none⟩ (.int .u64 c2)).setCell ⟨w.heap.size,3,none⟩ (.int .u64 c3)=w5 at*;have l2:=K2.out.lt;have l3:=K3.out.lt;obtain ⟨⟨a20,a21,a22,a23⟩,f20,f21,f22,f23⟩:=hI K2.out;obtain ⟨⟨a30,a31,a32,a33⟩,f30,f31,f32,f33⟩:=hI K3.out;go_region_with fail
 all_goals (
  have k2:=(K2.out.write c0 c1 c2 c3).other (b':=w.heap.size+1) (by omega) (.int .u64 s0) (.int .u64 s1) (.int .u64 s2) (.int .u64 s3);have k3:=(K3.out.other (b':=w.heap.size) (by omega) (.int .u64 c0) (.int .u64 c1) (.int .u64 c2) (.int .u64 c3)).write s0 s1 s2 s3;obtain ⟨⟨r0,r1,r2,r3⟩,g0,g1,g2,g3⟩:=hI k2;obtain ⟨⟨r4,r5,r6,r7⟩,g4,g5,g6,g7⟩:=hI k3;have HF:=aaX (((((((((HB.out).setCell (p:=⟨w.heap.size,0,none⟩) (by first | exact aaJ _ | simp) (.int .u64 c0)).setCell (p:=⟨w.heap.size,1,none⟩) (by first | exact aaJ _ | simp) (.int .u64 c1)).setCell (p:=⟨w.heap.size,2,none⟩) (by first | exact aaJ _ | simp) (.int .u64 c2)).setCell (p:=⟨w.heap.size,3,none⟩) (by first | exact aaJ _ | simp) (.int .u64 c3)).setCell (p:=⟨w.heap.size+1,0,none⟩) (by first | exact aaJ _ | simp) (.int .u64 s0)).setCell (p:=⟨w.heap.size+1,1,none⟩) (by first | exact aaJ _ | simp) (.int .u64 s1)).setCell (p:=⟨w.heap.size+1,2,none⟩) (by first | exact aaJ _ | simp) (.int .u64 s2)).setCell (p:=⟨w.heap.size+1,3,none⟩) (by first | exact aaJ _ | simp) (.int .u64 s3));clear k2 k3;go_wp2;refine bodyPost_ret (v:=.tuple #[cO c0 c1 c2 c3,cO s0 s1 s2 s3]) (by simp [results,Tryz.results158,go_sem,cO,r0,r1,r2,r3,r4,r5,r6,r7]) rfl ⟨rfl,?_⟩;exact HF.out.drew)
theorem circle_any (k:Nat) (hk:k≤5400000) (w:World):Calls aaZ 158 #[.int .i64 (k:Int)] w (cI (.tuple #[iZ (jD k:Int),iZ (iV k:Int)]) w):=by
 unfold jD iV;rcases adZ 2700000 k with h | h
 ·rw [if_neg (by omega),if_neg (by omega)];exact VU k h hk w
 ·rw [if_pos h,if_pos h];exact ID k h w
end
section
open Go.RowKit
def rJ:Nat:=115792089237316195423570985008687907853269984665640564039457584007913129639936
def kD (x y k:Nat):Bool:=if k=0 then true else if k=2700000 then decide (x≤y) else !decide (iV k*y%rJ<jD k*x%rJ)
theorem sinN_lt (k:Nat) (hk:k≤5400000):jD k<rJ∧iV k<rJ:=by
 unfold jD iV tV tR rJ;rcases adZ 2700000 k with h | h
 ·rw [if_neg (by omega),if_neg (by omega)];exact ⟨oJ _ _ _ _ _ _ (by omega),oJ _ _ _ _ _ _ (by have:=pO (5400000-k) (by omega);omega)⟩
 ·rw [if_pos h,if_pos h];exact ⟨oJ _ _ _ _ _ _ (by have:=pO k h;omega),oJ _ _ _ _ _ _ (by omega)⟩
theorem keep10 {w0 W w1:World} {b c d:Nat} {v0 v1 v2 v3 v4 v5 v6 v7 v8 v9:Value} (h:(W.cell? ⟨b,0,none⟩=some v0∧W.cell? ⟨b,1,none⟩=some v1∧W.cell? ⟨c,0,none⟩=some v2∧W.cell? ⟨c,1,none⟩=some v3∧W.cell? ⟨c,2,none⟩=some v4∧W.cell? ⟨c,3,none⟩=some v5∧W.cell? ⟨d,0,none⟩=some v6∧W.cell? ⟨d,1,none⟩=some v7∧W.cell? ⟨d,2,none⟩=some v8∧W.cell? ⟨d,3,none⟩=some v9)∧Below w0.heap.size w0 W) (hb:Below W.heap.size W w1):
  (w1.cell? ⟨b,0,none⟩=some v0∧w1.cell? ⟨b,1,none⟩=some v1∧w1.cell? ⟨c,0,none⟩=some v2∧w1.cell? ⟨c,1,none⟩=some v3∧w1.cell? ⟨c,2,none⟩=some v4∧w1.cell? ⟨c,3,none⟩=some v5∧w1.cell? ⟨d,0,none⟩=some v6∧w1.cell? ⟨d,1,none⟩=some v7∧w1.cell? ⟨d,2,none⟩=some v8∧w1.cell? ⟨d,3,none⟩=some v9)∧Below w0.heap.size w0 w1:=by
 obtain ⟨⟨h0,h1,h2,h3,h4,h5,h6,h7,h8,h9⟩,hB⟩:=h;have hlt:=World.block_lt_of_cell? W _ h0;have hlc:=World.block_lt_of_cell? W _ h2;have hld:=World.block_lt_of_cell? W _ h6;exact ⟨⟨(hb.cell (p:=⟨b,0,none⟩) hlt).trans h0,(hb.cell (p:=⟨b,1,none⟩) hlt).trans h1,(hb.cell (p:=⟨c,0,none⟩) hlc).trans h2,(hb.cell (p:=⟨c,1,none⟩) hlc).trans h3,(hb.cell (p:=⟨c,2,none⟩) hlc).trans h4,(hb.cell (p:=⟨c,3,none⟩) hlc).trans h5,(hb.cell (p:=⟨d,0,none⟩) hld).trans h6,(hb.cell (p:=⟨d,1,none⟩) hld).trans h7,(hb.cell (p:=⟨d,2,none⟩) hld).trans h8,(hb.cell (p:=⟨d,3,none⟩) hld).trans h9⟩,hB.trans (hb.mono hB.size)⟩
theorem ZF (x y k:Nat) (hx:x≤2147483648) (hy:y≤2147483648) (hk:k≤5400000) (w:World):Calls aaZ 124 #[aG (x:Int) (y:Int),.int .i64 (k:Int)] w (cI (.bool (kD x y k)) w):=by
 obtain ⟨V,hV⟩:∃V,V=Value.bool (kD x y k):=⟨_,rfl⟩;rw [←hV];have K1:=aaX (show dG 106 _ w.heap.size (x:Int) (y:Int) from heap_alloc_new w (.cells #[.int .i64 (x:Int),.int .i64 (y:Int)] 106));have HB:=aaX ((aeX w.heap.size w).alloc (aaJ _) (.cells #[.int .i64 (x:Int),.int .i64 (y:Int)] 106));unfold kD at hV;by_cases h0:k=0
 ·subst h0;rw [show ((0:Nat):Int)=0 from rfl];rw [if_pos rfl] at hV;replace hV:=aaX hV;unfold aG;go_enter Tryz.func124,Tryz.ntmps124;go_wp2;go_ret;exact ⟨by rw [hV.out];rfl,HB.out⟩
 by_cases h1:k=2700000
 ·subst h1;rw [show ((2700000:Nat):Int)=2700000 from rfl];rw [if_neg (by omega),if_pos rfl] at hV;replace hV:=aaX hV;unfold aG;go_enter Tryz.func124,Tryz.ntmps124;go_wp2;go_ret;exact ⟨by rw [hV.out];simp,HB.out⟩
 rw [if_neg h0,if_neg h1] at hV;have hlt:=sinN_lt k hk;unfold rJ at hlt;have P1:=circle_any k hk;obtain ⟨s0,s1,s2,s3,_,_,es⟩:=cJ (V:=(jD k:Int)) ⟨by omega,by omega⟩;obtain ⟨c0,c1,c2,c3,_,_,ec⟩:=cJ (V:=(iV k:Int)) ⟨by omega,by omega⟩;have P2:=yB (iV k:Int) (y:Int) ⟨by omega,by omega⟩ (by omega) (by omega);have P3:=yB (jD k:Int) (x:Int) ⟨by omega,by omega⟩ (by omega) (by omega);have e2:(iV k:Int)*(y:Int)%115792089237316195423570985008687907853269984665640564039457584007913129639936=((iV k*y%rJ:Nat):Int):=by rw [Int.natCast_emod,ajX];rfl
 have e3:(jD k:Int)*(x:Int)%115792089237316195423570985008687907853269984665640564039457584007913129639936=((jD k*x%rJ:Nat):Int):=by rw [Int.natCast_emod,ajX];rfl
 have b2:iV k*y%rJ<rJ:=Nat.mod_lt _ (by decide);have b3:jD k*x%rJ<rJ:=Nat.mod_lt _ (by decide);rw [e2] at P2;rw [e3] at P3;clear e2 e3;generalize iV k*y%rJ=A at*;generalize jD k*x%rJ=B at*;unfold rJ at b2 b3;have P4:=blt_any (A:Int) (B:Int) ⟨by omega,by omega⟩ ⟨by omega,by omega⟩;obtain ⟨p0,p1,p2,p3,_,_,ea⟩:=cJ (V:=(A:Int)) ⟨by omega,by omega⟩;obtain ⟨q0,q1,q2,q3,_,_,eb⟩:=cJ (V:=(B:Int)) ⟨by omega,by omega⟩;have ed:decide ((A:Int)<(B:Int))=decide (A<B):=by simp
 rw [es,ec] at P1;rw [ec,ea] at P2;rw [es,eb] at P3;rw [ea,eb,ed] at P4;generalize decide (A<B)=d at*;have wx:u64.wrap (x:Int)=(x:Int):=cY _ (by omega) (by omega);have wy:u64.wrap (y:Int)=(y:Int):=cY _ (by omega) (by omega);unfold cO at P1 P2 P3 P4;replace P1:=aaX P1;replace P2:=aaX P2;replace P3:=aaX P3;replace P4:=aaX P4;replace hV:=aaX hV;clear hlt es ec ea eb ed b2 b3;unfold aG;go_enter Tryz.func124,Tryz.ntmps124;go_wp2_with fail
 refine (P1.out _).mono ?_;rintro e w1 ⟨rfl,hb⟩;have K1:=aaX (((aD hb K1.out).alloc (.cells #[.int .u64 s0,.int .u64 s1,.int .u64 s2,.int .u64 s3] 176)).alloc (.cells #[.int .u64 c0,.int .u64 c1,.int .u64 c2,.int .u64 c3] 176));have K5:=aaX (show kJ _ w1.heap.size s0 s1 s2 s3 from gH w1 (.cells #[.int .u64 s0,.int .u64 s1,.int .u64 s2,.int .u64 s3] 176) (.cells #[.int .u64 c0,.int .u64 c1,.int .u64 c2,.int .u64 c3] 176));have K6:=aaX (show kJ _ (w1.heap.size+1) c0 c1 c2 c3 from eM w1 (.cells #[.int .u64 s0,.int .u64 s1,.int .u64 s2,.int .u64 s3] 176) (.cells #[.int .u64 c0,.int .u64 c1,.int .u64 c2,.int .u64 c3] 176));have HB:=aaX (((HB.out.trans (hb.mono HB.out.size)).alloc (by have:=HB.out.size;have:=hb.size;omega) (.cells #[.int .u64 s0,.int .u64 s1,.int .u64 s2,.int .u64 s3] 176)).alloc (by have:=HB.out.size;have:=hb.size;simp;omega) (.cells #[.int .u64 c0,.int .u64 c1,.int .u64 c2,.int .u64 c3] 176));clear hb;go_wp2_with fail
 generalize (w1.alloc (.cells #[.int .u64 s0,.int .u64 s1,.int .u64 s2,.int .u64 s3] 176)).alloc (.cells #[.int .u64 c0,.int .u64 c1,.int .u64 c2,.int .u64 c3] 176)=w5 at*;have l1:=K1.out.lt;have l5:=K5.out.lt;have l6:=K6.out.lt;obtain ⟨⟨a10,a11⟩,f10,f11⟩:=aL K1.out;obtain ⟨⟨a50,a51,a52,a53⟩,f50,f51,f52,f53⟩:=hI K5.out;obtain ⟨⟨a60,a61,a62,a63⟩,f60,f61,f62,f63⟩:=hI K6.out;clear P1;go_region_held3 (fun w'=>(w'.cell? ⟨w.heap.size,0,none⟩=some (.int .i64 (x:Int))∧w'.cell? ⟨w.heap.size,1,none⟩=some (.int .i64 (y:Int))∧w'.cell? ⟨w1.heap.size,0,none⟩=some (.int .u64 s0)∧w'.cell? ⟨w1.heap.size,1,none⟩=some (.int .u64 s1)∧w'.cell? ⟨w1.heap.size,2,none⟩=some (.int .u64 s2)∧w'.cell? ⟨w1.heap.size,3,none⟩=some (.int .u64 s3)∧w'.cell? ⟨w1.heap.size+1,0,none⟩=some (.int .u64 c0)∧w'.cell? ⟨w1.heap.size+1,1,none⟩=some (.int .u64 c1)∧w'.cell? ⟨w1.heap.size+1,2,none⟩=some (.int .u64 c2)∧w'.cell? ⟨w1.heap.size+1,3,none⟩=some (.int .u64 c3))∧Below w5.heap.size w5 w')
  (first | exact ⟨⟨a10,a11,a50,a51,a52,a53,a60,a61,a62,a63⟩,(aeX _ _).drew⟩ | exact keep10 (by assumption) (by assumption))
  (first
   | (go_at_call 159;(first | with_reducible refine (P2.out _).mono ?_ | with_reducible refine (P3.out _).mono ?_);rintro e w6 ⟨rfl,hb⟩)
   | (go_at_call 160;(with_reducible refine (P4.out _).mono ?_);rintro e w6 ⟨rfl,hb⟩))
 have hh:Below w5.heap.size w5 w6:=And.right (by assumption);have HF:=aaX (HB.out.trans (hh.mono HB.out.size));clear hh;go_wp2;go_ret;exact ⟨by rw [hV.out];rfl,HF.out⟩
end
end
end Go.Proofs.YtajpgkpdhcbngaaGreatDoor
