/-
  The integer root: matrix.root for every number of 64 bits. Rotated vectors: what each function gives. A divided triangle: what each function gives. Haversines: what each function gives. Sight.
-/
import Derived.Test.YtajpgkpdhcbngaaGreatDoorU2
import Derived.LoopN
import Derived.WalkSpells
import Derived.StillTactics
import Derived.Deep.RegionWith
import Derived.Test.YtajpgkpdhcbngaaGreatDoorU6
import Derived.Test.YtajpgkpdhcbngaaGreatDoorU11
set_option maxRecDepth 100000
set_option maxHeartbeats 4000000
open _root_.Int renaming fdiv→atZ,natCast_mul→ajX,tdiv→arZ
open Go.Lib renaming bitLen→ajJ,hid→aaX
open _root_.Nat renaming lt_or_ge→adZ,mod_eq_of_lt→aqQ,mul_le_mul→aiX,mul_le_mul_left→akQ,pow_le_pow_right→akJ,pow_succ→apQ,two_pow_pos→anX
open Go.Proofs.Tryz renaming prog→aaZ
open Go.IntKind (i64 u64)
namespace Go.Proofs.YtajpgkpdhcbngaaGreatDoor
noncomputable section
section
open Go.RowKit Go.Shelf
def bs (n:Nat):Nat→Nat→Nat→Nat
 | 0,low,_=>low
 | k+1,low,high=>if high-low≤1 then low else if ((low+high)/2)*((low+high)/2)≤n then bs n k ((low+high)/2) high else bs n k low ((low+high)/2)
def isq (n:Nat):Nat:=bs n 32 0 4294967296
theorem bs_ok (n:Nat):∀k l h,l<h→h-l≤2^k→l*l≤n→n<h*h→bs n k l h*bs n k l h≤n∧n<(bs n k l h+1)*(bs n k l h+1)
 | 0,l,h,h1,h2,h3,h4=>by
  have:h=l+1:=by omega
  subst this;exact ⟨h3,h4⟩
 | k+1,l,h,h1,h2,h3,h4=>by
  rw [apQ] at h2;unfold bs;split
  ·rename_i c;have:h=l+1:=by omega
   subst this;exact ⟨h3,h4⟩
  ·split
   ·rename_i c d;exact bs_ok n k _ h (by omega) (by omega) d h4
   ·rename_i c d;exact bs_ok n k l _ (by omega) (by omega) h3 (by omega)
theorem isq_ok {n:Nat} (h:n<18446744073709551616):isq n*isq n≤n∧n<(isq n+1)*(isq n+1):=bs_ok n 32 0 4294967296 (by omega) (by decide) (by omega) (by omega)
theorem OL {n r s:Nat} (h1:r*r≤n) (h2:n<(r+1)*(r+1)) (h3:s*s≤n) (h4:n<(s+1)*(s+1)):r=s:=by
 rcases Nat.lt_trichotomy r s with h | h | h
 ·have:=aiX (show r+1≤s by omega) (show r+1≤s by omega);omega
 ·exact h
 ·have:=aiX (show s+1≤r by omega) (show s+1≤r by omega);omega
def RPost (w:World) (v:Value) (e:Ending) (w':World):Prop:=e=.returned v∧Below w.heap.size w w'
theorem len_any (x:Int) (h0:0≤x) (h1:x≤18446744073709551615) (w:World):Calls aaZ 217 #[.int .u64 x] w (GH (ajJ x.toNat:Int) w):=
 Calls.mono (Any.bits_Len64 {Tryz.lays134 with} x w h0 h1) fun _ _ h=>⟨h.1,h.2.symm⟩
def uOfR:Value→Int
 | .int _ x=>x
 | _=>0
def RS (n r b:Nat):Prop:=(b=0∧r=isq n)∨(b=4294967296∧r=0)∨∃k,k≤31∧b=2^k∧2^(k+1)∣r∧r*r≤n∧n<(r+2^(k+1))*(r+2^(k+1))
theorem or_two {r k:Nat} (hk:k≤31) (hr:r<4294967296) (hd:2^(k+1)∣r):bits BinOp.or IntKind.u64 (r:Int) ((2^k:Nat):Int)=((r+2^k:Nat):Int):=by
 obtain ⟨q,rfl⟩:=hd;have h1:2^k<2^(k+1):=by rw [apQ];have:=anX k;omega
 have h2:2^k≤2^31:=akJ (by omega) hk;have e:=Nat.two_pow_add_eq_or_of_lt h1 q;unfold bits;simp only [BitVec.ofInt_natCast];have t:(BitVec.ofNat IntKind.u64.bits (2^(k+1)*q)||| BitVec.ofNat IntKind.u64.bits (2^k)).toNat=2^(k+1)*q+2^k:=by
  rw [BitVec.toNat_or,BitVec.toNat_ofNat,BitVec.toNat_ofNat,e];have m1:2^(k+1)*q%2^IntKind.u64.bits=2^(k+1)*q:=aqQ (by show _<18446744073709551616;omega);have m2:2^k%2^IntKind.u64.bits=2^k:=aqQ (by show _<18446744073709551616;omega);rw [m1,m2]
 rw [t];generalize 2^(k+1)*q=a at*;generalize 2^k=c at*;exact IntWalk.u64_in _ (by omega)
theorem rs_step {n r b:Nat} (hn:n<18446744073709551616) (h:RS n r b) (hb:0<b) (hb2:b≠4294967296):
  r+b<4294967296∧b≤2147483648∧bits BinOp.or IntKind.u64 (r:Int) (b:Int)=((r+b:Nat):Int)∧((r+b)*(r+b)≤n→RS n (r+b) (b/2))∧(¬(r+b)*(r+b)≤n→RS n r (b/2)):=by
 rcases h with ⟨h,_⟩ | ⟨h,_⟩ | ⟨k,hk,rfl,hd,h1,h2⟩
 ·omega
 ·omega
 have hr:r<4294967296:=by
  rcases adZ r 4294967296 with h | h
  ·exact h
  ·have:=aiX h h;omega
 have hp:2^k≤2^31:=akJ (by omega) hk;have hi:=isq_ok hn;have hx:r+2^k<4294967296:=by
  obtain ⟨q,hq⟩:=hd;have e:2^(k+1)*2^(31-k)=4294967296:=by
   rw [←Nat.pow_add,show k+1+(31-k)=32 by omega]
  have:q<2^(31-k):=by
   rcases adZ q (2^(31-k)) with z | z
   ·exact z
   ·have:=akQ (2^(k+1)) z;omega
  have g:=akQ (2^(k+1)) (show q+1≤2^(31-k) from this);rw [Nat.mul_add,←hq,e] at g;have:2^(k+1)=2^k*2:=apQ 2 k;have:=anX k;omega
 refine ⟨hx,hp,or_two hk hr hd,fun hx=>?_,fun hx=>?_⟩
 ·cases k with
  | zero=>exact .inl ⟨rfl,OL hx (by have:=h2;simpa using this) hi.1 hi.2⟩
  | succ k=>
   refine .inr (.inr ⟨k,by omega,by rw [apQ];omega,Nat.dvd_add (Nat.dvd_trans ⟨2,by rw [apQ]⟩ hd) ⟨1,by omega⟩,hx,?_⟩);have:r+2^(k+1)+2^(k+1)=r+2^(k+1+1):=by rw [apQ 2 (k+1)];omega
   rw [this];exact h2
 ·cases k with
  | zero=>exact .inl ⟨rfl,OL h1 (by have:=hx;simp at this;simpa using this) hi.1 hi.2⟩
  | succ k=>
   refine .inr (.inr ⟨k,by omega,by rw [apQ];omega,Nat.dvd_trans ⟨2,by rw [apQ]⟩ hd,h1,by omega⟩)
theorem rs_top {n:Nat} (hn:n<18446744073709551616) {r:Nat} (h:RS n r 4294967296):r=0∧RS n 0 2147483648:=by
 rcases h with ⟨h,_⟩ | ⟨_,h⟩ | ⟨k,hk,h,_⟩
 ·omega
 ·exact ⟨h,.inr (.inr ⟨31,by omega,by decide,⟨0,rfl⟩,by omega,by omega⟩)⟩
 ·have:2^k≤2^31:=akJ (by omega) hk;omega
theorem rs_start {n:Nat} (hn:n<18446744073709551616):ajJ n≤64∧RS n 0 (2^(ajJ n/2)):=by
 have hl:ajJ n≤64:=Lib.bitLen_le n 64 (by omega) hn;refine ⟨hl,?_⟩;by_cases h64:ajJ n=64
 ·rw [h64];exact .inr (.inl ⟨by decide,rfl⟩)
 refine .inr (.inr ⟨ajJ n/2,by omega,rfl,⟨0,rfl⟩,by omega,?_⟩);have hb:n<2^ajJ n:=by
  by_cases z:n=0
  ·subst z;exact anX _
  ·exact (Lib.bitLenAux_bounds 64 n (by omega) z).2.2
 rw [Nat.zero_add,←Nat.pow_add];exact Nat.lt_of_lt_of_le hb (akJ (by omega) (by omega))
theorem root_any (n:Nat) (hn:n<18446744073709551616) (w:World):Calls aaZ 183 #[.int .u64 (n:Int)] w (RPost w (.int .u64 (isq n:Int))):=by
 have HL:=aaX (show ∀W,Calls aaZ 217 #[.int .u64 (n:Int)] W (GH (ajJ n:Int) W) from fun W=>by
  have:=len_any (n:Int) (by omega) (by omega) W;rwa [Int.toNat_natCast] at this)
 obtain ⟨hl,hs⟩:=rs_start hn;have HS:=aaX hs;have hB0:u64.wrap (2^((ajJ n:Int)/2).toNat)=((2^(ajJ n/2):Nat):Int):=by
  have e:((ajJ n:Int)/2).toNat=ajJ n/2:=by omega
  have h2:2^(ajJ n/2)≤2^32:=akJ (by omega) (by omega);have c:(2:Int)^(ajJ n/2)=((2^(ajJ n/2):Nat):Int):=by rw [Int.natCast_pow];rfl
  rw [e,c];generalize 2^(ajJ n/2)=z at*;exact IntWalk.u64_in _ (by omega)
 have HB:=aaX (Below.refl w.heap.size w);have HST:=aaX (fun (r b:Nat) (h:RS n r b) (hb:0<b) (hb2:b≠4294967296)=>rs_step hn h hb hb2);have HTOP:=aaX (fun (r:Nat) (h:RS n r 4294967296)=>rs_top hn h);have HEN:=aaX (fun (r:Nat) (h:RS n r 0)=>show r=isq n from by
  rcases h with ⟨_,h⟩ | ⟨h,_⟩ | ⟨k,_,h,_⟩
  ·exact h
  ·omega
  ·have:=anX k;omega)
 have hl':0≤(ajJ n:Int)∧(ajJ n:Int)≤64:=by omega
 clear hl hs;generalize 2^(ajJ n/2)=b0 at*;generalize (ajJ n:Int)=l at*;have ht:l.tdiv 2=l/2:=Int.tdiv_eq_ediv_of_nonneg hl'.1;obtain ⟨N,hN⟩:∃N:Int,N=(n:Int):=⟨_,rfl⟩;have n0:0≤N:=by omega
 have n1:N<18446744073709551616:=by omega
 rw [←hN] at HL ⊢;replace hN:=aaX hN;clear hn;go_enter Tryz.func183,Tryz.ntmps183;go_wp2_with fail
 refine (HL.out _).mono ?_;rintro e w1 ⟨rfl,rfl⟩;clear HL;go_wp2;go_loopw [3,4] (fun r b wr=>∃r' b':Nat,r=.int .u64 (r':Int)∧b=.int .u64 (b':Int)∧RS n r' b'∧Below w.heap.size w wr) (fun r b _=>(uOfR b).toNat)
 case atStart=>exact ⟨0,b0,rfl,rfl,HS.out,HB.out⟩
 case round=>
  clear HS HB hB0;obtain ⟨r,b,rfl,rfl,hs,hb⟩:=hrel;have HB:=aaX hb;clear hb;rcases Nat.eq_zero_or_pos b with hb | hb
  ·subst hb;have HF:=aaX (show RPost w (.int .u64 (isq n:Int)) (.returned (.int .u64 (r:Int))) wr from ⟨by rw [HEN.out r hs],HB.out⟩);have z:¬(((0:Nat):Int)>0):=by omega
   clear hs;go_wp2;go_ret;exact HF.out
  by_cases hb2:b=4294967296
  ·subst hb2;obtain ⟨r0,t0⟩:=HTOP.out r hs;subst r0;have H0:=aaX t0;clear hs t0 hb;have hor:bits BinOp.or IntKind.u64 ((0:Nat):Int) ((4294967296:Nat):Int)=4294967296:=by decide+kernel
   have hw:u64.wrap ((4294967296:Int)*4294967296)=0:=by decide+kernel
   have hdv:(4294967296:Int).fdiv 2=2147483648:=by decide+kernel
   have ME:=aaX (show (uOfR (.int .u64 2147483648)).toNat<(uOfR (.int .u64 ((4294967296:Nat):Int))).toNat by decide+kernel);rw [show ((0:Nat):Int)=0 from rfl,show ((4294967296:Nat):Int)=4294967296 from rfl] at hor;rw [show ((4294967296:Nat):Int)=4294967296 from rfl] at ME;rw [show ((0:Nat):Int)=0 from rfl,show ((4294967296:Nat):Int)=4294967296 from rfl];go_wp2;go_roundw
   case rel=>exact ⟨0,2147483648,rfl,rfl,H0.out,HB.out⟩
   case measure=>exact ME.out
  ·obtain ⟨s1,s2,s3,s4,s5⟩:=HST.out r b hs hb hb2;have hcm:=aaX (show ((r+b:Nat):Int)*((r+b:Nat):Int)≤N↔(r+b)*(r+b)≤n by rw [hN.out,←ajX];exact Int.ofNat_le);have hq:=aaX (show ((b/2:Nat):Int)=(b:Int)/2 by omega);have hw:u64.wrap (((r+b:Nat):Int)*((r+b:Nat):Int))=((r+b:Nat):Int)*((r+b:Nat):Int):=by
    have:=aiX (show r+b≤4294967295 by omega) (show r+b≤4294967295 by omega);rw [←ajX];generalize (r+b)*(r+b)=p at*;exact IntWalk.u64_in _ (by omega)
   have hs4:=aaX s4;have hs5:=aaX s5;clear s4 s5 hs;obtain ⟨X,hX⟩:∃X:Int,X=((r+b:Nat):Int):=⟨_,rfl⟩;obtain ⟨R,hR⟩:∃R:Int,R=(r:Int):=⟨_,rfl⟩;obtain ⟨B,hB⟩:∃B:Int,B=(b:Int):=⟨_,rfl⟩;have i1:0≤X:=by omega
   have i2:X<4294967296:=by omega
   have i3:0<B:=by omega
   have i4:B≤2147483648:=by omega
   rw [←hX,←hR,←hB] at s3;rw [←hX] at hw hcm;rw [←hB] at hq;rw [←hR,←hB];replace hX:=aaX hX;replace hR:=aaX hR;replace hB:=aaX hB;clear s1 s2 hb;have hfd:B.fdiv 2=B/2:=Int.fdiv_eq_ediv_of_nonneg _ (by omega);have ME:=aaX (show (uOfR (.int .u64 (B/2))).toNat<(uOfR (.int .u64 B)).toNat by simp only [uOfR];omega);by_cases hc:X*X≤N
   ·have h4:=aaX (hs4.out (hcm.out.1 hc));clear hs4 hs5 hcm;go_wp2;go_roundw
    case rel=>exact ⟨r+b,b/2,by rw [hX.out],by rw [hq.out],h4.out,HB.out⟩
    case measure=>exact ME.out
   ·have h5:=aaX (hs5.out (fun q=>hc (hcm.out.2 q)));clear hs4 hs5 hcm;go_wp2;go_roundw
    case rel=>exact ⟨r,b/2,by rw [hR.out],by rw [hq.out],h5.out,HB.out⟩
    case measure=>exact ME.out
end
section
open Ev
def qN (a b _e:Int):Int×Int:=(a,b)
def sO (k _a _b e:Int):Int:=bG k e
def kFm0:bJ:=(11,rI (fun a b c d=>aP (cR a b c d)))::(21,eT (fun a b c d e f=>.bool (dV a b c d e f)))::(24,eP (fun a b=>.bool (aE a b)))::(33,eP (fun a b=>aP (bE a b)))::(34,rI (fun a b c d=>aP (aX a b c d)))::(45,rI (fun a b c d=>aP (gB a b c d)))::(65,eP (fun a b=>aP (aK a b)))::(66,eP (fun a b=>aP (aI a b)))::(67,rI (fun a b c d=>aP (bF a b c d)))::(68,rI (fun a b c d=>aP (lJ a b c d)))::(69,eP (fun a b=>aP (mM a b)))::[]
theorem kFm0_ok:aJ aaZ kFm0:=(aA (dM jQ) (aA (lO jP) (aA (dD (fun a b W _=>lE a b W)) (aA (dD (fun a b W _=>PO a b W)) (aA (dM (fun a b c d W _=>zH a b c d W)) (aA (dM mR) (aA (dD (fun a b W _=>LB a b W)) (aA (dD (fun a b W _=>DL a b W)) (aA (dM jM) (aA (dM sI) (aA (dD yO) fE)))))))))))
theorem xkeepV_mods (k a b c:Int):gN aaZ 64 65 k [.agg ⟨[.int .i64 a,.int .i64 b]⟩,.int .i64 c] (aG (qN a b c).1 (qN a b c).2) (sO k a b c):=by
 refine bM bK kFm0_ok (t:=cond (k==0) (some (.v (.agg ⟨[.int .i64 a,.int .i64 b]⟩),⟨[.v (.int .i64 c)],65⟩)) (some (.v (.agg ⟨[.int .i64 a,.int .i64 b]⟩),⟨[.v (.int .i64 k)],65⟩))) (by kernel_rfl) ?_;unfold sO bG;by_cases h:k=0
 ·simp [h];rfl
 ·have e:(k==0)=false:=beq_eq_false_iff_ne.2 h;rw [e];simp [h];rfl
def tO (a b:Int):Int×Int:=((aK a b).1,(aK a b).2.1)
def xV (k a b:Int):Int:=bG k (aK a b).2.2
def kFm1:bJ:=(64,cPI 65 (fun a b c=>aG (qN a b c).1 (qN a b c).2) sO)::kFm0
theorem kFm1_ok:aJ aaZ kFm1:=(aA (rP xkeepV_mods) kFm0_ok)
theorem xsinV_mods (k a b:Int):gN aaZ 27 65 k [.agg ⟨[.int .i64 a,.int .i64 b]⟩] (aG (tO a b).1 (tO a b).2) (xV k a b):=by
 refine bM bK kFm1_ok (t:=lt (aK a b) fun x1=>lt (qN x1.1 x1.2.1 x1.2.2) fun x3=>lt (sO k x1.1 x1.2.1 x1.2.2) fun x2=>some (.v (.agg ⟨[.int .i64 x3.1,.int .i64 x3.2]⟩),⟨[.v (.int .i64 x2)],65⟩)) (by kernel_rfl) ?_;rfl
def tN (a b:Int):Int×Int:=((aI a b).1,(aI a b).2.1)
def xU (k a b:Int):Int:=bG k (aI a b).2.2
def kFm2:bJ:=(27,cP 65 (fun a b=>aG (tO a b).1 (tO a b).2) xV)::kFm1
theorem kFm2_ok:aJ aaZ kFm2:=(aA (oR xsinV_mods) kFm1_ok)
theorem xcosV_mods (k a b:Int):gN aaZ 28 65 k [.agg ⟨[.int .i64 a,.int .i64 b]⟩] (aG (tN a b).1 (tN a b).2) (xU k a b):=by
 refine bM bK kFm2_ok (t:=lt (aI a b) fun x1=>lt (qN x1.1 x1.2.1 x1.2.2) fun x3=>lt (sO k x1.1 x1.2.1 x1.2.2) fun x2=>some (.v (.agg ⟨[.int .i64 x3.1,.int .i64 x3.2]⟩),⟨[.v (.int .i64 x2)],65⟩)) (by kernel_rfl) ?_;rfl
def mO (a b c d:Int):Int×Int:=((bF a b c d).1,(bF a b c d).2.1)
def nZ (k a b c d:Int):Int:=bG k (bF a b c d).2.2
def kFm3:bJ:=(28,cP 65 (fun a b=>aG (tN a b).1 (tN a b).2) xU)::kFm2
theorem kFm3_ok:aJ aaZ kFm3:=(aA (oR xcosV_mods) kFm2_ok)
theorem xmulV_mods (k a b c d:Int):gN aaZ 29 65 k [.agg ⟨[.int .i64 a,.int .i64 b]⟩,.agg ⟨[.int .i64 c,.int .i64 d]⟩] (aG (mO a b c d).1 (mO a b c d).2) (nZ k a b c d):=by
 refine bM bK kFm3_ok (t:=lt (bF a b c d) fun x1=>lt (qN x1.1 x1.2.1 x1.2.2) fun x3=>lt (sO k x1.1 x1.2.1 x1.2.2) fun x2=>some (.v (.agg ⟨[.int .i64 x3.1,.int .i64 x3.2]⟩),⟨[.v (.int .i64 x2)],65⟩)) (by kernel_rfl) ?_;rfl
def EK (a b c d:Int):Int×Int:=((gB a b c d).1,(gB a b c d).2.1)
def PB (k a b c d:Int):Int:=bG k (gB a b c d).2.2
def kFm4:bJ:=(29,PT 65 (fun a b c d=>aG (mO a b c d).1 (mO a b c d).2) nZ)::kFm3
theorem kFm4_ok:aJ aaZ kFm4:=(aA (jH xmulV_mods) kFm3_ok)
theorem xaddV_mods (k a b c d:Int):gN aaZ 30 65 k [.agg ⟨[.int .i64 a,.int .i64 b]⟩,.agg ⟨[.int .i64 c,.int .i64 d]⟩] (aG (EK a b c d).1 (EK a b c d).2) (PB k a b c d):=by
 refine bM bK kFm4_ok (t:=lt (gB a b c d) fun x1=>lt (qN x1.1 x1.2.1 x1.2.2) fun x3=>lt (sO k x1.1 x1.2.1 x1.2.2) fun x2=>some (.v (.agg ⟨[.int .i64 x3.1,.int .i64 x3.2]⟩),⟨[.v (.int .i64 x2)],65⟩)) (by kernel_rfl) ?_;rfl
def EM (a b c d:Int):Int×Int:=((lJ a b c d).1,(lJ a b c d).2.1)
def PD (k a b c d:Int):Int:=bG k (lJ a b c d).2.2
def kFm5:bJ:=(30,PT 65 (fun a b c d=>aG (EK a b c d).1 (EK a b c d).2) PB)::kFm4
theorem kFm5_ok:aJ aaZ kFm5:=(aA (jH xaddV_mods) kFm4_ok)
theorem xsubV_mods (k a b c d:Int):gN aaZ 31 65 k [.agg ⟨[.int .i64 a,.int .i64 b]⟩,.agg ⟨[.int .i64 c,.int .i64 d]⟩] (aG (EM a b c d).1 (EM a b c d).2) (PD k a b c d):=by
 refine bM bK kFm5_ok (t:=lt (lJ a b c d) fun x1=>lt (qN x1.1 x1.2.1 x1.2.2) fun x3=>lt (sO k x1.1 x1.2.1 x1.2.2) fun x2=>some (.v (.agg ⟨[.int .i64 x3.1,.int .i64 x3.2]⟩),⟨[.v (.int .i64 x2)],65⟩)) (by kernel_rfl) ?_;rfl
def EL (a b:Int):Int×Int:=((mM a b).1,(mM a b).2.1)
def PC (k a b:Int):Int:=bG k (mM a b).2.2
def kFm6:bJ:=(31,PT 65 (fun a b c d=>aG (EM a b c d).1 (EM a b c d).2) PD)::kFm5
theorem kFm6_ok:aJ aaZ kFm6:=(aA (jH xsubV_mods) kFm5_ok)
theorem xnegV_mods (k a b:Int):gN aaZ 32 65 k [.agg ⟨[.int .i64 a,.int .i64 b]⟩] (aG (EL a b).1 (EL a b).2) (PC k a b):=by
 refine bM bK kFm6_ok (t:=lt (mM a b) fun x1=>lt (qN x1.1 x1.2.1 x1.2.2) fun x3=>lt (sO k x1.1 x1.2.1 x1.2.2) fun x2=>some (.v (.agg ⟨[.int .i64 x3.1,.int .i64 x3.2]⟩),⟨[.v (.int .i64 x2)],65⟩)) (by kernel_rfl) ?_;rfl
def aA4 (x:Int):Value:=.int .u64 x
def eUif (p:Int→Bool) (F:Int→Value):zC
 | [.v (.int .u64 a)],[]=>some (p a,.v (F a),[])
 | _,_=>none
theorem eUif_ok {P:Program} {g:FuncId} {p:Int→Bool} {F:Int→Value} (h:∀a,p a=true→aH P g [.int .u64 a] (F a)) (args:List AV) (L:Ev.cF) (z:Bool) (r:AV) (L':Ev.cF) (q:eUif p F args L=some (z,r,L')) (hz:z=true):fI P g args L r L':=by
 unfold eUif at q;split at q
 ·cases q;exact cS (h _ hz)
 ·cases q
def dJ (n:Int):Int:=(isq n.toNat:Int)
def KO (n:Int):Bool:=decide (0≤n∧n<18446744073709551616)
theorem KP (x:Int):KO (u64.wrap x)=true:=decide_eq_true ⟨by unfold IntKind.wrap;simp [IntKind.signed,IntKind.bits];omega,by unfold IntKind.wrap;simp [IntKind.signed,IntKind.bits];omega⟩
theorem root_gives (n:Int) (h:KO n=true):aH aaZ 183 [.int .u64 n] (aA4 (dJ n)):=WZ fun w=>by
 obtain ⟨h1,h2⟩:=of_decide_eq_true h;have:=root_any n.toNat (by omega) w;rwa [Int.toNat_of_nonneg h1] at this
def iS (a b:Int):Int:=cond (decide (a≤0)) (cond (decide (b≥0)) (0) (u64.wrap ((mn (mx a (i64.wrap (0-a))) (mx b (i64.wrap (0-b))))))) (u64.wrap ((mn (mx a (i64.wrap (0-a))) (mx b (i64.wrap (0-b))))))
def kFm7:bJ:=(32,cP 65 (fun a b=>aG (EL a b).1 (EL a b).2) PC)::kFm6
theorem kFm7_ok:aJ aaZ kFm7:=(aA (oR xnegV_mods) kFm6_ok)
theorem YQ (a b:Int):aH aaZ 184 [.agg ⟨[.int .i64 a,.int .i64 b]⟩] (aA4 (iS a b)):=by
 refine aF bK kFm7_ok (t:=cond (decide (a≤0)) (cond (decide (b≥0)) (some (.v (.int .u64 0))) (some (.v (.int .u64 (u64.wrap ((mn (mx a (i64.wrap (0-a))) (mx b (i64.wrap (0-b)))))))))) (some (.v (.int .u64 (u64.wrap ((mn (mx a (i64.wrap (0-a))) (mx b (i64.wrap (0-b)))))))))) (by kernel_rfl) ?_;unfold iS;repeat' first | (with_reducible refine aO (fun r:Int=>AV.v (aA4 (r))) ?_ ?_) | (with_reducible refine aT (fun r:Int=>AV.v (aA4 (r))) fun _=>?_) | rfl
def jA (a b:Int):Int:=u64.wrap ((mx (mx (mx a (i64.wrap (0-a))) b) (i64.wrap (0-b))))
def kFm8:bJ:=(184,eP (fun a b=>aA4 (iS a b)))::kFm7
theorem kFm8_ok:aJ aaZ kFm8:=(aA (dD YQ) kFm7_ok)
theorem farM_gives (a b:Int):aH aaZ 185 [.agg ⟨[.int .i64 a,.int .i64 b]⟩] (aA4 (jA a b)):=aF bK kFm8_ok (by kernel_rfl) rfl
def sumN (a b c d:Int):Int:=(u64.wrap ((u64.wrap ((iS a b)*(iS a b)))+(u64.wrap ((iS c d)*(iS c d)))))
def FB (a b c d:Int):Int:=(u64.wrap ((u64.wrap ((jA a b)*(jA a b)))+(u64.wrap ((jA c d)*(jA c d)))))
def mL (a b c d:Int):Int×Int:=(i64.wrap (mn (dJ (sumN a b c d)) 1073741824),i64.wrap (mn (cond (decide (u64.wrap (dJ (FB a b c d)*dJ (FB a b c d))<FB a b c d)) (u64.wrap (dJ (FB a b c d)+1)) (dJ (FB a b c d))) 1073741824))
def kFm9:bJ:=(183,eUif KO (fun a=>aA4 (dJ a)))::(185,eP (fun a b=>aA4 (jA a b)))::kFm8
theorem kFm9_ok:aJ aaZ kFm9:=(aA (eUif_ok root_gives) (aA (dD farM_gives) kFm8_ok))
theorem hypM_gives (a b c d:Int):aH aaZ 155 [.agg ⟨[.int .i64 a,.int .i64 b]⟩,.agg ⟨[.int .i64 c,.int .i64 d]⟩] (aG (mL a b c d).1 (mL a b c d).2):=by
 refine aF bK kFm9_ok (t:=cond (KO (u64.wrap ((u64.wrap ((iS a b)*(iS a b)))+(u64.wrap ((iS c d)*(iS c d)))))) (cond (KO (u64.wrap ((u64.wrap ((jA a b)*(jA a b)))+(u64.wrap ((jA c d)*(jA c d)))))) (cond (decide (u64.wrap ((dJ (u64.wrap ((u64.wrap ((jA a b)*(jA a b)))+(u64.wrap ((jA c d)*(jA c d))))))*(dJ (u64.wrap ((u64.wrap ((jA a b)*(jA a b)))+(u64.wrap ((jA c d)*(jA c d)))))))<u64.wrap ((u64.wrap ((jA a b)*(jA a b)))+(u64.wrap ((jA c d)*(jA c d)))))) (some (.v (.agg ⟨[.int .i64 (i64.wrap ((mn (dJ (u64.wrap ((u64.wrap ((iS a b)*(iS a b)))+(u64.wrap ((iS c d)*(iS c d)))))) 1073741824))),.int .i64 (i64.wrap ((mn (u64.wrap ((dJ (u64.wrap ((u64.wrap ((jA a b)*(jA a b)))+(u64.wrap ((jA c d)*(jA c d))))))+1)) 1073741824)))]⟩))) (some (.v (.agg ⟨[.int .i64 (i64.wrap ((mn (dJ (u64.wrap ((u64.wrap ((iS a b)*(iS a b)))+(u64.wrap ((iS c d)*(iS c d)))))) 1073741824))),.int .i64 (i64.wrap ((mn (dJ (u64.wrap ((u64.wrap ((jA a b)*(jA a b)))+(u64.wrap ((jA c d)*(jA c d)))))) 1073741824)))]⟩)))) (none)) (none)) (by kernel_rfl) ?_;have e1:(u64.wrap ((u64.wrap ((iS a b)*(iS a b)))+(u64.wrap ((iS c d)*(iS c d)))))=sumN a b c d:=rfl;have e2:(u64.wrap ((u64.wrap ((jA a b)*(jA a b)))+(u64.wrap ((jA c d)*(jA c d)))))=FB a b c d:=rfl;have q1:KO (sumN a b c d)=true:=KP _;have q2:KO (FB a b c d)=true:=KP _;rw [e1,e2,q1,q2];simp only [cond_true];unfold mL;cases decide (u64.wrap (dJ (FB a b c d)*dJ (FB a b c d))<FB a b c d)<;>rfl
def JT (a b:Int):Bool:=cond (aE a b) (cond (decide (a≥(-5400000))) ((decide (b≤5400000))) (false)) (false)
def kFm10:bJ:=(155,rI (fun a b c d=>aG (mL a b c d).1 (mL a b c d).2))::kFm9
theorem XM:aJ aaZ kFm10:=(aA (dM hypM_gives) kFm9_ok)
theorem YO (a b:Int):aH aaZ 26 [.agg ⟨[.int .i64 a,.int .i64 b]⟩] (.bool (JT a b)):=by
 refine aF bK XM (t:=cond (aE a b) (cond (decide (a≥(-5400000))) (some (.v (.bool (decide (b≤5400000))))) (some (.v (.bool false)))) (some (.v (.bool false)))) (by kernel_rfl) ?_;unfold JT;repeat' first | (with_reducible refine aO (fun r:Bool=>AV.v (.bool (r))) ?_ ?_) | (with_reducible refine aT (fun r:Bool=>AV.v (.bool (r))) fun _=>?_) | rfl
def UN {α:Type} (K:Int→Int→Int→α) (a b c d e f:Int):α:=lt (bE a b) fun x1=>cond (x1.2.2 != 0) (K 0 0 x1.2.2) (lt (mL c d e f) fun x2=>cond (x2.1==0) (cond (decide (a≤0)) (cond (decide (b≥0)) (K x1.1 x1.2.1 0) (lt (aX a b x2.1 x2.2) fun x3=>cond (x3.2.2 != 0) (K 0 0 x3.2.2) (cond (decide (x3.1≥10800000)) (lt (cR (i64.wrap (x3.1-21600000)) (i64.wrap (x3.2.1-21600000)) x1.1 x1.2.1) fun x4=>K x4.1 x4.2.1 x4.2.2) (lt (cR x3.1 x3.2.1 x1.1 x1.2.1) fun x5=>K x5.1 x5.2.1 x5.2.2)))) (lt (aX a b x2.1 x2.2) fun x6=>cond (x6.2.2 != 0) (K 0 0 x6.2.2) (cond (decide (x6.1≥10800000)) (lt (cR (i64.wrap (x6.1-21600000)) (i64.wrap (x6.2.1-21600000)) x1.1 x1.2.1) fun x7=>K x7.1 x7.2.1 x7.2.2) (lt (cR x6.1 x6.2.1 x1.1 x1.2.1) fun x8=>K x8.1 x8.2.1 x8.2.2)))) (lt (aX a b x2.1 x2.2) fun x9=>cond (x9.2.2 != 0) (K 0 0 x9.2.2) (cond (decide (x9.1≥10800000)) (lt (cR (i64.wrap (x9.1-21600000)) (i64.wrap (x9.2.1-21600000)) x1.1 x1.2.1) fun x10=>K x10.1 x10.2.1 x10.2.2) (lt (cR x9.1 x9.2.1 x1.1 x1.2.1) fun x11=>K x11.1 x11.2.1 x11.2.2))))
def UM (a b c d e f:Int):Int×Int×Int:=UN (fun p0 p1 p2=>(p0,p1,p2)) a b c d e f
def kFm11:bJ:=(26,eP (fun a b=>.bool (JT a b)))::kFm10
theorem XN:aJ aaZ kFm11:=(aA (dD YO) XM)
theorem altM_gives (a b c d e f:Int):aH aaZ 116 [.agg ⟨[.int .i64 a,.int .i64 b,.int .i64 c,.int .i64 d,.int .i64 e,.int .i64 f]⟩] (aP (UM a b c d e f)):=by
 refine aF bK XN (t:=UN (fun p0 p1 p2=>some (.v (aP ((p0,p1,p2))))) a b c d e f) (by kernel_rfl) ?_;unfold UM UN;repeat' first | (with_reducible refine aO (fun r:Int×Int×Int=>AV.v (aP (r))) ?_ ?_) | (with_reducible refine aT (fun r:Int×Int×Int=>AV.v (aP (r))) fun _=>?_) | rfl
def JV {α:Type} (K:Int→Int→Int→Int→Int→α) (a b c d e f:Int):α:=cond (!(dV a b c d e f)) (K 0 0 0 0 1) (lt (tN c d) fun x2=>lt (xU 0 c d) fun x1=>lt (tN e f) fun x4=>lt (xU x1 e f) fun x3=>lt (mO x2.1 x2.2 x4.1 x4.2) fun x6=>lt (nZ x3 x2.1 x2.2 x4.1 x4.2) fun x5=>lt (tO e f) fun x8=>lt (xV x5 e f) fun x7=>lt (mO x2.1 x2.2 x8.1 x8.2) fun x10=>lt (nZ x7 x2.1 x2.2 x8.1 x8.2) fun x9=>lt (tO c d) fun x12=>lt (xV x9 c d) fun x11=>lt (tO a b) fun x14=>lt (xV x11 a b) fun x13=>lt (tN a b) fun x16=>lt (xU x13 a b) fun x15=>lt (mO x6.1 x6.2 x16.1 x16.2) fun x18=>lt (nZ x15 x6.1 x6.2 x16.1 x16.2) fun x17=>lt (mO x12.1 x12.2 x14.1 x14.2) fun x20=>lt (nZ x17 x12.1 x12.2 x14.1 x14.2) fun x19=>lt (EK x18.1 x18.2 x20.1 x20.2) fun x22=>lt (PB x19 x18.1 x18.2 x20.1 x20.2) fun x21=>lt (mO x12.1 x12.2 x16.1 x16.2) fun x24=>lt (nZ x21 x12.1 x12.2 x16.1 x16.2) fun x23=>lt (mO x6.1 x6.2 x14.1 x14.2) fun x26=>lt (nZ x23 x6.1 x6.2 x14.1 x14.2) fun x25=>lt (EM x24.1 x24.2 x26.1 x26.2) fun x28=>lt (PD x25 x24.1 x24.2 x26.1 x26.2) fun x27=>lt (EL x10.1 x10.2) fun x30=>lt (PC x27 x10.1 x10.2) fun x29=>cond (x29 != 0) (K 0 0 0 0 x29) (lt (UM x22.1 x22.2 x28.1 x28.2 x10.1 x10.2) fun x31=>cond (x31.2.2 != 0) (K 0 0 0 0 x31.2.2) (lt (aX x30.1 x30.2 x28.1 x28.2) fun x32=>cond (x32.2.2 != 0) (K 0 0 0 0 x32.2.2) (K x31.1 x31.2.1 x32.1 x32.2.1 0))))
def xO (a b c d e f:Int):Int×Int×Int×Int×Int:=JV (fun p0 p1 p2 p3 p4=>(p0,p1,p2,p3,p4)) a b c d e f
def kFm12:bJ:=(116,eT (fun a b c d e f=>aP (UM a b c d e f)))::kFm11
theorem XO:aJ aaZ kFm12:=(aA (lO altM_gives) XN)
theorem YP (a b c d e f:Int):aH aaZ 61 [.agg ⟨[.int .i64 a,.int .i64 b,.int .i64 c,.int .i64 d,.int .i64 e,.int .i64 f]⟩] (cU (xO a b c d e f)):=by
 refine aF bK XO (t:=JV (fun p0 p1 p2 p3 p4=>some (.v (cU ((p0,p1,p2,p3,p4))))) a b c d e f) (by kernel_rfl) ?_;unfold xO JV;repeat' first | (with_reducible refine aO (fun r:Int×Int×Int×Int×Int=>AV.v (cU (r))) ?_ ?_) | (with_reducible refine aT (fun r:Int×Int×Int×Int×Int=>AV.v (cU (r))) fun _=>?_) | rfl
def bakMK {α:Type} (K:Int→Int→Int→Int→Int→α) (a b c d e f:Int):α:=cond (!(JT a b)) (K 0 0 0 0 1) (cond (!(JT c d)) (K 0 0 0 0 1) (cond (!(aE e f)) (K 0 0 0 0 1) (lt (tO c d) fun x2=>lt (xV 0 c d) fun x1=>lt (tN c d) fun x4=>lt (xU x1 c d) fun x3=>lt (tN e f) fun x6=>lt (xU x3 e f) fun x5=>lt (mO x4.1 x4.2 x6.1 x6.2) fun x8=>lt (nZ x5 x4.1 x4.2 x6.1 x6.2) fun x7=>lt (tO e f) fun x10=>lt (xV x7 e f) fun x9=>lt (mO x4.1 x4.2 x10.1 x10.2) fun x12=>lt (nZ x9 x4.1 x4.2 x10.1 x10.2) fun x11=>lt (tO a b) fun x14=>lt (xV x11 a b) fun x13=>lt (tN a b) fun x16=>lt (xU x13 a b) fun x15=>lt (mO x2.1 x2.2 x14.1 x14.2) fun x18=>lt (nZ x15 x2.1 x2.2 x14.1 x14.2) fun x17=>lt (mO x8.1 x8.2 x16.1 x16.2) fun x20=>lt (nZ x17 x8.1 x8.2 x16.1 x16.2) fun x19=>lt (EK x18.1 x18.2 x20.1 x20.2) fun x22=>lt (PB x19 x18.1 x18.2 x20.1 x20.2) fun x21=>lt (mO x2.1 x2.2 x16.1 x16.2) fun x24=>lt (nZ x21 x2.1 x2.2 x16.1 x16.2) fun x23=>lt (mO x8.1 x8.2 x14.1 x14.2) fun x26=>lt (nZ x23 x8.1 x8.2 x14.1 x14.2) fun x25=>lt (EM x24.1 x24.2 x26.1 x26.2) fun x28=>lt (PD x25 x24.1 x24.2 x26.1 x26.2) fun x27=>lt (EL x12.1 x12.2) fun x30=>lt (PC x27 x12.1 x12.2) fun x29=>cond (x29 != 0) (K 0 0 0 0 x29) (lt (bE x22.1 x22.2) fun x31=>cond (x31.2.2 != 0) (K 0 0 0 0 x31.2.2) (lt (aX x30.1 x30.2 x28.1 x28.2) fun x32=>cond (x32.2.2 != 0) (K 0 0 0 0 x32.2.2) (K x31.1 x31.2.1 x32.1 x32.2.1 0))))))
def bakM (a b c d e f:Int):Int×Int×Int×Int×Int:=bakMK (fun p0 p1 p2 p3 p4=>(p0,p1,p2,p3,p4)) a b c d e f
theorem bakM_gives (a b c d e f:Int):aH aaZ 13 [.agg ⟨[.int .i64 a,.int .i64 b]⟩,.agg ⟨[.int .i64 c,.int .i64 d,.int .i64 e,.int .i64 f]⟩] (twoV (bakM a b c d e f)):=by
 refine aF bK XO (t:=bakMK (fun p0 p1 p2 p3 p4=>some (.v (twoV ((p0,p1,p2,p3,p4))))) a b c d e f) (by kernel_rfl) ?_;unfold bakM bakMK;repeat' first | (with_reducible refine aO (fun r:Int×Int×Int×Int×Int=>AV.v (twoV (r))) ?_ ?_) | (with_reducible refine aT (fun r:Int×Int×Int×Int×Int=>AV.v (twoV (r))) fun _=>?_) | rfl
end
section
open Ev
def YR (a b _e:Int):Int×Int:=(a,b)
def numC (k _a _b e:Int):Int:=bG k e
def kFa0:bJ:=(21,eT (fun a b c d e f=>.bool (dV a b c d e f)))::(33,eP (fun a b=>aP (bE a b)))::(34,rI (fun a b c d=>aP (aX a b c d)))::(65,eP (fun a b=>aP (aK a b)))::(66,eP (fun a b=>aP (aI a b)))::(67,rI (fun a b c d=>aP (bF a b c d)))::(69,eP (fun a b=>aP (mM a b)))::(89,rI (fun a b c d=>aP (kK a b c d)))::[]
theorem kFa0_ok:aJ aaZ kFa0:=(aA (lO jP) (aA (dD (fun a b W _=>PO a b W)) (aA (dM (fun a b c d W _=>zH a b c d W)) (aA (dD (fun a b W _=>LB a b W)) (aA (dD (fun a b W _=>DL a b W)) (aA (dM jM) (aA (dD yO) (aA (dM uA) fE))))))))
theorem numV_mods (k a b c:Int):gN aaZ 150 132 k [.agg ⟨[.int .i64 a,.int .i64 b]⟩,.int .i64 c] (aG (YR a b c).1 (YR a b c).2) (numC k a b c):=by
 refine bM bK kFa0_ok (t:=cond (k==0) (some (.v (.agg ⟨[.int .i64 a,.int .i64 b]⟩),⟨[.v (.int .i64 c)],132⟩)) (some (.v (.agg ⟨[.int .i64 a,.int .i64 b]⟩),⟨[.v (.int .i64 k)],132⟩))) (by kernel_rfl) ?_;unfold numC bG;by_cases h:k=0
 ·simp [h];rfl
 ·have e:(k==0)=false:=beq_eq_false_iff_ne.2 h;rw [e];simp [h];rfl
def UQ (a b _e:Int):Int×Int:=(a,b)
def arcC (k _a _b e:Int):Int:=bG k e
def kFa1:bJ:=(150,cPI 132 (fun a b c=>aG (YR a b c).1 (YR a b c).2) numC)::kFa0
theorem kFa1_ok:aJ aaZ kFa1:=(aA (rP numV_mods) kFa0_ok)
theorem arcW_mods (k a b c:Int):gN aaZ 100 132 k [.agg ⟨[.int .i64 a,.int .i64 b]⟩,.int .i64 c] (aG (UQ a b c).1 (UQ a b c).2) (arcC k a b c):=by
 refine bM bK kFa1_ok (t:=cond (k==0) (some (.v (.agg ⟨[.int .i64 a,.int .i64 b]⟩),⟨[.v (.int .i64 c)],132⟩)) (some (.v (.agg ⟨[.int .i64 a,.int .i64 b]⟩),⟨[.v (.int .i64 k)],132⟩))) (by kernel_rfl) ?_;unfold arcC bG;by_cases h:k=0
 ·simp [h];rfl
 ·have e:(k==0)=false:=beq_eq_false_iff_ne.2 h;rw [e];simp [h];rfl
def nL (a b:Int):Int×Int:=((aK a b).1,(aK a b).2.1)
def tG (k a b:Int):Int:=bG k (aK a b).2.2
def kFa2:bJ:=(100,cPI 132 (fun a b c=>aG (UQ a b c).1 (UQ a b c).2) arcC)::kFa1
theorem kFa2_ok:aJ aaZ kFa2:=(aA (rP arcW_mods) kFa1_ok)
theorem gsinV_mods (k a b:Int):gN aaZ 106 132 k [.agg ⟨[.int .i64 a,.int .i64 b]⟩] (aG (nL a b).1 (nL a b).2) (tG k a b):=by
 refine bM bK kFa2_ok (t:=lt (aK a b) fun x1=>lt (YR x1.1 x1.2.1 x1.2.2) fun x3=>lt (numC k x1.1 x1.2.1 x1.2.2) fun x2=>some (.v (.agg ⟨[.int .i64 x3.1,.int .i64 x3.2]⟩),⟨[.v (.int .i64 x2)],132⟩)) (by kernel_rfl) ?_;rfl
def jK (a b:Int):Int×Int:=((aI a b).1,(aI a b).2.1)
def oV (k a b:Int):Int:=bG k (aI a b).2.2
def kFa3:bJ:=(106,cP 132 (fun a b=>aG (nL a b).1 (nL a b).2) tG)::kFa2
theorem kFa3_ok:aJ aaZ kFa3:=(aA (oR gsinV_mods) kFa2_ok)
theorem gcosV_mods (k a b:Int):gN aaZ 101 132 k [.agg ⟨[.int .i64 a,.int .i64 b]⟩] (aG (jK a b).1 (jK a b).2) (oV k a b):=by
 refine bM bK kFa3_ok (t:=lt (aI a b) fun x1=>lt (YR x1.1 x1.2.1 x1.2.2) fun x3=>lt (numC k x1.1 x1.2.1 x1.2.2) fun x2=>some (.v (.agg ⟨[.int .i64 x3.1,.int .i64 x3.2]⟩),⟨[.v (.int .i64 x2)],132⟩)) (by kernel_rfl) ?_;rfl
def rA (a b c d:Int):Int×Int:=((bF a b c d).1,(bF a b c d).2.1)
def uQ (k a b c d:Int):Int:=bG k (bF a b c d).2.2
def kFa4:bJ:=(101,cP 132 (fun a b=>aG (jK a b).1 (jK a b).2) oV)::kFa3
theorem kFa4_ok:aJ aaZ kFa4:=(aA (oR gcosV_mods) kFa3_ok)
theorem gmulV_mods (k a b c d:Int):gN aaZ 103 132 k [.agg ⟨[.int .i64 a,.int .i64 b]⟩,.agg ⟨[.int .i64 c,.int .i64 d]⟩] (aG (rA a b c d).1 (rA a b c d).2) (uQ k a b c d):=by
 refine bM bK kFa4_ok (t:=lt (bF a b c d) fun x1=>lt (YR x1.1 x1.2.1 x1.2.2) fun x3=>lt (numC k x1.1 x1.2.1 x1.2.2) fun x2=>some (.v (.agg ⟨[.int .i64 x3.1,.int .i64 x3.2]⟩),⟨[.v (.int .i64 x2)],132⟩)) (by kernel_rfl) ?_;rfl
def NP (a b:Int):Int×Int:=((mM a b).1,(mM a b).2.1)
def gnegC (k a b:Int):Int:=bG k (mM a b).2.2
def kFa5:bJ:=(103,PT 132 (fun a b c d=>aG (rA a b c d).1 (rA a b c d).2) uQ)::kFa4
theorem kFa5_ok:aJ aaZ kFa5:=(aA (jH gmulV_mods) kFa4_ok)
theorem gnegV_mods (k a b:Int):gN aaZ 105 132 k [.agg ⟨[.int .i64 a,.int .i64 b]⟩] (aG (NP a b).1 (NP a b).2) (gnegC k a b):=by
 refine bM bK kFa5_ok (t:=lt (mM a b) fun x1=>lt (YR x1.1 x1.2.1 x1.2.2) fun x3=>lt (numC k x1.1 x1.2.1 x1.2.2) fun x2=>some (.v (.agg ⟨[.int .i64 x3.1,.int .i64 x3.2]⟩),⟨[.v (.int .i64 x2)],132⟩)) (by kernel_rfl) ?_;rfl
def rU (a b:Int):Int×Int:=((bE a b).1,(bE a b).2.1)
def yL (k a b:Int):Int:=bG k (bE a b).2.2
def kFa6:bJ:=(105,cP 132 (fun a b=>aG (NP a b).1 (NP a b).2) gnegC)::kFa5
theorem kFa6_ok:aJ aaZ kFa6:=(aA (oR gnegV_mods) kFa5_ok)
theorem WV (k a b:Int):gN aaZ 102 132 k [.agg ⟨[.int .i64 a,.int .i64 b]⟩] (aG (rU a b).1 (rU a b).2) (yL k a b):=by
 refine bM bK kFa6_ok (t:=lt (bE a b) fun x1=>lt (UQ x1.1 x1.2.1 x1.2.2) fun x3=>lt (arcC k x1.1 x1.2.1 x1.2.2) fun x2=>some (.v (.agg ⟨[.int .i64 x3.1,.int .i64 x3.2]⟩),⟨[.v (.int .i64 x2)],132⟩)) (by kernel_rfl) ?_;rfl
def JB (a b c d:Int):Int×Int:=((aX a b c d).1,(aX a b c d).2.1)
def NL (k a b c d:Int):Int:=bG k (aX a b c d).2.2
def kFa7:bJ:=(102,cP 132 (fun a b=>aG (rU a b).1 (rU a b).2) yL)::kFa6
theorem kFa7_ok:aJ aaZ kFa7:=(aA (oR WV) kFa6_ok)
theorem gbeaV_mods (k a b c d:Int):gN aaZ 104 132 k [.agg ⟨[.int .i64 a,.int .i64 b]⟩,.agg ⟨[.int .i64 c,.int .i64 d]⟩] (aG (JB a b c d).1 (JB a b c d).2) (NL k a b c d):=by
 refine bM bK kFa7_ok (t:=lt (aX a b c d) fun x1=>lt (UQ x1.1 x1.2.1 x1.2.2) fun x3=>lt (arcC k x1.1 x1.2.1 x1.2.2) fun x2=>some (.v (.agg ⟨[.int .i64 x3.1,.int .i64 x3.2]⟩),⟨[.v (.int .i64 x2)],132⟩)) (by kernel_rfl) ?_;rfl
def ZS {α:Type} (K:Int→Int→Int→Int→Int→α) (a b c d e f:Int):α:=cond (!(dV a b c d e f)) (K 0 0 0 0 1) (lt (jK c d) fun x2=>lt (oV 0 c d) fun x1=>lt (nL e f) fun x4=>lt (tG x1 e f) fun x3=>lt (rA x2.1 x2.2 x4.1 x4.2) fun x6=>lt (uQ x3 x2.1 x2.2 x4.1 x4.2) fun x5=>lt (rU x6.1 x6.2) fun x8=>lt (yL x5 x6.1 x6.2) fun x7=>lt (nL c d) fun x10=>lt (tG x7 c d) fun x9=>lt (jK e f) fun x12=>lt (oV x9 e f) fun x11=>lt (rA x2.1 x2.2 x12.1 x12.2) fun x14=>lt (uQ x11 x2.1 x2.2 x12.1 x12.2) fun x13=>lt (JB x10.1 x10.2 x14.1 x14.2) fun x16=>lt (NL x13 x10.1 x10.2 x14.1 x14.2) fun x15=>lt (kK x16.1 x16.2 a b) fun x17=>lt (UQ x17.1 x17.2.1 x17.2.2) fun x19=>lt (arcC x15 x17.1 x17.2.1 x17.2.2) fun x18=>lt (jK x8.1 x8.2) fun x21=>lt (oV x18 x8.1 x8.2) fun x20=>lt (jK x19.1 x19.2) fun x23=>lt (oV x20 x19.1 x19.2) fun x22=>lt (rA x21.1 x21.2 x23.1 x23.2) fun x25=>lt (uQ x22 x21.1 x21.2 x23.1 x23.2) fun x24=>lt (rU x25.1 x25.2) fun x27=>lt (yL x24 x25.1 x25.2) fun x26=>lt (jK c d) fun x29=>lt (oV x26 c d) fun x28=>lt (nL e f) fun x31=>lt (tG x28 e f) fun x30=>lt (rA x29.1 x29.2 x31.1 x31.2) fun x33=>lt (uQ x30 x29.1 x29.2 x31.1 x31.2) fun x32=>lt (NP x33.1 x33.2) fun x35=>lt (gnegC x32 x33.1 x33.2) fun x34=>lt (nL x19.1 x19.2) fun x37=>lt (tG x34 x19.1 x19.2) fun x36=>lt (rA x21.1 x21.2 x37.1 x37.2) fun x39=>lt (uQ x36 x21.1 x21.2 x37.1 x37.2) fun x38=>lt (JB x35.1 x35.2 x39.1 x39.2) fun x41=>lt (NL x38 x35.1 x35.2 x39.1 x39.2) fun x40=>cond (x40 != 0) (K 0 0 0 0 x40) (K x27.1 x27.2 x41.1 x41.2 0))
def MG (a b c d e f:Int):Int×Int×Int×Int×Int:=ZS (fun p0 p1 p2 p3 p4=>(p0,p1,p2,p3,p4)) a b c d e f
def kFa8:bJ:=(104,PT 132 (fun a b c d=>aG (JB a b c d).1 (JB a b c d).2) NL)::kFa7
theorem kFa8_ok:aJ aaZ kFa8:=(aA (jH gbeaV_mods) kFa7_ok)
theorem solM_gives (a b c d e f:Int):aH aaZ 59 [.agg ⟨[.int .i64 a,.int .i64 b,.int .i64 c,.int .i64 d,.int .i64 e,.int .i64 f]⟩] (cU (MG a b c d e f)):=by
 refine aF bK kFa8_ok (t:=ZS (fun p0 p1 p2 p3 p4=>some (.v (cU ((p0,p1,p2,p3,p4))))) a b c d e f) (by kernel_rfl) ?_;unfold MG ZS;repeat' first | (with_reducible refine aO (fun r:Int×Int×Int×Int×Int=>AV.v (cU (r))) ?_ ?_) | (with_reducible refine aT (fun r:Int×Int×Int×Int×Int=>AV.v (cU (r))) fun _=>?_) | rfl
end
section
open Ev
def nV (a b _e:Int):Int×Int:=(a,b)
def oY (k _a _b e:Int):Int:=bG k e
def kFh0:bJ:=(21,eT (fun a b c d e f=>.bool (dV a b c d e f)))::(45,rI (fun a b c d=>aP (gB a b c d)))::(51,eP (fun a b=>aP (eY a b)))::(66,eP (fun a b=>aP (aI a b)))::(67,rI (fun a b c d=>aP (bF a b c d)))::(68,rI (fun a b c d=>aP (lJ a b c d)))::(88,eP (fun a b=>aP (dT a b)))::(89,rI (fun a b c d=>aP (kK a b c d)))::(95,eP (fun a b=>aP (dO a b)))::(180,rI (fun a b c d=>aP (lX a b c d)))::[]
theorem kFh0_ok:aJ aaZ kFh0:=(aA (lO jP) (aA (dM mR) (aA (dD (fun a b W _=>ahav_r a b W)) (aA (dD (fun a b W _=>DL a b W)) (aA (dM jM) (aA (dM sI) (aA (dD (fun a b W _=>hav_r a b W)) (aA (dM uA) (aA (dD wI) (aA (dM divR_gives) fE))))))))))
theorem hnumV_mods (k a b c:Int):gN aaZ 145 166 k [.agg ⟨[.int .i64 a,.int .i64 b]⟩,.int .i64 c] (aG (nV a b c).1 (nV a b c).2) (oY k a b c):=by
 refine bM bK kFh0_ok (t:=cond (k==0) (some (.v (.agg ⟨[.int .i64 a,.int .i64 b]⟩),⟨[.v (.int .i64 c)],166⟩)) (some (.v (.agg ⟨[.int .i64 a,.int .i64 b]⟩),⟨[.v (.int .i64 k)],166⟩))) (by kernel_rfl) ?_;unfold oY bG;by_cases h:k=0
 ·simp [h];rfl
 ·have e:(k==0)=false:=beq_eq_false_iff_ne.2 h;rw [e];simp [h];rfl
def DU (a b _e:Int):Int×Int:=(a,b)
def JG (k _a _b e:Int):Int:=bG k e
def kFh1:bJ:=(145,cPI 166 (fun a b c=>aG (nV a b c).1 (nV a b c).2) oY)::kFh0
theorem kFh1_ok:aJ aaZ kFh1:=(aA (rP hnumV_mods) kFh0_ok)
theorem harcW_mods (k a b c:Int):gN aaZ 147 166 k [.agg ⟨[.int .i64 a,.int .i64 b]⟩,.int .i64 c] (aG (DU a b c).1 (DU a b c).2) (JG k a b c):=by
 refine bM bK kFh1_ok (t:=cond (k==0) (some (.v (.agg ⟨[.int .i64 a,.int .i64 b]⟩),⟨[.v (.int .i64 c)],166⟩)) (some (.v (.agg ⟨[.int .i64 a,.int .i64 b]⟩),⟨[.v (.int .i64 k)],166⟩))) (by kernel_rfl) ?_;unfold JG bG;by_cases h:k=0
 ·simp [h];rfl
 ·have e:(k==0)=false:=beq_eq_false_iff_ne.2 h;rw [e];simp [h];rfl
def nR (a b c d:Int):Int×Int:=
 let x:=aI a b
 let y:=aI c d
 let z:=bF x.1 x.2.1 y.1 y.2.1
 (z.1,z.2.1)
def cosC (k a b c d:Int):Int:=
 let x:=aI a b
 let y:=aI c d
 let z:=bF x.1 x.2.1 y.1 y.2.1
 bG (bG (bG k x.2.2) y.2.2) z.2.2
def kFh2:bJ:=(147,cPI 166 (fun a b c=>aG (DU a b c).1 (DU a b c).2) JG)::kFh1
theorem kFh2_ok:aJ aaZ kFh2:=(aA (rP harcW_mods) kFh1_ok)
theorem cosV_mods (k a b c d:Int):gN aaZ 146 166 k [.agg ⟨[.int .i64 a,.int .i64 b]⟩,.agg ⟨[.int .i64 c,.int .i64 d]⟩] (aG (nR a b c d).1 (nR a b c d).2) (cosC k a b c d):=by
 refine bM bK kFh2_ok (t:=lt (aI a b) fun x1=>lt (nV x1.1 x1.2.1 x1.2.2) fun x3=>lt (oY k x1.1 x1.2.1 x1.2.2) fun x2=>lt (aI c d) fun x4=>lt (nV x4.1 x4.2.1 x4.2.2) fun x6=>lt (oY x2 x4.1 x4.2.1 x4.2.2) fun x5=>lt (bF x3.1 x3.2 x6.1 x6.2) fun x7=>lt (nV x7.1 x7.2.1 x7.2.2) fun x9=>lt (oY x5 x7.1 x7.2.1 x7.2.2) fun x8=>some (.v (.agg ⟨[.int .i64 x9.1,.int .i64 x9.2]⟩),⟨[.v (.int .i64 x8)],166⟩)) (by kernel_rfl) ?_;rfl
def mS (a b c d:Int):Int×Int:=
 let x:=kK a b c d
 let y:=dT x.1 x.2.1
 (y.1,y.2.1)
def betC (k a b c d:Int):Int:=
 let x:=kK a b c d
 let y:=dT x.1 x.2.1
 bG (bG k x.2.2) y.2.2
def kFh3:bJ:=(146,PT 166 (fun a b c d=>aG (nR a b c d).1 (nR a b c d).2) cosC)::kFh2
theorem kFh3_ok:aJ aaZ kFh3:=(aA (jH cosV_mods) kFh2_ok)
theorem betV_mods (k a b c d:Int):gN aaZ 148 166 k [.agg ⟨[.int .i64 a,.int .i64 b]⟩,.agg ⟨[.int .i64 c,.int .i64 d]⟩] (aG (mS a b c d).1 (mS a b c d).2) (betC k a b c d):=by
 refine bM bK kFh3_ok (t:=lt (kK a b c d) fun x1=>lt (DU x1.1 x1.2.1 x1.2.2) fun x3=>lt (JG k x1.1 x1.2.1 x1.2.2) fun x2=>lt (dT x3.1 x3.2) fun x4=>lt (nV x4.1 x4.2.1 x4.2.2) fun x6=>lt (oY x2 x4.1 x4.2.1 x4.2.2) fun x5=>some (.v (.agg ⟨[.int .i64 x6.1,.int .i64 x6.2]⟩),⟨[.v (.int .i64 x5)],166⟩)) (by kernel_rfl) ?_;rfl
def uX (a b:Int):Int×Int:=(i64.wrap (5400000-b),i64.wrap (5400000-a))
def kFh4:bJ:=(148,PT 166 (fun a b c d=>aG (mS a b c d).1 (mS a b c d).2) betC)::kFh3
theorem kFh4_ok:aJ aaZ kFh4:=(aA (jH betV_mods) kFh3_ok)
theorem YH (a b:Int):aH aaZ 98 [.agg ⟨[.int .i64 a,.int .i64 b]⟩] (aG (uX a b).1 (uX a b).2):=aF bK kFh4_ok (by kernel_rfl) rfl
def zenMK {α:Type} (K:Int→Int→Int→α) (a b c d e f:Int):α:=cond (!(dV a b c d e f)) (K 0 0 1) (lt (nR a b c d) fun x2=>lt (cosC 0 a b c d) fun x1=>lt (dT e f) fun x3=>lt (nV x3.1 x3.2.1 x3.2.2) fun x5=>lt (oY x1 x3.1 x3.2.1 x3.2.2) fun x4=>lt (bF x2.1 x2.2 x5.1 x5.2) fun x6=>lt (nV x6.1 x6.2.1 x6.2.2) fun x8=>lt (oY x4 x6.1 x6.2.1 x6.2.2) fun x7=>lt (mS a b c d) fun x10=>lt (betC x7 a b c d) fun x9=>lt (gB x10.1 x10.2 x8.1 x8.2) fun x11=>lt (nV x11.1 x11.2.1 x11.2.2) fun x13=>lt (oY x9 x11.1 x11.2.1 x11.2.2) fun x12=>lt (eY x13.1 x13.2) fun x14=>lt (DU x14.1 x14.2.1 x14.2.2) fun x16=>lt (JG x12 x14.1 x14.2.1 x14.2.2) fun x15=>cond (x15 != 0) (K 0 0 x15) (K x16.1 x16.2 0))
def fT (a b c d e f:Int):Int×Int×Int:=zenMK (fun p0 p1 p2=>(p0,p1,p2)) a b c d e f
def kFh5:bJ:=(98,eP (fun a b=>aG (uX a b).1 (uX a b).2))::kFh4
theorem kFh5_ok:aJ aaZ kFh5:=(aA (dD YH) kFh4_ok)
theorem zenM_gives (a b c d e f:Int):aH aaZ 96 [.agg ⟨[.int .i64 a,.int .i64 b,.int .i64 c,.int .i64 d,.int .i64 e,.int .i64 f]⟩] (aP (fT a b c d e f)):=by
 refine aF bK kFh5_ok (t:=zenMK (fun p0 p1 p2=>some (.v (aP ((p0,p1,p2))))) a b c d e f) (by kernel_rfl) ?_;unfold fT zenMK;repeat' first | (with_reducible refine aO (fun r:Int×Int×Int=>AV.v (aP (r))) ?_ ?_) | (with_reducible refine aT (fun r:Int×Int×Int=>AV.v (aP (r))) fun _=>?_) | rfl
def topMK {α:Type} (K:Int→Int→Int→α) (a b c d _e _f u v:Int):α:=lt (uX u v) fun x1=>lt (uX c d) fun x2=>lt (dT x2.1 x2.2) fun x3=>lt (nV x3.1 x3.2.1 x3.2.2) fun x5=>lt (oY 0 x3.1 x3.2.1 x3.2.2) fun x4=>lt (mS a b x1.1 x1.2) fun x7=>lt (betC x4 a b x1.1 x1.2) fun x6=>lt (lJ x5.1 x5.2 x7.1 x7.2) fun x8=>lt (nV x8.1 x8.2.1 x8.2.2) fun x10=>lt (oY x6 x8.1 x8.2.1 x8.2.2) fun x9=>lt (nR a b x1.1 x1.2) fun x12=>lt (cosC x9 a b x1.1 x1.2) fun x11=>cond (x11 != 0) (K 0 0 x11) (cond (decide (x12.1≤0)) (cond (decide (x12.2≥0)) (K 0 0 21) (lt (lX x10.1 x10.2 x12.1 x12.2) fun x13=>cond (x13.2.2==5) (lt (eY 0 1073741824) fun x14=>cond (x14.2.2==2) (K x14.1 x14.2.1 23) (K x14.1 x14.2.1 x14.2.2)) (cond (x13.2.2 != 0) (K 0 0 x13.2.2) (lt (eY x13.1 x13.2.1) fun x15=>cond (x15.2.2==2) (K x15.1 x15.2.1 23) (K x15.1 x15.2.1 x15.2.2))))) (lt (lX x10.1 x10.2 x12.1 x12.2) fun x16=>cond (x16.2.2==5) (lt (eY 0 1073741824) fun x17=>cond (x17.2.2==2) (K x17.1 x17.2.1 23) (K x17.1 x17.2.1 x17.2.2)) (cond (x16.2.2 != 0) (K 0 0 x16.2.2) (lt (eY x16.1 x16.2.1) fun x18=>cond (x18.2.2==2) (K x18.1 x18.2.1 23) (K x18.1 x18.2.1 x18.2.2)))))
def gY (a b c d e f u v:Int):Int×Int×Int:=topMK (fun p0 p1 p2=>(p0,p1,p2)) a b c d e f u v
def kFh6:bJ:=(96,eT (fun a b c d e f=>aP (fT a b c d e f)))::kFh5
theorem kFh6_ok:aJ aaZ kFh6:=(aA (lO zenM_gives) kFh5_ok)
theorem topM_gives (a b c d e f u v:Int):aH aaZ 149 [.agg ⟨[.int .i64 a,.int .i64 b,.int .i64 c,.int .i64 d,.int .i64 e,.int .i64 f]⟩,.agg ⟨[.int .i64 u,.int .i64 v]⟩] (aP (gY a b c d e f u v)):=by
 refine aF bK kFh6_ok (t:=topMK (fun p0 p1 p2=>some (.v (aP ((p0,p1,p2))))) a b c d e f u v) (by kernel_rfl) ?_;unfold gY topMK;repeat' first | (with_reducible refine aO (fun r:Int×Int×Int=>AV.v (aP (r))) ?_ ?_) | (with_reducible refine aT (fun r:Int×Int×Int=>AV.v (aP (r))) fun _=>?_) | rfl
def aziMK {α:Type} (K:Int→Int→Int→α) (a b c d e f u v:Int):α:=cond (!(dV a b c d e f)) (K 0 0 1) (cond (decide (u<0)) (K 0 0 1) (cond (decide (u>v)) (K 0 0 1) (cond (decide (v>10800000)) (K 0 0 1) (lt (gY a b c d e f u v) fun x1=>cond (x1.2.2 != 0) (K 0 0 x1.2.2) (lt (dO e f) fun x2=>cond (x2.2.2 != 0) (K 0 0 x2.2.2) (cond (decide (x2.1≥10800000)) (cond (decide (x2.2.1≤21600000)) (K x1.1 x1.2.1 0) (cond (decide (x2.2.1≤10800000)) (lt (dO (i64.wrap (21600000-x1.2.1)) (i64.wrap (21600000-x1.1))) fun x3=>K x3.1 x3.2.1 x3.2.2) (cond (decide (i64.wrap (x1.1+x1.2.1)>10800000)) (K x1.1 (i64.wrap (21600000-x1.1)) 0) (lt (dO (i64.wrap (0-x1.2.1)) x1.2.1) fun x4=>K x4.1 x4.2.1 x4.2.2)))) (cond (decide (x2.2.1≤10800000)) (lt (dO (i64.wrap (21600000-x1.2.1)) (i64.wrap (21600000-x1.1))) fun x5=>K x5.1 x5.2.1 x5.2.2) (cond (decide (i64.wrap (x1.1+x1.2.1)>10800000)) (K x1.1 (i64.wrap (21600000-x1.1)) 0) (lt (dO (i64.wrap (0-x1.2.1)) x1.2.1) fun x6=>K x6.1 x6.2.1 x6.2.2)))))))))
def VC (a b c d e f u v:Int):Int×Int×Int:=aziMK (fun p0 p1 p2=>(p0,p1,p2)) a b c d e f u v
def kFh7:bJ:=(149,eTP (fun a b c d e f u v=>aP (gY a b c d e f u v)))::kFh6
theorem kFh7_ok:aJ aaZ kFh7:=(aA (eTP_ok topM_gives) kFh6_ok)
theorem aziM_gives (a b c d e f u v:Int):aH aaZ 97 [.agg ⟨[.int .i64 a,.int .i64 b,.int .i64 c,.int .i64 d,.int .i64 e,.int .i64 f]⟩,.agg ⟨[.int .i64 u,.int .i64 v]⟩] (aP (VC a b c d e f u v)):=by
 refine aF bK kFh7_ok (t:=aziMK (fun p0 p1 p2=>some (.v (aP ((p0,p1,p2))))) a b c d e f u v) (by kernel_rfl) ?_;unfold VC aziMK;repeat' first | (with_reducible refine aO (fun r:Int×Int×Int=>AV.v (aP (r))) ?_ ?_) | (with_reducible refine aT (fun r:Int×Int×Int=>AV.v (aP (r))) fun _=>?_) | rfl
def JI {α:Type} (K:Int→Int→Int→Int→Int→α) (a b c d e f:Int):α:=lt (fT a b c d e f) fun x1=>cond (x1.2.2 != 0) (K 0 0 0 0 x1.2.2) (lt (VC a b c d e f x1.1 x1.2.1) fun x2=>cond (x2.2.2==21) (lt (uX x1.1 x1.2.1) fun x3=>K x3.1 x3.2 0 21600000 0) (cond (x2.2.2 != 0) (K 0 0 0 0 x2.2.2) (lt (uX x1.1 x1.2.1) fun x4=>K x4.1 x4.2 x2.1 x2.2.1 0)))
def uR (a b c d e f:Int):Int×Int×Int×Int×Int:=JI (fun p0 p1 p2 p3 p4=>(p0,p1,p2,p3,p4)) a b c d e f
def kFh8:bJ:=(97,eTP (fun a b c d e f u v=>aP (VC a b c d e f u v)))::kFh7
theorem kFh8_ok:aJ aaZ kFh8:=(aA (eTP_ok aziM_gives) kFh7_ok)
theorem XE (a b c d e f:Int):aH aaZ 58 [.agg ⟨[.int .i64 a,.int .i64 b,.int .i64 c,.int .i64 d,.int .i64 e,.int .i64 f]⟩] (cU (uR a b c d e f)):=by
 refine aF bK kFh8_ok (t:=JI (fun p0 p1 p2 p3 p4=>some (.v (cU ((p0,p1,p2,p3,p4))))) a b c d e f) (by kernel_rfl) ?_;unfold uR JI;repeat' first | (with_reducible refine aO (fun r:Int×Int×Int×Int×Int=>AV.v (cU (r))) ?_ ?_) | (with_reducible refine aT (fun r:Int×Int×Int×Int×Int=>AV.v (cU (r))) fun _=>?_) | rfl
end
section
open Ev
theorem iO {x y:Value} {xs ys:List Value} {r:Bool} (h:yH (x::xs) (y::ys)=some r):∃a b r',x=.int .i64 a∧y=.int .i64 b∧yH xs ys=some r'∧r=((a==b)&&r'):=by
 unfold yH at h;split at h
 ·rename_i he1 he2;cases he1
 ·rename_i a l b m he1 he2;cases he1;cases he2;split at h
  ·rename_i r' hr;simp only [Option.some.injEq] at h;exact ⟨a,b,r',rfl,rfl,hr,h.symm⟩
  ·cases h
 ·cases h
theorem yI:yH [] []=some true:=rfl
theorem FM (k:Nat) (a b c d:Int) (w:World):(Op.equalIn (k+2) 23 (.agg #[.int .i64 a,.int .i64 b]) (.agg #[.int .i64 c,.int .i64 d])).run aaZ w=.ok (a==c&&b==d) w:=by
 have u3:=Tryz.underlying3;have a3:=Tryz.isAgg3;have z3:=Tryz.sizeOf3;have hS:aaZ.underlying 23=some (.struct (aaZ.fieldsOf 23)):=by kernel_rfl
 have hp:aaZ.stoodInHeld 23=false:=by kernel_rfl
 rw [run_equalIn_agg w (k+1) 23 _ _ hS hp];simp only [Program.fieldsOf,Tryz.underlying23];go_simp
 by_cases h1:a=c<;>by_cases h2:b=d<;>simp [h1,h2]
theorem fitArc:nI aaZ (23,2):=by
 refine ⟨by kernel_rfl,fun xs ys r hx hy h w=>?_⟩;match xs,ys,hx,hy with
 | [x0,x1],[y0,y1],_,_=>
  obtain ⟨a,c,r1,rfl,rfl,h1,rfl⟩:=iO h;obtain ⟨b,d,r2,rfl,rfl,h2,rfl⟩:=iO h1;rw [yI] at h2;cases h2;rw [Bool.and_true];exact FM 9998 a b c d w
theorem fitSol:nI aaZ (29,4):=by
 refine ⟨by kernel_rfl,fun xs ys r hx hy h w=>?_⟩;match xs,ys,hx,hy with
 | [x0,x1,x2,x3],[y0,y1,y2,y3],_,_=>
  obtain ⟨a,c,r1,rfl,rfl,h1,rfl⟩:=iO h;obtain ⟨b,d,r2,rfl,rfl,h2,rfl⟩:=iO h1;obtain ⟨e,f,r3,rfl,rfl,h3,rfl⟩:=iO h2;obtain ⟨i,j,r4,rfl,rfl,h4,rfl⟩:=iO h3;rw [yI] at h4;cases h4;have hS:aaZ.underlying 29=some (.struct (aaZ.fieldsOf 29)):=by kernel_rfl
  have hp:aaZ.stoodInHeld 29=false:=by kernel_rfl
  have a25:=Tryz.isAgg23;have z25:=Tryz.sizeOf23;have q1:=fun w=>FM 9997 a b c d w;have q2:=fun w=>FM 9997 e i f j w;rw [run_equalIn_agg w 9999 29 _ _ hS hp];simp only [Program.fieldsOf,Tryz.underlying29,Op.eqFields,part];simp [a25,z25,q1,q2];by_cases h1:a=c<;>by_cases h2:b=d<;>by_cases h3:e=f<;>by_cases h4:i=j<;>simp [h1,h2,h3,h4]
def Es:List (TypeId×Nat):=[(23,2),(29,4)]
theorem bV:∀e∈Es,nI aaZ e:=by
 intro e he;simp only [Es,List.mem_cons,List.not_mem_nil,or_false] at he;rcases he with rfl | rfl
 ·exact fitArc
 ·exact fitSol
open Ev (lt)
def MY (r:Int×Int×Int×Int×Int):Int×Int×Int×Int×Int:=if r.2.2.2.2=0 then r else (0,0,0,0,r.2.2.2.2)
theorem GW (r:Int×Int×Int×Int×Int):(lt r fun x=>cond (x.2.2.2.2 != 0) (some (AV.v (.tuple ⟨[.agg ⟨[.int .i64 0,.int .i64 0,.int .i64 0,.int .i64 0]⟩,.int .i64 x.2.2.2.2]⟩))) (some (.v (.tuple ⟨[.agg ⟨[.int .i64 x.1,.int .i64 x.2.1,.int .i64 x.2.2.1,.int .i64 x.2.2.2.1]⟩,.int .i64 0]⟩))))=some (.v (cU (MY r))):=by
 obtain ⟨x1,x2,x3,x4,xe⟩:=r;unfold lt MY;by_cases h:xe=0
 ·subst h;rfl
 ·have e:(xe != 0)=true:=by simpa using h
  dsimp only;rw [e,if_neg h];rfl
def by1 (a b c d e f:Int):Int×Int×Int×Int×Int:=MY (gQ a b c d e f)
def kBw0:bJ:=(24,eP (fun a b=>.bool (aE a b)))::(38,eT (fun a b c d e f=>cU (gQ a b c d e f)))::(58,eT (fun a b c d e f=>cU (uR a b c d e f)))::(59,eT (fun a b c d e f=>cU (MG a b c d e f)))::(60,eT (fun a b c d e f=>cU (JH a b c d e f)))::(61,eT (fun a b c d e f=>cU (xO a b c d e f)))::[]
theorem rW:aJ aaZ kBw0:=(aA (dD (fun a b W _=>lE a b W)) (aA (lO DN) (aA (lO XE) (aA (lO solM_gives) (aA (lO hslM_gives) (aA (lO YP) fE))))))
theorem by1_gives (a b c d e f:Int):aH aaZ 23 [.int .i64 1,.agg ⟨[.int .i64 a,.int .i64 b,.int .i64 c,.int .i64 d,.int .i64 e,.int .i64 f]⟩] (cU (by1 a b c d e f)):=by
 refine aF bV rW (t:=lt (gQ a b c d e f) fun x1=>cond (x1.2.2.2.2 != 0) (some (.v (.tuple ⟨[.agg ⟨[.int .i64 0,.int .i64 0,.int .i64 0,.int .i64 0]⟩,.int .i64 x1.2.2.2.2]⟩))) (some (.v (.tuple ⟨[.agg ⟨[.int .i64 x1.1,.int .i64 x1.2.1,.int .i64 x1.2.2.1,.int .i64 x1.2.2.2.1]⟩,.int .i64 0]⟩)))) (by kernel_rfl) ?_;exact GW _
def by2 (a b c d e f:Int):Int×Int×Int×Int×Int:=MY (uR a b c d e f)
theorem by2_gives (a b c d e f:Int):aH aaZ 23 [.int .i64 2,.agg ⟨[.int .i64 a,.int .i64 b,.int .i64 c,.int .i64 d,.int .i64 e,.int .i64 f]⟩] (cU (by2 a b c d e f)):=by
 refine aF bV rW (t:=lt (uR a b c d e f) fun x1=>cond (x1.2.2.2.2 != 0) (some (.v (.tuple ⟨[.agg ⟨[.int .i64 0,.int .i64 0,.int .i64 0,.int .i64 0]⟩,.int .i64 x1.2.2.2.2]⟩))) (some (.v (.tuple ⟨[.agg ⟨[.int .i64 x1.1,.int .i64 x1.2.1,.int .i64 x1.2.2.1,.int .i64 x1.2.2.2.1]⟩,.int .i64 0]⟩)))) (by kernel_rfl) ?_;exact GW _
def by3 (a b c d e f:Int):Int×Int×Int×Int×Int:=MY (MG a b c d e f)
theorem by3_gives (a b c d e f:Int):aH aaZ 23 [.int .i64 3,.agg ⟨[.int .i64 a,.int .i64 b,.int .i64 c,.int .i64 d,.int .i64 e,.int .i64 f]⟩] (cU (by3 a b c d e f)):=by
 refine aF bV rW (t:=lt (MG a b c d e f) fun x1=>cond (x1.2.2.2.2 != 0) (some (.v (.tuple ⟨[.agg ⟨[.int .i64 0,.int .i64 0,.int .i64 0,.int .i64 0]⟩,.int .i64 x1.2.2.2.2]⟩))) (some (.v (.tuple ⟨[.agg ⟨[.int .i64 x1.1,.int .i64 x1.2.1,.int .i64 x1.2.2.1,.int .i64 x1.2.2.2.1]⟩,.int .i64 0]⟩)))) (by kernel_rfl) ?_;exact GW _
def by4 (a b c d e f:Int):Int×Int×Int×Int×Int:=MY (JH a b c d e f)
theorem by4_gives (a b c d e f:Int):aH aaZ 23 [.int .i64 4,.agg ⟨[.int .i64 a,.int .i64 b,.int .i64 c,.int .i64 d,.int .i64 e,.int .i64 f]⟩] (cU (by4 a b c d e f)):=by
 refine aF bV rW (t:=lt (JH a b c d e f) fun x1=>cond (x1.2.2.2.2 != 0) (some (.v (.tuple ⟨[.agg ⟨[.int .i64 0,.int .i64 0,.int .i64 0,.int .i64 0]⟩,.int .i64 x1.2.2.2.2]⟩))) (some (.v (.tuple ⟨[.agg ⟨[.int .i64 x1.1,.int .i64 x1.2.1,.int .i64 x1.2.2.1,.int .i64 x1.2.2.2.1]⟩,.int .i64 0]⟩)))) (by kernel_rfl) ?_;exact GW _
def by5 (a b c d e f:Int):Int×Int×Int×Int×Int:=MY (xO a b c d e f)
theorem by5_gives (a b c d e f:Int):aH aaZ 23 [.int .i64 5,.agg ⟨[.int .i64 a,.int .i64 b,.int .i64 c,.int .i64 d,.int .i64 e,.int .i64 f]⟩] (cU (by5 a b c d e f)):=by
 refine aF bV rW (t:=lt (xO a b c d e f) fun x1=>cond (x1.2.2.2.2 != 0) (some (.v (.tuple ⟨[.agg ⟨[.int .i64 0,.int .i64 0,.int .i64 0,.int .i64 0]⟩,.int .i64 x1.2.2.2.2]⟩))) (some (.v (.tuple ⟨[.agg ⟨[.int .i64 x1.1,.int .i64 x1.2.1,.int .i64 x1.2.2.1,.int .i64 x1.2.2.2.1]⟩,.int .i64 0]⟩)))) (by kernel_rfl) ?_;exact GW _
def eS (F:Int→Int→Int→Int→Value):zC
 | [.v (.agg ⟨[.int .i64 a,.int .i64 b,.int .i64 c,.int .i64 d]⟩)],[]=>some (true,.v (F a b c d),[])
 | _,_=>none
theorem eS_ok {P:Program} {g:FuncId} {F:Int→Int→Int→Int→Value} (h:∀a b c d,aH P g [.agg ⟨[.int .i64 a,.int .i64 b,.int .i64 c,.int .i64 d]⟩] (F a b c d)) (args:List AV) (L:Ev.cF) (z:Bool) (r:AV) (L':Ev.cF) (q:eS F args L=some (z,r,L')) (_:z=true):fI P g args L r L':=by
 unfold eS at q;split at q
 ·cases q;exact cS (h _ _ _ _)
 ·cases q
def IY:Int×Int:=(0,21600000)
theorem DQ:aH aaZ 94 [] (aG (IY).1 (IY).2):=aF bV rW (by kernel_rfl) rfl
def OS (a b c d:Int):Bool:=cond (!(aE a b)) (false) (cond (!(aE c d)) (false) (lt (IY) fun x1=>cond ((c==x1.1)&&((d==x1.2)&&true)) (true) (cond (decide (c≥0)) (cond (decide (c<21600000)) ((decide (i64.wrap (d-c)<21600000))) (false)) (false))))
def kBw1:bJ:=(94,e0 (aG (IY).1 (IY).2))::kBw0
theorem kBw1_ok:aJ aaZ kBw1:=(aA (e0_ok DQ) rW)
theorem ZX (a b c d:Int):aH aaZ 55 [.agg ⟨[.int .i64 a,.int .i64 b,.int .i64 c,.int .i64 d]⟩] (.bool (OS a b c d)):=by
 refine aF bV kBw1_ok (t:=cond (!(aE a b)) (some (.v (.bool false))) (cond (!(aE c d)) (some (.v (.bool false))) (lt (IY) fun x1=>cond ((c==x1.1)&&((d==x1.2)&&true)) (some (.v (.bool true))) (cond (decide (c≥0)) (cond (decide (c<21600000)) (some (.v (.bool (decide (i64.wrap (d-c)<21600000))))) (some (.v (.bool false)))) (some (.v (.bool false))))))) (by kernel_rfl) ?_;unfold OS;repeat' first | (with_reducible refine aO (fun r:Bool=>AV.v (.bool (r))) ?_ ?_) | (with_reducible refine aT (fun r:Bool=>AV.v (.bool (r))) fun _=>?_) | rfl
def rnvM (a b c d:Int):Bool:=(!(OS a b c d))
def kBw2:bJ:=(55,eS (fun a b c d=>.bool (OS a b c d)))::kBw1
theorem kBw2_ok:aJ aaZ kBw2:=(aA (eS_ok ZX) kBw1_ok)
theorem rnvM_gives (a b c d:Int):aH aaZ 54 [.agg ⟨[.int .i64 a,.int .i64 b,.int .i64 c,.int .i64 d]⟩] (.bool (rnvM a b c d)):=aF bV kBw2_ok (by kernel_rfl) rfl
end
section
open Ev
open Ev (lt)
def triT (r:Int×Int×Int×Int×Int×Int):Value:=.agg ⟨[.int .i64 r.1,.int .i64 r.2.1,.int .i64 r.2.2.1,.int .i64 r.2.2.2.1,.int .i64 r.2.2.2.2.1,.int .i64 r.2.2.2.2.2]⟩
def twoI (r:Int×Int):Value:=.tuple ⟨[.int .i64 r.1,.int .i64 r.2]⟩
def celV (r:Int×Int×Int):Value:=.agg ⟨[.int .i64 r.1,.int .i64 r.2.1,.int .i64 r.2.2]⟩
def pL (r:Int×Int×Int×Int):Value:=.tuple ⟨[celV (r.1,r.2.1,r.2.2.1),.int .i64 r.2.2.2]⟩
def eSS (F:Int→Int→Int→Int→Int→Int→Int→Int→Value):zC
 | [.v (.agg ⟨[.int .i64 a,.int .i64 b,.int .i64 c,.int .i64 d]⟩),.v (.agg ⟨[.int .i64 e,.int .i64 f,.int .i64 u,.int .i64 v]⟩)],[]=>some (true,.v (F a b c d e f u v),[])
 | _,_=>none
theorem eSS_ok {P:Program} {g:FuncId} {F:Int→Int→Int→Int→Int→Int→Int→Int→Value} (h:∀a b c d e f u v,aH P g [.agg ⟨[.int .i64 a,.int .i64 b,.int .i64 c,.int .i64 d]⟩,.agg ⟨[.int .i64 e,.int .i64 f,.int .i64 u,.int .i64 v]⟩] (F a b c d e f u v)) (args:List AV) (L:Ev.cF) (z:Bool) (r:AV) (L':Ev.cF) (q:eSS F args L=some (z,r,L')) (_:z=true):fI P g args L r L':=by
 unfold eSS at q;split at q
 ·cases q;exact cS (h _ _ _ _ _ _ _ _)
 ·cases q
def eTS (F:Int→Int→Int→Int→Int→Int→Int→Int→Int→Int→Value):zC
 | [.v (.agg ⟨[.int .i64 a,.int .i64 b,.int .i64 c,.int .i64 d,.int .i64 e,.int .i64 f]⟩),.v (.agg ⟨[.int .i64 u,.int .i64 v,.int .i64 w,.int .i64 x]⟩)],[]=>some (true,.v (F a b c d e f u v w x),[])
 | _,_=>none
theorem eTS_ok {P:Program} {g:FuncId} {F:Int→Int→Int→Int→Int→Int→Int→Int→Int→Int→Value} (h:∀a b c d e f u v w x,aH P g [.agg ⟨[.int .i64 a,.int .i64 b,.int .i64 c,.int .i64 d,.int .i64 e,.int .i64 f]⟩,.agg ⟨[.int .i64 u,.int .i64 v,.int .i64 w,.int .i64 x]⟩] (F a b c d e f u v w x)) (args:List AV) (L:Ev.cF) (z:Bool) (r:AV) (L':Ev.cF) (q:eTS F args L=some (z,r,L')) (_:z=true):fI P g args L r L':=by
 unfold eTS at q;split at q
 ·cases q;exact cS (h _ _ _ _ _ _ _ _ _ _)
 ·cases q
def zQ (p:Int→Int→Int→Bool) (F:Int→Int→Int→Value):zC
 | [.v (.agg ⟨[.int .i64 a,.int .i64 b,.int .i64 c]⟩)],[]=>some (p a b c,.v (F a b c),[])
 | _,_=>none
theorem oU {P:Program} {g:FuncId} {p:Int→Int→Int→Bool} {F:Int→Int→Int→Value} (h:∀a b c,p a b c=true→aH P g [.agg ⟨[.int .i64 a,.int .i64 b,.int .i64 c]⟩] (F a b c)) (args:List AV) (L:Ev.cF) (z:Bool) (r:AV) (L':Ev.cF) (q:zQ p F args L=some (z,r,L')) (hz:z=true):fI P g args L r L':=by
 unfold zQ at q;split at q
 ·cases q;exact cS (h _ _ _ hz)
 ·cases q
def rE (a:Int):Int:=cond (decide ((jZ a)≥10800000)) (i64.wrap ((jZ a)-21600000)) ((jZ a))
def kPl0:bJ:=(24,eP (fun a b=>.bool (aE a b)))::(25,eI (fun a=>.int .i64 (jZ a)))::(45,rI (fun a b c d=>aP (gB a b c d)))::(65,eP (fun a b=>aP (aK a b)))::(66,eP (fun a b=>aP (aI a b)))::(67,rI (fun a b c d=>aP (bF a b c d)))::(86,rI (fun a b c d=>.bool (fS a b c d)))::[]
theorem RU:aJ aaZ kPl0:=(aA (dD (fun a b W _=>lE a b W)) (aA (IR (fun a W _=>LN a W)) (aA (dM mR) (aA (dD (fun a b W _=>LB a b W)) (aA (dD (fun a b W _=>DL a b W)) (aA (dM jM) (aA (dM pR) fE)))))))
theorem ZQ (a:Int):aH aaZ 84 [.int .i64 a] (.int .i64 (rE a)):=by
 refine aF bV RU (t:=cond (decide ((jZ a)≥10800000)) (some (.v (.int .i64 (i64.wrap ((jZ a)-21600000))))) (some (.v (.int .i64 (jZ a))))) (by kernel_rfl) ?_;unfold rE;repeat' first | (with_reducible refine aO (fun r:Int=>AV.v (.int .i64 (r))) ?_ ?_) | (with_reducible refine aT (fun r:Int=>AV.v (.int .i64 (r))) fun _=>?_) | rfl
def evwM:Int×Int:=((-10800000),10800000)
theorem evwM_gives:aH aaZ 228 [] (aG (evwM).1 (evwM).2):=aF bV RU (by kernel_rfl) rfl
def DZ (a b:Int):Bool:=lt (evwM) fun x1=>((a==x1.1)&&((b==x1.2)&&true))
def kPl1:bJ:=(228,e0 (aG (evwM).1 (evwM).2))::kPl0
theorem kPl1_ok:aJ aaZ kPl1:=(aA (e0_ok evwM_gives) RU)
theorem YV (a b:Int):aH aaZ 200 [.agg ⟨[.int .i64 a,.int .i64 b]⟩] (.bool (DZ a b)):=aF bV kPl1_ok (by kernel_rfl) rfl
def vlatM (a b:Int):Bool:=cond (decide (a≤b)) (cond (decide (a≥(-5400000))) ((decide (b≤5400000))) (false)) (false)
def kPl2:bJ:=(200,eP (fun a b=>.bool (DZ a b)))::kPl1
theorem kPl2_ok:aJ aaZ kPl2:=(aA (dD YV) kPl1_ok)
theorem vlatM_gives (a b:Int):aH aaZ 172 [.agg ⟨[.int .i64 a,.int .i64 b]⟩] (.bool (vlatM a b)):=by
 refine aF bV kPl2_ok (t:=cond (decide (a≤b)) (cond (decide (a≥(-5400000))) (some (.v (.bool (decide (b≤5400000))))) (some (.v (.bool false)))) (some (.v (.bool false)))) (by kernel_rfl) ?_;unfold vlatM;repeat' first | (with_reducible refine aO (fun r:Bool=>AV.v (.bool (r))) ?_ ?_) | (with_reducible refine aT (fun r:Bool=>AV.v (.bool (r))) fun _=>?_) | rfl
def vlonM (a b:Int):Bool:=cond (DZ a b) (true) (cond (decide (a≥(-10800000))) (cond (decide (a<10800000)) (cond (decide (a≤b)) ((decide (i64.wrap (b-a)<21600000))) (false)) (false)) (false))
def kPl3:bJ:=(172,eP (fun a b=>.bool (vlatM a b)))::kPl2
theorem kPl3_ok:aJ aaZ kPl3:=(aA (dD vlatM_gives) kPl2_ok)
theorem vlonM_gives (a b:Int):aH aaZ 173 [.agg ⟨[.int .i64 a,.int .i64 b]⟩] (.bool (vlonM a b)):=by
 refine aF bV kPl3_ok (t:=cond (DZ a b) (some (.v (.bool true))) (cond (decide (a≥(-10800000))) (cond (decide (a<10800000)) (cond (decide (a≤b)) (some (.v (.bool (decide (i64.wrap (b-a)<21600000))))) (some (.v (.bool false)))) (some (.v (.bool false)))) (some (.v (.bool false))))) (by kernel_rfl) ?_;unfold vlonM;repeat' first | (with_reducible refine aO (fun r:Bool=>AV.v (.bool (r))) ?_ ?_) | (with_reducible refine aT (fun r:Bool=>AV.v (.bool (r))) fun _=>?_) | rfl
def vP (a b c d:Int):Bool:=cond (vlatM a b) ((vlonM c d)) (false)
def kPl4:bJ:=(173,eP (fun a b=>.bool (vlonM a b)))::kPl3
theorem kPl4_ok:aJ aaZ kPl4:=(aA (dD vlonM_gives) kPl3_ok)
theorem EA (a b c d:Int):aH aaZ 139 [.agg ⟨[.int .i64 a,.int .i64 b,.int .i64 c,.int .i64 d]⟩] (.bool (vP a b c d)):=by
 refine aF bV kPl4_ok (t:=cond (vlatM a b) (some (.v (.bool (vlonM c d)))) (some (.v (.bool false)))) (by kernel_rfl) ?_;unfold vP;repeat' first | (with_reducible refine aO (fun r:Bool=>AV.v (.bool (r))) ?_ ?_) | (with_reducible refine aT (fun r:Bool=>AV.v (.bool (r))) fun _=>?_) | rfl
def beyM (a _b c:Int):Int:=(jZ (i64.wrap (c-a)))
def kPl5:bJ:=(139,eS (fun a b c d=>.bool (vP a b c d)))::kPl4
theorem kPl5_ok:aJ aaZ kPl5:=(aA (eS_ok EA) kPl4_ok)
theorem beyM_gives (a b c:Int):aH aaZ 258 [.agg ⟨[.int .i64 a,.int .i64 b]⟩,.int .i64 c] (.int .i64 (beyM a b c)):=aF bV kPl5_ok (by kernel_rfl) rfl
def YY (a b c d:Int):Bool:=cond (DZ c d) (true) (cond (DZ a b) (false) ((decide (i64.wrap ((i64.wrap ((beyM c d a)+b))-a)≤i64.wrap (d-c)))))
def kPl6:bJ:=(258,ePI (fun a b c=>.int .i64 (beyM a b c)))::kPl5
theorem kPl6_ok:aJ aaZ kPl6:=(aA (ePI_ok beyM_gives) kPl5_ok)
theorem YZ (a b c d:Int):aH aaZ 231 [.agg ⟨[.int .i64 a,.int .i64 b]⟩,.agg ⟨[.int .i64 c,.int .i64 d]⟩] (.bool (YY a b c d)):=by
 refine aF bV kPl6_ok (t:=cond (DZ c d) (some (.v (.bool true))) (cond (DZ a b) (some (.v (.bool false))) (some (.v (.bool (decide (i64.wrap ((i64.wrap ((beyM c d a)+b))-a)≤i64.wrap (d-c)))))))) (by kernel_rfl) ?_;unfold YY;repeat' first | (with_reducible refine aO (fun r:Bool=>AV.v (.bool (r))) ?_ ?_) | (with_reducible refine aT (fun r:Bool=>AV.v (.bool (r))) fun _=>?_) | rfl
def pinM (a b c d e f u v:Int):Bool:=cond (vP a b c d) (cond (vP e f u v) (cond (decide (a≥e)) (cond (decide (b≤f)) ((YY c d u v)) (false)) (false)) (false)) (false)
def kPl7:bJ:=(231,rI (fun a b c d=>.bool (YY a b c d)))::kPl6
theorem rX:aJ aaZ kPl7:=(aA (dM YZ) kPl6_ok)
theorem pinM_gives (a b c d e f u v:Int):aH aaZ 203 [.agg ⟨[.int .i64 a,.int .i64 b,.int .i64 c,.int .i64 d]⟩,.agg ⟨[.int .i64 e,.int .i64 f,.int .i64 u,.int .i64 v]⟩] (.bool (pinM a b c d e f u v)):=by
 refine aF bV rX (t:=cond (vP a b c d) (cond (vP e f u v) (cond (decide (a≥e)) (cond (decide (b≤f)) (some (.v (.bool (YY c d u v)))) (some (.v (.bool false)))) (some (.v (.bool false)))) (some (.v (.bool false)))) (some (.v (.bool false)))) (by kernel_rfl) ?_;unfold pinM;repeat' first | (with_reducible refine aO (fun r:Bool=>AV.v (.bool (r))) ?_ ?_) | (with_reducible refine aT (fun r:Bool=>AV.v (.bool (r))) fun _=>?_) | rfl
def lvP (l _r _c:Int):Bool:=decide (0≤l∧l≤4)
theorem lv5 {l r c:Int} (h:lvP l r c=true):l=0∨l=1∨l=2∨l=3∨l=4:=by
 have:=of_decide_eq_true h;omega
def IH (r c:Int):Bool:=cond (decide (r≥0)) (cond (decide (r<1)) (cond (decide (c≥0)) ((decide (c<2))) (false)) (false)) (false)
theorem QS (r c:Int):aH aaZ 234 [.agg ⟨[.int .i64 0,.int .i64 r,.int .i64 c]⟩] (.bool (IH r c)):=by
 refine aF bV rX (t:=cond (decide (r≥0)) (cond (decide (r<1)) (cond (decide (c≥0)) (some (.v (.bool (decide (c<2))))) (some (.v (.bool false)))) (some (.v (.bool false)))) (some (.v (.bool false)))) (by kernel_rfl) ?_;unfold IH;repeat' first | (with_reducible refine aO (fun r:Bool=>AV.v (.bool (r))) ?_ ?_) | (with_reducible refine aT (fun r:Bool=>AV.v (.bool (r))) fun _=>?_) | rfl
def II (r c:Int):Bool:=cond (decide (r≥0)) (cond (decide (r<2)) (cond (decide (c≥0)) ((decide (c<4))) (false)) (false)) (false)
theorem QT (r c:Int):aH aaZ 234 [.agg ⟨[.int .i64 1,.int .i64 r,.int .i64 c]⟩] (.bool (II r c)):=by
 refine aF bV rX (t:=cond (decide (r≥0)) (cond (decide (r<2)) (cond (decide (c≥0)) (some (.v (.bool (decide (c<4))))) (some (.v (.bool false)))) (some (.v (.bool false)))) (some (.v (.bool false)))) (by kernel_rfl) ?_;unfold II;repeat' first | (with_reducible refine aO (fun r:Bool=>AV.v (.bool (r))) ?_ ?_) | (with_reducible refine aT (fun r:Bool=>AV.v (.bool (r))) fun _=>?_) | rfl
def IJ (r c:Int):Bool:=cond (decide (r≥0)) (cond (decide (r<4)) (cond (decide (c≥0)) ((decide (c<8))) (false)) (false)) (false)
theorem QU (r c:Int):aH aaZ 234 [.agg ⟨[.int .i64 2,.int .i64 r,.int .i64 c]⟩] (.bool (IJ r c)):=by
 refine aF bV rX (t:=cond (decide (r≥0)) (cond (decide (r<4)) (cond (decide (c≥0)) (some (.v (.bool (decide (c<8))))) (some (.v (.bool false)))) (some (.v (.bool false)))) (some (.v (.bool false)))) (by kernel_rfl) ?_;unfold IJ;repeat' first | (with_reducible refine aO (fun r:Bool=>AV.v (.bool (r))) ?_ ?_) | (with_reducible refine aT (fun r:Bool=>AV.v (.bool (r))) fun _=>?_) | rfl
def IK (r c:Int):Bool:=cond (decide (r≥0)) (cond (decide (r<8)) (cond (decide (c≥0)) ((decide (c<16))) (false)) (false)) (false)
theorem QV (r c:Int):aH aaZ 234 [.agg ⟨[.int .i64 3,.int .i64 r,.int .i64 c]⟩] (.bool (IK r c)):=by
 refine aF bV rX (t:=cond (decide (r≥0)) (cond (decide (r<8)) (cond (decide (c≥0)) (some (.v (.bool (decide (c<16))))) (some (.v (.bool false)))) (some (.v (.bool false)))) (some (.v (.bool false)))) (by kernel_rfl) ?_;unfold IK;repeat' first | (with_reducible refine aO (fun r:Bool=>AV.v (.bool (r))) ?_ ?_) | (with_reducible refine aT (fun r:Bool=>AV.v (.bool (r))) fun _=>?_) | rfl
def cvaM_4 (r c:Int):Bool:=cond (decide (r≥0)) (cond (decide (r<16)) (cond (decide (c≥0)) ((decide (c<32))) (false)) (false)) (false)
theorem QW (r c:Int):aH aaZ 234 [.agg ⟨[.int .i64 4,.int .i64 r,.int .i64 c]⟩] (.bool (cvaM_4 r c)):=by
 refine aF bV rX (t:=cond (decide (r≥0)) (cond (decide (r<16)) (cond (decide (c≥0)) (some (.v (.bool (decide (c<32))))) (some (.v (.bool false)))) (some (.v (.bool false)))) (some (.v (.bool false)))) (by kernel_rfl) ?_;unfold cvaM_4;repeat' first | (with_reducible refine aO (fun r:Bool=>AV.v (.bool (r))) ?_ ?_) | (with_reducible refine aT (fun r:Bool=>AV.v (.bool (r))) fun _=>?_) | rfl
def oT (l r c:Int):Bool:=cond (l==0) (IH r c) (cond (l==1) (II r c) (cond (l==2) (IJ r c) (cond (l==3) (IK r c) (cvaM_4 r c))))
theorem yE (l r c:Int) (hp:lvP l r c=true):aH aaZ 234 [.agg ⟨[.int .i64 l,.int .i64 r,.int .i64 c]⟩] (.bool (oT l r c)):=by
 rcases lv5 hp with rfl | rfl | rfl | rfl | rfl
 ·exact QS r c
 ·exact QT r c
 ·exact QU r c
 ·exact QV r c
 ·exact QW r c
def PV {α:Type} (K:Int→Int→Int→Int→Int→α) (r c:Int):α:=cond (!(oT 0 r c)) (K 0 0 0 0 1) (K (i64.wrap ((atZ (i64.wrap (r*10800000)) (2^0))-5400000)) (i64.wrap ((atZ (i64.wrap ((i64.wrap (r+1))*10800000)) (2^0))-5400000)) (i64.wrap ((atZ (i64.wrap (c*10800000)) (2^0))-10800000)) (i64.wrap ((atZ (i64.wrap ((i64.wrap (c+1))*10800000)) (2^0))-10800000)) 0)
def cboM_0 (r c:Int):Int×Int×Int×Int×Int:=PV (fun p0 p1 p2 p3 p4=>(p0,p1,p2,p3,p4)) r c
def kPl8:bJ:=(234,zQ lvP (fun a b c=>.bool (oT a b c)))::kPl7
theorem wP:aJ aaZ kPl8:=(aA (oU yE) rX)
theorem PW (r c:Int):aH aaZ 229 [.agg ⟨[.int .i64 0,.int .i64 r,.int .i64 c]⟩] (cU (cboM_0 r c)):=by
 refine aF bV wP (t:=PV (fun p0 p1 p2 p3 p4=>some (.v (cU ((p0,p1,p2,p3,p4))))) r c) (by kernel_rfl) ?_;unfold cboM_0 PV;repeat' first | (with_reducible refine aO (fun r:Int×Int×Int×Int×Int=>AV.v (cU (r))) ?_ ?_) | (with_reducible refine aT (fun r:Int×Int×Int×Int×Int=>AV.v (cU (r))) fun _=>?_) | rfl
def PX {α:Type} (K:Int→Int→Int→Int→Int→α) (r c:Int):α:=cond (!(oT 1 r c)) (K 0 0 0 0 1) (K (i64.wrap ((atZ (i64.wrap (r*10800000)) (2^1))-5400000)) (i64.wrap ((atZ (i64.wrap ((i64.wrap (r+1))*10800000)) (2^1))-5400000)) (i64.wrap ((atZ (i64.wrap (c*10800000)) (2^1))-10800000)) (i64.wrap ((atZ (i64.wrap ((i64.wrap (c+1))*10800000)) (2^1))-10800000)) 0)
def cboM_1 (r c:Int):Int×Int×Int×Int×Int:=PX (fun p0 p1 p2 p3 p4=>(p0,p1,p2,p3,p4)) r c
theorem PY (r c:Int):aH aaZ 229 [.agg ⟨[.int .i64 1,.int .i64 r,.int .i64 c]⟩] (cU (cboM_1 r c)):=by
 refine aF bV wP (t:=PX (fun p0 p1 p2 p3 p4=>some (.v (cU ((p0,p1,p2,p3,p4))))) r c) (by kernel_rfl) ?_;unfold cboM_1 PX;repeat' first | (with_reducible refine aO (fun r:Int×Int×Int×Int×Int=>AV.v (cU (r))) ?_ ?_) | (with_reducible refine aT (fun r:Int×Int×Int×Int×Int=>AV.v (cU (r))) fun _=>?_) | rfl
def PZ {α:Type} (K:Int→Int→Int→Int→Int→α) (r c:Int):α:=cond (!(oT 2 r c)) (K 0 0 0 0 1) (K (i64.wrap ((atZ (i64.wrap (r*10800000)) (2^2))-5400000)) (i64.wrap ((atZ (i64.wrap ((i64.wrap (r+1))*10800000)) (2^2))-5400000)) (i64.wrap ((atZ (i64.wrap (c*10800000)) (2^2))-10800000)) (i64.wrap ((atZ (i64.wrap ((i64.wrap (c+1))*10800000)) (2^2))-10800000)) 0)
def cboM_2 (r c:Int):Int×Int×Int×Int×Int:=PZ (fun p0 p1 p2 p3 p4=>(p0,p1,p2,p3,p4)) r c
theorem QA (r c:Int):aH aaZ 229 [.agg ⟨[.int .i64 2,.int .i64 r,.int .i64 c]⟩] (cU (cboM_2 r c)):=by
 refine aF bV wP (t:=PZ (fun p0 p1 p2 p3 p4=>some (.v (cU ((p0,p1,p2,p3,p4))))) r c) (by kernel_rfl) ?_;unfold cboM_2 PZ;repeat' first | (with_reducible refine aO (fun r:Int×Int×Int×Int×Int=>AV.v (cU (r))) ?_ ?_) | (with_reducible refine aT (fun r:Int×Int×Int×Int×Int=>AV.v (cU (r))) fun _=>?_) | rfl
def QB {α:Type} (K:Int→Int→Int→Int→Int→α) (r c:Int):α:=cond (!(oT 3 r c)) (K 0 0 0 0 1) (K (i64.wrap ((atZ (i64.wrap (r*10800000)) (2^3))-5400000)) (i64.wrap ((atZ (i64.wrap ((i64.wrap (r+1))*10800000)) (2^3))-5400000)) (i64.wrap ((atZ (i64.wrap (c*10800000)) (2^3))-10800000)) (i64.wrap ((atZ (i64.wrap ((i64.wrap (c+1))*10800000)) (2^3))-10800000)) 0)
def cboM_3 (r c:Int):Int×Int×Int×Int×Int:=QB (fun p0 p1 p2 p3 p4=>(p0,p1,p2,p3,p4)) r c
theorem QC (r c:Int):aH aaZ 229 [.agg ⟨[.int .i64 3,.int .i64 r,.int .i64 c]⟩] (cU (cboM_3 r c)):=by
 refine aF bV wP (t:=QB (fun p0 p1 p2 p3 p4=>some (.v (cU ((p0,p1,p2,p3,p4))))) r c) (by kernel_rfl) ?_;unfold cboM_3 QB;repeat' first | (with_reducible refine aO (fun r:Int×Int×Int×Int×Int=>AV.v (cU (r))) ?_ ?_) | (with_reducible refine aT (fun r:Int×Int×Int×Int×Int=>AV.v (cU (r))) fun _=>?_) | rfl
def QD {α:Type} (K:Int→Int→Int→Int→Int→α) (r c:Int):α:=cond (!(oT 4 r c)) (K 0 0 0 0 1) (K (i64.wrap ((atZ (i64.wrap (r*10800000)) (2^4))-5400000)) (i64.wrap ((atZ (i64.wrap ((i64.wrap (r+1))*10800000)) (2^4))-5400000)) (i64.wrap ((atZ (i64.wrap (c*10800000)) (2^4))-10800000)) (i64.wrap ((atZ (i64.wrap ((i64.wrap (c+1))*10800000)) (2^4))-10800000)) 0)
def cboM_4 (r c:Int):Int×Int×Int×Int×Int:=QD (fun p0 p1 p2 p3 p4=>(p0,p1,p2,p3,p4)) r c
theorem QE (r c:Int):aH aaZ 229 [.agg ⟨[.int .i64 4,.int .i64 r,.int .i64 c]⟩] (cU (cboM_4 r c)):=by
 refine aF bV wP (t:=QD (fun p0 p1 p2 p3 p4=>some (.v (cU ((p0,p1,p2,p3,p4))))) r c) (by kernel_rfl) ?_;unfold cboM_4 QD;repeat' first | (with_reducible refine aO (fun r:Int×Int×Int×Int×Int=>AV.v (cU (r))) ?_ ?_) | (with_reducible refine aT (fun r:Int×Int×Int×Int×Int=>AV.v (cU (r))) fun _=>?_) | rfl
def VR (l r c:Int):Int×Int×Int×Int×Int:=cond (l==0) (cboM_0 r c) (cond (l==1) (cboM_1 r c) (cond (l==2) (cboM_2 r c) (cond (l==3) (cboM_3 r c) (cboM_4 r c))))
theorem GZ (l r c:Int) (hp:lvP l r c=true):aH aaZ 229 [.agg ⟨[.int .i64 l,.int .i64 r,.int .i64 c]⟩] (cU (VR l r c)):=by
 rcases lv5 hp with rfl | rfl | rfl | rfl | rfl
 ·exact PW r c
 ·exact PY r c
 ·exact QA r c
 ·exact QC r c
 ·exact QE r c
def SY {α:Type} (K:Int→Int→Int→Int→α) (r c:Int):α:=lt (VR 0 r c) fun x1=>K x1.1 x1.2.1 x1.2.2.1 x1.2.2.2.1
def rboM_0 (r c:Int):Int×Int×Int×Int:=SY (fun p0 p1 p2 p3=>(p0,p1,p2,p3)) r c
def kPl9:bJ:=(229,zQ lvP (fun a b c=>cU (VR a b c)))::kPl8
theorem kW:aJ aaZ kPl9:=(aA (oU GZ) wP)
theorem TC (r c:Int):aH aaZ 201 [.agg ⟨[.int .i64 0,.int .i64 r,.int .i64 c]⟩] (nD (rboM_0 r c)):=by
 refine aF bV kW (t:=SY (fun p0 p1 p2 p3=>some (.v (nD ((p0,p1,p2,p3))))) r c) (by kernel_rfl) ?_;unfold rboM_0 SY;repeat' first | (with_reducible refine aO (fun r:Int×Int×Int×Int=>AV.v (nD (r))) ?_ ?_) | (with_reducible refine aT (fun r:Int×Int×Int×Int=>AV.v (nD (r))) fun _=>?_) | rfl
def TD {α:Type} (K:Int→Int→Int→Int→α) (r c:Int):α:=lt (VR 1 r c) fun x1=>K x1.1 x1.2.1 x1.2.2.1 x1.2.2.2.1
def rboM_1 (r c:Int):Int×Int×Int×Int:=TD (fun p0 p1 p2 p3=>(p0,p1,p2,p3)) r c
theorem TE (r c:Int):aH aaZ 201 [.agg ⟨[.int .i64 1,.int .i64 r,.int .i64 c]⟩] (nD (rboM_1 r c)):=by
 refine aF bV kW (t:=TD (fun p0 p1 p2 p3=>some (.v (nD ((p0,p1,p2,p3))))) r c) (by kernel_rfl) ?_;unfold rboM_1 TD;repeat' first | (with_reducible refine aO (fun r:Int×Int×Int×Int=>AV.v (nD (r))) ?_ ?_) | (with_reducible refine aT (fun r:Int×Int×Int×Int=>AV.v (nD (r))) fun _=>?_) | rfl
def TF {α:Type} (K:Int→Int→Int→Int→α) (r c:Int):α:=lt (VR 2 r c) fun x1=>K x1.1 x1.2.1 x1.2.2.1 x1.2.2.2.1
def rboM_2 (r c:Int):Int×Int×Int×Int:=TF (fun p0 p1 p2 p3=>(p0,p1,p2,p3)) r c
theorem TG (r c:Int):aH aaZ 201 [.agg ⟨[.int .i64 2,.int .i64 r,.int .i64 c]⟩] (nD (rboM_2 r c)):=by
 refine aF bV kW (t:=TF (fun p0 p1 p2 p3=>some (.v (nD ((p0,p1,p2,p3))))) r c) (by kernel_rfl) ?_;unfold rboM_2 TF;repeat' first | (with_reducible refine aO (fun r:Int×Int×Int×Int=>AV.v (nD (r))) ?_ ?_) | (with_reducible refine aT (fun r:Int×Int×Int×Int=>AV.v (nD (r))) fun _=>?_) | rfl
def TH {α:Type} (K:Int→Int→Int→Int→α) (r c:Int):α:=lt (VR 3 r c) fun x1=>K x1.1 x1.2.1 x1.2.2.1 x1.2.2.2.1
def rboM_3 (r c:Int):Int×Int×Int×Int:=TH (fun p0 p1 p2 p3=>(p0,p1,p2,p3)) r c
theorem TI (r c:Int):aH aaZ 201 [.agg ⟨[.int .i64 3,.int .i64 r,.int .i64 c]⟩] (nD (rboM_3 r c)):=by
 refine aF bV kW (t:=TH (fun p0 p1 p2 p3=>some (.v (nD ((p0,p1,p2,p3))))) r c) (by kernel_rfl) ?_;unfold rboM_3 TH;repeat' first | (with_reducible refine aO (fun r:Int×Int×Int×Int=>AV.v (nD (r))) ?_ ?_) | (with_reducible refine aT (fun r:Int×Int×Int×Int=>AV.v (nD (r))) fun _=>?_) | rfl
def TJ {α:Type} (K:Int→Int→Int→Int→α) (r c:Int):α:=lt (VR 4 r c) fun x1=>K x1.1 x1.2.1 x1.2.2.1 x1.2.2.2.1
def rboM_4 (r c:Int):Int×Int×Int×Int:=TJ (fun p0 p1 p2 p3=>(p0,p1,p2,p3)) r c
theorem TK (r c:Int):aH aaZ 201 [.agg ⟨[.int .i64 4,.int .i64 r,.int .i64 c]⟩] (nD (rboM_4 r c)):=by
 refine aF bV kW (t:=TJ (fun p0 p1 p2 p3=>some (.v (nD ((p0,p1,p2,p3))))) r c) (by kernel_rfl) ?_;unfold rboM_4 TJ;repeat' first | (with_reducible refine aO (fun r:Int×Int×Int×Int=>AV.v (nD (r))) ?_ ?_) | (with_reducible refine aT (fun r:Int×Int×Int×Int=>AV.v (nD (r))) fun _=>?_) | rfl
def rboM (l r c:Int):Int×Int×Int×Int:=cond (l==0) (rboM_0 r c) (cond (l==1) (rboM_1 r c) (cond (l==2) (rboM_2 r c) (cond (l==3) (rboM_3 r c) (rboM_4 r c))))
theorem rboM_gives (l r c:Int) (hp:lvP l r c=true):aH aaZ 201 [.agg ⟨[.int .i64 l,.int .i64 r,.int .i64 c]⟩] (nD (rboM l r c)):=by
 rcases lv5 hp with rfl | rfl | rfl | rfl | rfl
 ·exact TC r c
 ·exact TE r c
 ·exact TG r c
 ·exact TI r c
 ·exact TK r c
def QI {α:Type} (K:Int→Int→Int→Int→α) (r c:Int):α:=cond (!(oT 0 r c)) (K 0 0 0 1) (K 0 0 0 12)
def cpaM_0 (r c:Int):Int×Int×Int×Int:=QI (fun p0 p1 p2 p3=>(p0,p1,p2,p3)) r c
theorem QJ (r c:Int):aH aaZ 232 [.agg ⟨[.int .i64 0,.int .i64 r,.int .i64 c]⟩] (pL (cpaM_0 r c)):=by
 refine aF bV kW (t:=QI (fun p0 p1 p2 p3=>some (.v (pL ((p0,p1,p2,p3))))) r c) (by kernel_rfl) ?_;unfold cpaM_0 QI;repeat' first | (with_reducible refine aO (fun r:Int×Int×Int×Int=>AV.v (pL (r))) ?_ ?_) | (with_reducible refine aT (fun r:Int×Int×Int×Int=>AV.v (pL (r))) fun _=>?_) | rfl
def QK {α:Type} (K:Int→Int→Int→Int→α) (r c:Int):α:=cond (!(oT 1 r c)) (K 0 0 0 1) (K 0 (i64.wrap (arZ r 2)) (i64.wrap (arZ c 2)) 0)
def cpaM_1 (r c:Int):Int×Int×Int×Int:=QK (fun p0 p1 p2 p3=>(p0,p1,p2,p3)) r c
theorem QL (r c:Int):aH aaZ 232 [.agg ⟨[.int .i64 1,.int .i64 r,.int .i64 c]⟩] (pL (cpaM_1 r c)):=by
 refine aF bV kW (t:=QK (fun p0 p1 p2 p3=>some (.v (pL ((p0,p1,p2,p3))))) r c) (by kernel_rfl) ?_;unfold cpaM_1 QK;repeat' first | (with_reducible refine aO (fun r:Int×Int×Int×Int=>AV.v (pL (r))) ?_ ?_) | (with_reducible refine aT (fun r:Int×Int×Int×Int=>AV.v (pL (r))) fun _=>?_) | rfl
def QM {α:Type} (K:Int→Int→Int→Int→α) (r c:Int):α:=cond (!(oT 2 r c)) (K 0 0 0 1) (K 1 (i64.wrap (arZ r 2)) (i64.wrap (arZ c 2)) 0)
def cpaM_2 (r c:Int):Int×Int×Int×Int:=QM (fun p0 p1 p2 p3=>(p0,p1,p2,p3)) r c
theorem QN (r c:Int):aH aaZ 232 [.agg ⟨[.int .i64 2,.int .i64 r,.int .i64 c]⟩] (pL (cpaM_2 r c)):=by
 refine aF bV kW (t:=QM (fun p0 p1 p2 p3=>some (.v (pL ((p0,p1,p2,p3))))) r c) (by kernel_rfl) ?_;unfold cpaM_2 QM;repeat' first | (with_reducible refine aO (fun r:Int×Int×Int×Int=>AV.v (pL (r))) ?_ ?_) | (with_reducible refine aT (fun r:Int×Int×Int×Int=>AV.v (pL (r))) fun _=>?_) | rfl
def QO {α:Type} (K:Int→Int→Int→Int→α) (r c:Int):α:=cond (!(oT 3 r c)) (K 0 0 0 1) (K 2 (i64.wrap (arZ r 2)) (i64.wrap (arZ c 2)) 0)
def cpaM_3 (r c:Int):Int×Int×Int×Int:=QO (fun p0 p1 p2 p3=>(p0,p1,p2,p3)) r c
theorem QP (r c:Int):aH aaZ 232 [.agg ⟨[.int .i64 3,.int .i64 r,.int .i64 c]⟩] (pL (cpaM_3 r c)):=by
 refine aF bV kW (t:=QO (fun p0 p1 p2 p3=>some (.v (pL ((p0,p1,p2,p3))))) r c) (by kernel_rfl) ?_;unfold cpaM_3 QO;repeat' first | (with_reducible refine aO (fun r:Int×Int×Int×Int=>AV.v (pL (r))) ?_ ?_) | (with_reducible refine aT (fun r:Int×Int×Int×Int=>AV.v (pL (r))) fun _=>?_) | rfl
def QQ {α:Type} (K:Int→Int→Int→Int→α) (r c:Int):α:=cond (!(oT 4 r c)) (K 0 0 0 1) (K 3 (i64.wrap (arZ r 2)) (i64.wrap (arZ c 2)) 0)
def cpaM_4 (r c:Int):Int×Int×Int×Int:=QQ (fun p0 p1 p2 p3=>(p0,p1,p2,p3)) r c
theorem QR (r c:Int):aH aaZ 232 [.agg ⟨[.int .i64 4,.int .i64 r,.int .i64 c]⟩] (pL (cpaM_4 r c)):=by
 refine aF bV kW (t:=QQ (fun p0 p1 p2 p3=>some (.v (pL ((p0,p1,p2,p3))))) r c) (by kernel_rfl) ?_;unfold cpaM_4 QQ;repeat' first | (with_reducible refine aO (fun r:Int×Int×Int×Int=>AV.v (pL (r))) ?_ ?_) | (with_reducible refine aT (fun r:Int×Int×Int×Int=>AV.v (pL (r))) fun _=>?_) | rfl
def cpaM (l r c:Int):Int×Int×Int×Int:=cond (l==0) (cpaM_0 r c) (cond (l==1) (cpaM_1 r c) (cond (l==2) (cpaM_2 r c) (cond (l==3) (cpaM_3 r c) (cpaM_4 r c))))
theorem cpaM_gives (l r c:Int) (hp:lvP l r c=true):aH aaZ 232 [.agg ⟨[.int .i64 l,.int .i64 r,.int .i64 c]⟩] (pL (cpaM l r c)):=by
 rcases lv5 hp with rfl | rfl | rfl | rfl | rfl
 ·exact QJ r c
 ·exact QL r c
 ·exact QN r c
 ·exact QP r c
 ·exact QR r c
def DX (a b _e:Int):Int×Int:=(a,b)
def JN (k _a _b e:Int):Int:=bG k e
theorem knumV_mods (k a b c:Int):gN aaZ 296 288 k [.agg ⟨[.int .i64 a,.int .i64 b]⟩,.int .i64 c] (aG (DX a b c).1 (DX a b c).2) (JN k a b c):=by
 refine bM bV kW (t:=cond (k==0) (some (.v (.agg ⟨[.int .i64 a,.int .i64 b]⟩),⟨[.v (.int .i64 c)],288⟩)) (some (.v (.agg ⟨[.int .i64 a,.int .i64 b]⟩),⟨[.v (.int .i64 k)],288⟩))) (by kernel_rfl) ?_;unfold JN bG;by_cases h:k=0
 ·simp [h];rfl
 ·have e:(k==0)=false:=beq_eq_false_iff_ne.2 h;rw [e];simp [h];rfl
def NZ (a b:Int):Int×Int:=((aK a b).1,(aK a b).2.1)
def ksinC (k a b:Int):Int:=bG k (aK a b).2.2
def kPl10:bJ:=(296,cPI 288 (fun a b c=>aG (DX a b c).1 (DX a b c).2) JN)::kPl9
theorem XT:aJ aaZ kPl10:=(aA (rP knumV_mods) kW)
theorem ksinV_mods (k a b:Int):gN aaZ 282 288 k [.agg ⟨[.int .i64 a,.int .i64 b]⟩] (aG (NZ a b).1 (NZ a b).2) (ksinC k a b):=by
 refine bM bV XT (t:=lt (aK a b) fun x1=>lt (DX x1.1 x1.2.1 x1.2.2) fun x3=>lt (JN k x1.1 x1.2.1 x1.2.2) fun x2=>some (.v (.agg ⟨[.int .i64 x3.1,.int .i64 x3.2]⟩),⟨[.v (.int .i64 x2)],288⟩)) (by kernel_rfl) ?_;rfl
def DV (a b:Int):Int×Int:=((aI a b).1,(aI a b).2.1)
def NY (k a b:Int):Int:=bG k (aI a b).2.2
def kPl11:bJ:=(282,cP 288 (fun a b=>aG (NZ a b).1 (NZ a b).2) ksinC)::kPl10
theorem XU:aJ aaZ kPl11:=(aA (oR ksinV_mods) XT)
theorem kcosV_mods (k a b:Int):gN aaZ 283 288 k [.agg ⟨[.int .i64 a,.int .i64 b]⟩] (aG (DV a b).1 (DV a b).2) (NY k a b):=by
 refine bM bV XU (t:=lt (aI a b) fun x1=>lt (DX x1.1 x1.2.1 x1.2.2) fun x3=>lt (JN k x1.1 x1.2.1 x1.2.2) fun x2=>some (.v (.agg ⟨[.int .i64 x3.1,.int .i64 x3.2]⟩),⟨[.v (.int .i64 x2)],288⟩)) (by kernel_rfl) ?_;rfl
def JM (a b c d:Int):Int×Int:=((bF a b c d).1,(bF a b c d).2.1)
def YA (k a b c d:Int):Int:=bG k (bF a b c d).2.2
def kPl12:bJ:=(283,cP 288 (fun a b=>aG (DV a b).1 (DV a b).2) NY)::kPl11
theorem XV:aJ aaZ kPl12:=(aA (oR kcosV_mods) XU)
theorem kmulV_mods (k a b c d:Int):gN aaZ 281 288 k [.agg ⟨[.int .i64 a,.int .i64 b]⟩,.agg ⟨[.int .i64 c,.int .i64 d]⟩] (aG (JM a b c d).1 (JM a b c d).2) (YA k a b c d):=by
 refine bM bV XV (t:=lt (bF a b c d) fun x1=>lt (DX x1.1 x1.2.1 x1.2.2) fun x3=>lt (JN k x1.1 x1.2.1 x1.2.2) fun x2=>some (.v (.agg ⟨[.int .i64 x3.1,.int .i64 x3.2]⟩),⟨[.v (.int .i64 x2)],288⟩)) (by kernel_rfl) ?_;rfl
def JO (a b c d:Int):Int×Int:=((gB a b c d).1,(gB a b c d).2.1)
def kplusC (k a b c d:Int):Int:=bG k (gB a b c d).2.2
def kPl13:bJ:=(281,PT 288 (fun a b c d=>aG (JM a b c d).1 (JM a b c d).2) YA)::kPl12
theorem XW:aJ aaZ kPl13:=(aA (jH kmulV_mods) XV)
theorem YB (k a b c d:Int):gN aaZ 280 288 k [.agg ⟨[.int .i64 a,.int .i64 b]⟩,.agg ⟨[.int .i64 c,.int .i64 d]⟩] (aG (JO a b c d).1 (JO a b c d).2) (kplusC k a b c d):=by
 refine bM bV XW (t:=lt (gB a b c d) fun x1=>lt (DX x1.1 x1.2.1 x1.2.2) fun x3=>lt (JN k x1.1 x1.2.1 x1.2.2) fun x2=>some (.v (.agg ⟨[.int .i64 x3.1,.int .i64 x3.2]⟩),⟨[.v (.int .i64 x2)],288⟩)) (by kernel_rfl) ?_;rfl
def WD (a b c d e f:Int):Bool:=cond (vP a b c d) (cond (aE e f) (cond (decide (e≥0)) ((decide (f≤10800000))) (false)) (false)) (false)
def kPl14:bJ:=(280,PT 288 (fun a b c d=>aG (JO a b c d).1 (JO a b c d).2) kplusC)::kPl13
theorem XX:aJ aaZ kPl14:=(aA (jH YB) XW)
theorem DO (a b c d e f:Int):aH aaZ 135 [.agg ⟨[.int .i64 a,.int .i64 b,.int .i64 c,.int .i64 d,.int .i64 e,.int .i64 f]⟩] (.bool (WD a b c d e f)):=by
 refine aF bV XX (t:=cond (vP a b c d) (cond (aE e f) (cond (decide (e≥0)) (some (.v (.bool (decide (f≤10800000))))) (some (.v (.bool false)))) (some (.v (.bool false)))) (some (.v (.bool false)))) (by kernel_rfl) ?_;unfold WD;repeat' first | (with_reducible refine aO (fun r:Bool=>AV.v (.bool (r))) ?_ ?_) | (with_reducible refine aT (fun r:Bool=>AV.v (.bool (r))) fun _=>?_) | rfl
def ctriM (a b c d _e _f u v w x:Int):Int×Int×Int×Int×Int×Int:=(u,v,a,b,i64.wrap (w-d),i64.wrap (x-c))
def kPl15:bJ:=(135,eT (fun a b c d e f=>.bool (WD a b c d e f)))::kPl14
theorem XY:aJ aaZ kPl15:=(aA (lO DO) XX)
theorem VZ (a b c d e f u v w x:Int):aH aaZ 279 [.agg ⟨[.int .i64 a,.int .i64 b,.int .i64 c,.int .i64 d,.int .i64 e,.int .i64 f]⟩,.agg ⟨[.int .i64 u,.int .i64 v,.int .i64 w,.int .i64 x]⟩] (triT (ctriM a b c d e f u v w x)):=aF bV XY (by kernel_rfl) rfl
def csidMK {α:Type} (K:Int→Int→α) (a b c d e f u v w x:Int):α:=cond (!(WD a b c d e f)) (K 0 1) (cond (!(vP u v w x)) (K 0 1) (lt (ctriM a b c d e f u v w x) fun x1=>lt (NZ x1.1 x1.2.1) fun x3=>lt (ksinC 0 x1.1 x1.2.1) fun x2=>lt (NZ x1.2.2.1 x1.2.2.2.1) fun x5=>lt (ksinC x2 x1.2.2.1 x1.2.2.2.1) fun x4=>lt (JM x3.1 x3.2 x5.1 x5.2) fun x7=>lt (YA x4 x3.1 x3.2 x5.1 x5.2) fun x6=>lt (DV x1.1 x1.2.1) fun x9=>lt (NY x6 x1.1 x1.2.1) fun x8=>lt (DV x1.2.2.1 x1.2.2.2.1) fun x11=>lt (NY x8 x1.2.2.1 x1.2.2.2.1) fun x10=>lt (JM x9.1 x9.2 x11.1 x11.2) fun x13=>lt (YA x10 x9.1 x9.2 x11.1 x11.2) fun x12=>lt (DV x1.2.2.2.2.1 x1.2.2.2.2.2) fun x15=>lt (NY x12 x1.2.2.2.2.1 x1.2.2.2.2.2) fun x14=>lt (JM x13.1 x13.2 x15.1 x15.2) fun x17=>lt (YA x14 x13.1 x13.2 x15.1 x15.2) fun x16=>lt (JO x7.1 x7.2 x17.1 x17.2) fun x19=>lt (kplusC x16 x7.1 x7.2 x17.1 x17.2) fun x18=>lt (DV e f) fun x21=>lt (NY x18 e f) fun x20=>cond (x20 != 0) (K 0 x20) (cond (decide (x19.1>x21.2)) (K 1 0) (cond (decide (x19.2<x21.1)) (K (-1) 0) (K 0 0)))))
def csidM (a b c d e f u v w x:Int):Int×Int:=csidMK (fun p0 p1=>(p0,p1)) a b c d e f u v w x
def kPl16:bJ:=(279,eTS (fun a b c d e f u v w x=>triT (ctriM a b c d e f u v w x)))::kPl15
theorem uV:aJ aaZ kPl16:=(aA (eTS_ok VZ) XY)
theorem VY (a b c d e f u v w x:Int):aH aaZ 268 [.agg ⟨[.int .i64 a,.int .i64 b,.int .i64 c,.int .i64 d,.int .i64 e,.int .i64 f]⟩,.agg ⟨[.int .i64 u,.int .i64 v,.int .i64 w,.int .i64 x]⟩] (twoI (csidM a b c d e f u v w x)):=by
 refine aF bV uV (t:=csidMK (fun p0 p1=>some (.v (twoI ((p0,p1))))) a b c d e f u v w x) (by kernel_rfl) ?_;unfold csidM csidMK;repeat' first | (with_reducible refine aO (fun r:Int×Int=>AV.v (twoI (r))) ?_ ?_) | (with_reducible refine aT (fun r:Int×Int=>AV.v (twoI (r))) fun _=>?_) | rfl
def finM (a b c d:Int):Bool:=cond (fS a b c d) (cond (decide (c≤a)) ((decide (b≤d))) (false)) (false)
theorem finM_gives (a b c d:Int):aH aaZ 285 [.agg ⟨[.int .i64 a,.int .i64 b]⟩,.agg ⟨[.int .i64 c,.int .i64 d]⟩] (.bool (finM a b c d)):=by
 refine aF bV uV (t:=cond (fS a b c d) (cond (decide (c≤a)) (some (.v (.bool (decide (b≤d))))) (some (.v (.bool false)))) (some (.v (.bool false)))) (by kernel_rfl) ?_;unfold finM;repeat' first | (with_reducible refine aO (fun r:Bool=>AV.v (.bool (r))) ?_ ?_) | (with_reducible refine aT (fun r:Bool=>AV.v (.bool (r))) fun _=>?_) | rfl
def fvaM (a b:Int):Bool:=cond (decide (a≥(-2147483648))) (cond (decide (a≤b)) ((decide (b≤2147483648))) (false)) (false)
theorem fvaM_gives (a b:Int):aH aaZ 70 [.agg ⟨[.int .i64 a,.int .i64 b]⟩] (.bool (fvaM a b)):=by
 refine aF bV uV (t:=cond (decide (a≥(-2147483648))) (cond (decide (a≤b)) (some (.v (.bool (decide (b≤2147483648))))) (some (.v (.bool false)))) (some (.v (.bool false)))) (by kernel_rfl) ?_;unfold fvaM;repeat' first | (with_reducible refine aO (fun r:Bool=>AV.v (.bool (r))) ?_ ?_) | (with_reducible refine aT (fun r:Bool=>AV.v (.bool (r))) fun _=>?_) | rfl
def ER (a b:Int):Int:=cond (a != a) (cond (b != b) (0) ((-1))) (cond (b != b) (1) (cond (decide (a<b)) ((-1)) (cond (decide (a>b)) (1) (0))))
theorem IA (a b:Int):aH aaZ 264 [.int .i64 a,.int .i64 b] (.int .i64 (ER a b)):=by
 refine aF bV uV (t:=cond (a != a) (cond (b != b) (some (.v (.int .i64 0))) (some (.v (.int .i64 (-1))))) (cond (b != b) (some (.v (.int .i64 1))) (cond (decide (a<b)) (some (.v (.int .i64 (-1)))) (cond (decide (a>b)) (some (.v (.int .i64 1))) (some (.v (.int .i64 0))))))) (by kernel_rfl) ?_;unfold ER;repeat' first | (with_reducible refine aO (fun r:Int=>AV.v (.int .i64 (r))) ?_ ?_) | (with_reducible refine aT (fun r:Int=>AV.v (.int .i64 (r))) fun _=>?_) | rfl
def ccvM (a b c d:Int):Int:=cond ((ER a c) != 0) ((ER a c)) (cond ((ER d b) != 0) ((ER d b)) (0))
def kPl17:bJ:=(264,eII (fun a b=>.int .i64 (ER a b)))::kPl16
theorem kPl17_ok:aJ aaZ kPl17:=(aA (yG IA) uV)
theorem ccvM_gives (a b c d:Int):aH aaZ 262 [.agg ⟨[.int .i64 a,.int .i64 b]⟩,.agg ⟨[.int .i64 c,.int .i64 d]⟩] (.int .i64 (ccvM a b c d)):=by
 refine aF bV kPl17_ok (t:=cond ((ER a c) != 0) (some (.v (.int .i64 (ER a c)))) (cond ((ER d b) != 0) (some (.v (.int .i64 (ER d b)))) (some (.v (.int .i64 0))))) (by kernel_rfl) ?_;unfold ccvM;repeat' first | (with_reducible refine aO (fun r:Int=>AV.v (.int .i64 (r))) ?_ ?_) | (with_reducible refine aT (fun r:Int=>AV.v (.int .i64 (r))) fun _=>?_) | rfl
end
end
end Go.Proofs.YtajpgkpdhcbngaaGreatDoor
