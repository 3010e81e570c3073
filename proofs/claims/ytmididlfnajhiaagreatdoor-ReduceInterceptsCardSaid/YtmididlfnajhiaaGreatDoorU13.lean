/-
  The integer root: matrix.root for every number of 64 bits. Rotated vectors: what each function gives. A divided triangle: what each function gives. Haversines: what each function gives. Sight.
-/
import Derived.Test.YtmididlfnajhiaaGreatDoorU2
import Derived.LoopN
import Derived.WalkSpells
import Derived.StillTactics
import Derived.Deep.RegionWith
import Derived.Test.YtmididlfnajhiaaGreatDoorU6
import Derived.Test.YtmididlfnajhiaaGreatDoorU12
set_option maxRecDepth 100000
set_option maxHeartbeats 4000000
open Go.RowKit.Below renaming refl→acQ
open _root_.Int renaming natCast_mul→aiQ,tdiv_eq_ediv_of_nonneg→aiZ
open Go.Lib renaming bitLen→amQ,hid→aaQ
open _root_.Nat renaming lt_or_ge→abZ,mod_eq_of_lt→ajX,mul_le_mul→agQ,mul_le_mul_left→ahZ,pow_add→arJ,pow_le_pow_right→akX,pow_succ→akJ,two_pow_pos→apX
open Go.IntKind (i64 u64)
namespace Go.Proofs.YtmididlfnajhiaaGreatDoor
section
open Go.RowKit Go.Shelf
def bs (n:Nat):Nat→Nat→Nat→Nat
 | 0,low,_=>low
 | k+1,low,high=>if high-low≤1 then low else if ((low+high)/2)*((low+high)/2)≤n then bs n k ((low+high)/2) high else bs n k low ((low+high)/2)
def isq (n:Nat):Nat:=bs n 32 0 4294967296
theorem bs_ok (n:Nat):∀k l h,l<h→h-l≤2^k→l*l≤n→n<h*h→bs n k l h*bs n k l h≤n∧n<(bs n k l h+1)*(bs n k l h+1)
 | 0,l,h,h1,h2,h3,h4=>by
  have:h=l+1:=by omega
  subst this;exact ⟨h3,h4⟩
 | k+1,l,h,h1,h2,h3,h4=>by
  rw [akJ] at h2;unfold bs;split
  ·rename_i c;have:h=l+1:=by omega
   subst this;exact ⟨h3,h4⟩
  ·split
   ·rename_i c d;exact bs_ok n k _ h (by omega) (by omega) d h4
   ·rename_i c d;exact bs_ok n k l _ (by omega) (by omega) h3 (by omega)
theorem SI {n:Nat} (h:n<18446744073709551616):isq n*isq n≤n∧n<(isq n+1)*(isq n+1):=bs_ok n 32 0 4294967296 (by omega) (by decide) (by omega) (by omega)
theorem xT {n r s:Nat} (h1:r*r≤n) (h2:n<(r+1)*(r+1)) (h3:s*s≤n) (h4:n<(s+1)*(s+1)):r=s:=by
 rcases Nat.lt_trichotomy r s with h | h | h
 ·have:=agQ (show r+1≤s by omega) (show r+1≤s by omega);omega
 ·exact h
 ·have:=agQ (show s+1≤r by omega) (show s+1≤r by omega);omega
theorem isq_31 {n:Nat} (h:n<4611686018427387904):bs n 31 0 2147483648=isq n:=by
 have a:=bs_ok n 31 0 2147483648 (by omega) (by decide) (by omega) (by omega);have b:=SI (n:=n) (by omega);exact xT a.1 a.2 b.1 b.2
theorem FX {m:Nat} (h:m≤2147483648):(m:Int)*(m:Int)≤4611686018427387904∧0≤(m:Int)*(m:Int)∧(m:Int)*(m:Int)=((m*m:Nat):Int):=by
 have:=agQ h h;have e:(m:Int)*(m:Int)=((m*m:Nat):Int):=(aiQ m m).symm;rw [e];generalize m*m=p at*;omega
def RPost (w:World) (v:Value) (e:Ending) (w':World):Prop:=e=.returned v∧Below w.heap.size w w'
theorem rt_meas {L M H:Int} (h1:L<M) (h2:M<H):(intOf (.int .i64 H)-intOf (.int .i64 M)).toNat<(intOf (.int .i64 H)-intOf (.int .i64 L)).toNat∧(intOf (.int .i64 M)-intOf (.int .i64 L)).toNat<(intOf (.int .i64 H)-intOf (.int .i64 L)).toNat:=by
 simp only [intOf];omega
theorem QE (n:Nat) (hn:n<4611686018427387904) (w:World):Calls Tryz.prog 214 #[.int .i64 (n:Int)] w (RPost w (.int .i64 (isq n:Int))):=by
 have HB:=aaQ (acQ w.heap.size w);rw [←isq_31 hn];clear hn;generalize hR:bs n 31 0 2147483648=R;have hR:=aaQ hR;obtain ⟨N,hN⟩:∃N:Int,N=(n:Int):=⟨_,rfl⟩;rw [←hN];have hN:=aaQ hN;go_enter Tryz.func214,Tryz.ntmps214;go_wp2;go_loopw [3,4] (fun lo hi wr=>∃k l h:Nat,lo=.int .i64 (l:Int)∧hi=.int .i64 (h:Int)∧l<h∧h≤2147483648∧h-l≤2^k∧bs n k l h=R∧Below w.heap.size w wr) (fun lo hi _=>(intOf hi-intOf lo).toNat)
 case atStart=>exact ⟨31,0,2147483648,rfl,rfl,by omega,by omega,by decide,hR.out,HB.out⟩
 case round=>
  clear hR HB;obtain ⟨k,l,h,rfl,rfl,hlh,hh,hk,hs,hb⟩:=hrel;have HB:=aaQ hb;clear hb;by_cases hc:h-l≤1
  ·have hRl:R=l:=by
    cases k with
    | zero=>exact hs.symm
    | succ k=>rw [bs,if_pos hc] at hs;exact hs.symm
   obtain ⟨L,hL⟩:∃L:Int,L=(l:Int):=⟨_,rfl⟩;obtain ⟨H,hH⟩:∃H:Int,H=(h:Int):=⟨_,rfl⟩;have i1:0≤L:=by omega
   have i3:H-L≤1:=by omega
   have i4:H≤2147483648:=by omega
   have i5:L<H:=by omega
   rw [←hL,←hH];have HF:=aaQ (show RPost w (.int .i64 (R:Int)) (.returned (.int .i64 L)) wr from ⟨by rw [hRl,hL],HB.out⟩);clear hlh hh hc hk hs hRl hL hH hN;go_wp2;go_ret;exact HF.out
  ·obtain ⟨k,rfl⟩:∃j,k=j+1:=by
    cases k with
    | zero=>omega
    | succ k=>exact ⟨k,rfl⟩
   rw [bs,if_neg hc] at hs;rw [akJ] at hk;obtain ⟨m,hm⟩:∃m,m=(l+h)/2:=⟨_,rfl⟩;rw [←hm] at hs;have m1:l<m:=by omega
   have m2:m<h:=by omega
   have sb:=FX (m:=m) (by omega);have hS:=aaQ hs;have hk2:=aaQ hk;have hd:((l:Int)+(h:Int)).tdiv 2=(m:Int):=by rw [aiZ (by omega)];omega
   have hcm:=aaQ (show (m:Int)*(m:Int)≤N↔m*m≤n by rw [hN.out,sb.2.2];exact Int.ofNat_le);obtain ⟨sb1,sb2,_⟩:=sb;have P1:=aaQ (show ((∃l' h':Nat,l'=m∧h'=h∧l'<h'∧h'≤2147483648∧h'-l'≤2^k)) from ⟨m,h,rfl,rfl,m2,hh,by have:=hk2.out;omega⟩);have P2:=aaQ (show l<m∧m≤2147483648∧m-l≤2^k from ⟨m1,by omega,by have:=hk2.out;omega⟩);have P3:=aaQ (show m<h∧h≤2147483648∧h-m≤2^k from ⟨m2,hh,by have:=hk2.out;omega⟩);clear hs hk hk2 P1;obtain ⟨L,hL⟩:∃L:Int,L=(l:Int):=⟨_,rfl⟩;obtain ⟨H,hH⟩:∃H:Int,H=(h:Int):=⟨_,rfl⟩;obtain ⟨M,hM⟩:∃M:Int,M=(m:Int):=⟨_,rfl⟩;have i1:0≤L:=by omega
   have i3:¬H-L≤1:=by omega
   have i4:H≤2147483648:=by omega
   have i5:L<M:=by omega
   have i6:M<H:=by omega
   rw [←hL,←hH,←hM] at hd;rw [←hM] at sb1 sb2 hcm;rw [←hL,←hH];replace hL:=aaQ hL;replace hH:=aaQ hH;replace hM:=aaQ hM;have ME:=aaQ (rt_meas i5 i6);have wm:i64.wrap (M*M)=M*M:=IntWalk.i64_in _ (by omega);clear hlh hh hc hm m1 m2;by_cases c:M*M≤N
   ·have hs2:=hS.out;rw [if_pos (hcm.out.1 c)] at hs2;have hs2:=aaQ hs2;clear hcm hS;go_wp2;go_roundw
    case rel=>exact ⟨k,m,h,by rw [hM.out],by rw [hH.out],P3.out.1,P3.out.2.1,P3.out.2.2,hs2.out,HB.out⟩
    case measure=>exact ME.out.1
   ·have hs2:=hS.out;rw [if_neg (fun q=>c (hcm.out.2 q))] at hs2;have hs2:=aaQ hs2;clear hcm hS;go_wp2;go_roundw
    case rel=>exact ⟨k,l,m,by rw [hL.out],by rw [hM.out],P2.out.1,P2.out.2.1,P2.out.2.2,hs2.out,HB.out⟩
    case measure=>exact ME.out.2
theorem len_any (x:Int) (h0:0≤x) (h1:x≤18446744073709551615) (w:World):Calls Tryz.prog 225 #[.int .u64 x] w (JD (amQ x.toNat:Int) w):=
 Calls.mono (Any.bits_Len64 {Tryz.lays134 with} x w h0 h1) fun _ _ h=>⟨h.1,h.2.symm⟩
def uOfR:Value→Int
 | .int _ x=>x
 | _=>0
def RS (n r b:Nat):Prop:=(b=0∧r=isq n)∨(b=4294967296∧r=0)∨∃k,k≤31∧b=2^k∧2^(k+1)∣r∧r*r≤n∧n<(r+2^(k+1))*(r+2^(k+1))
theorem or_two {r k:Nat} (hk:k≤31) (hr:r<4294967296) (hd:2^(k+1)∣r):bits BinOp.or IntKind.u64 (r:Int) ((2^k:Nat):Int)=((r+2^k:Nat):Int):=by
 obtain ⟨q,rfl⟩:=hd;have h1:2^k<2^(k+1):=by rw [akJ];have:=apX k;omega
 have h2:2^k≤2^31:=akX (by omega) hk;have e:=Nat.two_pow_add_eq_or_of_lt h1 q;unfold bits;simp only [BitVec.ofInt_natCast];have t:(BitVec.ofNat IntKind.u64.bits (2^(k+1)*q)||| BitVec.ofNat IntKind.u64.bits (2^k)).toNat=2^(k+1)*q+2^k:=by
  rw [BitVec.toNat_or,BitVec.toNat_ofNat,BitVec.toNat_ofNat,e];have m1:2^(k+1)*q%2^IntKind.u64.bits=2^(k+1)*q:=ajX (by show _<18446744073709551616;omega);have m2:2^k%2^IntKind.u64.bits=2^k:=ajX (by show _<18446744073709551616;omega);rw [m1,m2]
 rw [t];generalize 2^(k+1)*q=a at*;generalize 2^k=c at*;exact IntWalk.u64_in _ (by omega)
theorem rs_step {n r b:Nat} (hn:n<18446744073709551616) (h:RS n r b) (hb:0<b) (hb2:b≠4294967296):
  r+b<4294967296∧b≤2147483648∧bits BinOp.or IntKind.u64 (r:Int) (b:Int)=((r+b:Nat):Int)∧((r+b)*(r+b)≤n→RS n (r+b) (b/2))∧(¬(r+b)*(r+b)≤n→RS n r (b/2)):=by
 rcases h with ⟨h,_⟩ | ⟨h,_⟩ | ⟨k,hk,rfl,hd,h1,h2⟩
 ·omega
 ·omega
 have hr:r<4294967296:=by
  rcases abZ r 4294967296 with h | h
  ·exact h
  ·have:=agQ h h;omega
 have hp:2^k≤2^31:=akX (by omega) hk;have hi:=SI hn;have hx:r+2^k<4294967296:=by
  obtain ⟨q,hq⟩:=hd;have e:2^(k+1)*2^(31-k)=4294967296:=by
   rw [←arJ,show k+1+(31-k)=32 by omega]
  have:q<2^(31-k):=by
   rcases abZ q (2^(31-k)) with z | z
   ·exact z
   ·have:=ahZ (2^(k+1)) z;omega
  have g:=ahZ (2^(k+1)) (show q+1≤2^(31-k) from this);rw [Nat.mul_add,←hq,e] at g;have:2^(k+1)=2^k*2:=akJ 2 k;have:=apX k;omega
 refine ⟨hx,hp,or_two hk hr hd,fun hx=>?_,fun hx=>?_⟩
 ·cases k with
  | zero=>exact .inl ⟨rfl,xT hx (by have:=h2;simpa using this) hi.1 hi.2⟩
  | succ k=>
   refine .inr (.inr ⟨k,by omega,by rw [akJ];omega,Nat.dvd_add (Nat.dvd_trans ⟨2,by rw [akJ]⟩ hd) ⟨1,by omega⟩,hx,?_⟩);have:r+2^(k+1)+2^(k+1)=r+2^(k+1+1):=by rw [akJ 2 (k+1)];omega
   rw [this];exact h2
 ·cases k with
  | zero=>exact .inl ⟨rfl,xT h1 (by have:=hx;simp at this;simpa using this) hi.1 hi.2⟩
  | succ k=>
   refine .inr (.inr ⟨k,by omega,by rw [akJ];omega,Nat.dvd_trans ⟨2,by rw [akJ]⟩ hd,h1,by omega⟩)
theorem rs_top {n:Nat} (hn:n<18446744073709551616) {r:Nat} (h:RS n r 4294967296):r=0∧RS n 0 2147483648:=by
 rcases h with ⟨h,_⟩ | ⟨_,h⟩ | ⟨k,hk,h,_⟩
 ·omega
 ·exact ⟨h,.inr (.inr ⟨31,by omega,by decide,⟨0,rfl⟩,by omega,by omega⟩)⟩
 ·have:2^k≤2^31:=akX (by omega) hk;omega
theorem rs_start {n:Nat} (hn:n<18446744073709551616):amQ n≤64∧RS n 0 (2^(amQ n/2)):=by
 have hl:amQ n≤64:=Lib.bitLen_le n 64 (by omega) hn;refine ⟨hl,?_⟩;by_cases h64:amQ n=64
 ·rw [h64];exact .inr (.inl ⟨by decide,rfl⟩)
 refine .inr (.inr ⟨amQ n/2,by omega,rfl,⟨0,rfl⟩,by omega,?_⟩);have hb:n<2^amQ n:=by
  by_cases z:n=0
  ·subst z;exact apX _
  ·exact (Lib.bitLenAux_bounds 64 n (by omega) z).2.2
 rw [Nat.zero_add,←arJ];exact Nat.lt_of_lt_of_le hb (akX (by omega) (by omega))
theorem root_any (n:Nat) (hn:n<18446744073709551616) (w:World):Calls Tryz.prog 197 #[.int .u64 (n:Int)] w (RPost w (.int .u64 (isq n:Int))):=by
 have HL:=aaQ (show ∀W,Calls Tryz.prog 225 #[.int .u64 (n:Int)] W (JD (amQ n:Int) W) from fun W=>by
  have:=len_any (n:Int) (by omega) (by omega) W;rwa [Int.toNat_natCast] at this)
 obtain ⟨hl,hs⟩:=rs_start hn;have HS:=aaQ hs;have hB0:u64.wrap (2^((amQ n:Int)/2).toNat)=((2^(amQ n/2):Nat):Int):=by
  have e:((amQ n:Int)/2).toNat=amQ n/2:=by omega
  have h2:2^(amQ n/2)≤2^32:=akX (by omega) (by omega);have c:(2:Int)^(amQ n/2)=((2^(amQ n/2):Nat):Int):=by rw [Int.natCast_pow];rfl
  rw [e,c];generalize 2^(amQ n/2)=z at*;exact IntWalk.u64_in _ (by omega)
 have HB:=aaQ (acQ w.heap.size w);have HST:=aaQ (fun (r b:Nat) (h:RS n r b) (hb:0<b) (hb2:b≠4294967296)=>rs_step hn h hb hb2);have HTOP:=aaQ (fun (r:Nat) (h:RS n r 4294967296)=>rs_top hn h);have HEN:=aaQ (fun (r:Nat) (h:RS n r 0)=>show r=isq n from by
  rcases h with ⟨_,h⟩ | ⟨h,_⟩ | ⟨k,_,h,_⟩
  ·exact h
  ·omega
  ·have:=apX k;omega)
 have hl':0≤(amQ n:Int)∧(amQ n:Int)≤64:=by omega
 clear hl hs;generalize 2^(amQ n/2)=b0 at*;generalize (amQ n:Int)=l at*;have ht:l.tdiv 2=l/2:=aiZ hl'.1;obtain ⟨N,hN⟩:∃N:Int,N=(n:Int):=⟨_,rfl⟩;have n0:0≤N:=by omega
 have n1:N<18446744073709551616:=by omega
 rw [←hN] at HL ⊢;replace hN:=aaQ hN;clear hn;go_enter Tryz.func197,Tryz.ntmps197;go_wp2_with fail
 refine (HL.out _).mono ?_;rintro e w1 ⟨rfl,rfl⟩;clear HL;go_wp2;go_loopw [3,4] (fun r b wr=>∃r' b':Nat,r=.int .u64 (r':Int)∧b=.int .u64 (b':Int)∧RS n r' b'∧Below w.heap.size w wr) (fun r b _=>(uOfR b).toNat)
 case atStart=>exact ⟨0,b0,rfl,rfl,HS.out,HB.out⟩
 case round=>
  clear HS HB hB0;obtain ⟨r,b,rfl,rfl,hs,hb⟩:=hrel;have HB:=aaQ hb;clear hb;rcases Nat.eq_zero_or_pos b with hb | hb
  ·subst hb;have HF:=aaQ (show RPost w (.int .u64 (isq n:Int)) (.returned (.int .u64 (r:Int))) wr from ⟨by rw [HEN.out r hs],HB.out⟩);have z:¬(((0:Nat):Int)>0):=by omega
   clear hs;go_wp2;go_ret;exact HF.out
  by_cases hb2:b=4294967296
  ·subst hb2;obtain ⟨r0,t0⟩:=HTOP.out r hs;subst r0;have H0:=aaQ t0;clear hs t0 hb;have hor:bits BinOp.or IntKind.u64 ((0:Nat):Int) ((4294967296:Nat):Int)=4294967296:=by decide+kernel
   have hw:u64.wrap ((4294967296:Int)*4294967296)=0:=by decide+kernel
   have hdv:(4294967296:Int).fdiv 2=2147483648:=by decide+kernel
   have ME:=aaQ (show (uOfR (.int .u64 2147483648)).toNat<(uOfR (.int .u64 ((4294967296:Nat):Int))).toNat by decide+kernel);rw [show ((0:Nat):Int)=0 from rfl,show ((4294967296:Nat):Int)=4294967296 from rfl] at hor;rw [show ((4294967296:Nat):Int)=4294967296 from rfl] at ME;rw [show ((0:Nat):Int)=0 from rfl,show ((4294967296:Nat):Int)=4294967296 from rfl];go_wp2;go_roundw
   case rel=>exact ⟨0,2147483648,rfl,rfl,H0.out,HB.out⟩
   case measure=>exact ME.out
  ·obtain ⟨s1,s2,s3,s4,s5⟩:=HST.out r b hs hb hb2;have hcm:=aaQ (show ((r+b:Nat):Int)*((r+b:Nat):Int)≤N↔(r+b)*(r+b)≤n by rw [hN.out,←aiQ];exact Int.ofNat_le);have hq:=aaQ (show ((b/2:Nat):Int)=(b:Int)/2 by omega);have hw:u64.wrap (((r+b:Nat):Int)*((r+b:Nat):Int))=((r+b:Nat):Int)*((r+b:Nat):Int):=by
    have:=agQ (show r+b≤4294967295 by omega) (show r+b≤4294967295 by omega);rw [←aiQ];generalize (r+b)*(r+b)=p at*;exact IntWalk.u64_in _ (by omega)
   have hs4:=aaQ s4;have hs5:=aaQ s5;clear s4 s5 hs;obtain ⟨X,hX⟩:∃X:Int,X=((r+b:Nat):Int):=⟨_,rfl⟩;obtain ⟨R,hR⟩:∃R:Int,R=(r:Int):=⟨_,rfl⟩;obtain ⟨B,hB⟩:∃B:Int,B=(b:Int):=⟨_,rfl⟩;have i1:0≤X:=by omega
   have i2:X<4294967296:=by omega
   have i3:0<B:=by omega
   have i4:B≤2147483648:=by omega
   rw [←hX,←hR,←hB] at s3;rw [←hX] at hw hcm;rw [←hB] at hq;rw [←hR,←hB];replace hX:=aaQ hX;replace hR:=aaQ hR;replace hB:=aaQ hB;clear s1 s2 hb;have hfd:B.fdiv 2=B/2:=Int.fdiv_eq_ediv_of_nonneg _ (by omega);have ME:=aaQ (show (uOfR (.int .u64 (B/2))).toNat<(uOfR (.int .u64 B)).toNat by simp only [uOfR];omega);by_cases hc:X*X≤N
   ·have h4:=aaQ (hs4.out (hcm.out.1 hc));clear hs4 hs5 hcm;go_wp2;go_roundw
    case rel=>exact ⟨r+b,b/2,by rw [hX.out],by rw [hq.out],h4.out,HB.out⟩
    case measure=>exact ME.out
   ·have h5:=aaQ (hs5.out (fun q=>hc (hcm.out.2 q)));clear hs4 hs5 hcm;go_wp2;go_roundw
    case rel=>exact ⟨r,b/2,by rw [hR.out],by rw [hq.out],h5.out,HB.out⟩
    case measure=>exact ME.out
end
section
open Ev
def qS (a b _e:Int):Int×Int:=(a,b)
def tV (k _a _b e:Int):Int:=bJ k e
noncomputable def kFm0:aZ:=(28,nX (fun a b c d=>aL (dF a b c d)))::(48,eT (fun a b c d e f=>.bool (cS a b c d e f)))::(90,nX (fun a b c d=>aL (aQ a b c d)))::(127,nX (fun a b c d=>aL (bT a b c d)))::(132,nX (fun a b c d=>aL (fS a b c d)))::(135,eP (fun a b=>aL (aN a b)))::(137,eP (fun a b=>aL (aV a b)))::(138,eP (fun a b=>aL (mK a b)))::(139,eP (fun a b=>aL (aW a b)))::(192,nX (fun a b c d=>aL (mQ a b c d)))::[]
theorem kFm0_ok:aJ Tryz.prog kFm0:=(aA (cH sC) (aA (gS kI) (aA (cH (fun a b c d W _=>AW a b c d W)) (aA (cH pJ) (aA (cH sB) (aA (cF (fun a b W _=>WK a b W)) (aA (cF (fun a b W _=>RG a b W)) (aA (cF zU) (aA (cF (fun a b W _=>sin_r a b W)) (aA (cH AM) cO))))))))))
theorem aAX (k a b c:Int):gW Tryz.prog 150 103 k [.agg ⟨[.int .i64 a,.int .i64 b]⟩,.int .i64 c] (aD (qS a b c).1 (qS a b c).2) (tV k a b c):=by
 refine bR bN kFm0_ok (t:=cond (k==0) (some (.v (.agg ⟨[.int .i64 a,.int .i64 b]⟩),⟨[.v (.int .i64 c)],103⟩)) (some (.v (.agg ⟨[.int .i64 a,.int .i64 b]⟩),⟨[.v (.int .i64 k)],103⟩))) (by kernel_rfl) ?_;unfold tV bJ;by_cases h:k=0
 ·simp [h];rfl
 ·have e:(k==0)=false:=beq_eq_false_iff_ne.2 h;rw [e];simp [h];rfl
noncomputable def GD (a b:Int):Int×Int:=((aW a b).1,(aW a b).2.1)
noncomputable def QU (k a b:Int):Int:=bJ k (aW a b).2.2
noncomputable def kFm1:aZ:=(150,cPI 103 (fun a b c=>aD (qS a b c).1 (qS a b c).2) tV)::kFm0
theorem kFm1_ok:aJ Tryz.prog kFm1:=(aA (sH aAX) kFm0_ok)
theorem xsinV_mods (k a b:Int):gW Tryz.prog 145 103 k [.agg ⟨[.int .i64 a,.int .i64 b]⟩] (aD (GD a b).1 (GD a b).2) (QU k a b):=by
 refine bR bN kFm1_ok (t:=lt (aW a b) fun x1=>lt (qS x1.1 x1.2.1 x1.2.2) fun x3=>lt (tV k x1.1 x1.2.1 x1.2.2) fun x2=>some (.v (.agg ⟨[.int .i64 x3.1,.int .i64 x3.2]⟩),⟨[.v (.int .i64 x2)],103⟩)) (by kernel_rfl) ?_;rfl
noncomputable def GC (a b:Int):Int×Int:=((aN a b).1,(aN a b).2.1)
noncomputable def QS (k a b:Int):Int:=bJ k (aN a b).2.2
noncomputable def kFm2:aZ:=(145,cP 103 (fun a b=>aD (GD a b).1 (GD a b).2) QU)::kFm1
theorem kFm2_ok:aJ Tryz.prog kFm2:=(aA (uA xsinV_mods) kFm1_ok)
theorem xcosV_mods (k a b:Int):gW Tryz.prog 146 103 k [.agg ⟨[.int .i64 a,.int .i64 b]⟩] (aD (GC a b).1 (GC a b).2) (QS k a b):=by
 refine bR bN kFm2_ok (t:=lt (aN a b) fun x1=>lt (qS x1.1 x1.2.1 x1.2.2) fun x3=>lt (tV k x1.1 x1.2.1 x1.2.2) fun x2=>some (.v (.agg ⟨[.int .i64 x3.1,.int .i64 x3.2]⟩),⟨[.v (.int .i64 x2)],103⟩)) (by kernel_rfl) ?_;rfl
noncomputable def wY (a b c d:Int):Int×Int:=((bT a b c d).1,(bT a b c d).2.1)
noncomputable def CO (k a b c d:Int):Int:=bJ k (bT a b c d).2.2
noncomputable def kFm3:aZ:=(146,cP 103 (fun a b=>aD (GC a b).1 (GC a b).2) QS)::kFm2
theorem kFm3_ok:aJ Tryz.prog kFm3:=(aA (uA xcosV_mods) kFm2_ok)
theorem xmulV_mods (k a b c d:Int):gW Tryz.prog 148 103 k [.agg ⟨[.int .i64 a,.int .i64 b]⟩,.agg ⟨[.int .i64 c,.int .i64 d]⟩] (aD (wY a b c d).1 (wY a b c d).2) (CO k a b c d):=by
 refine bR bN kFm3_ok (t:=lt (bT a b c d) fun x1=>lt (qS x1.1 x1.2.1 x1.2.2) fun x3=>lt (tV k x1.1 x1.2.1 x1.2.2) fun x2=>some (.v (.agg ⟨[.int .i64 x3.1,.int .i64 x3.2]⟩),⟨[.v (.int .i64 x2)],103⟩)) (by kernel_rfl) ?_;rfl
noncomputable def QR (a b c d:Int):Int×Int:=((fS a b c d).1,(fS a b c d).2.1)
noncomputable def xaddC (k a b c d:Int):Int:=bJ k (fS a b c d).2.2
noncomputable def kFm4:aZ:=(148,VZ 103 (fun a b c d=>aD (wY a b c d).1 (wY a b c d).2) CO)::kFm3
theorem kFm4_ok:aJ Tryz.prog kFm4:=(aA (lV xmulV_mods) kFm3_ok)
theorem xaddV_mods (k a b c d:Int):gW Tryz.prog 147 103 k [.agg ⟨[.int .i64 a,.int .i64 b]⟩,.agg ⟨[.int .i64 c,.int .i64 d]⟩] (aD (QR a b c d).1 (QR a b c d).2) (xaddC k a b c d):=by
 refine bR bN kFm4_ok (t:=lt (fS a b c d) fun x1=>lt (qS x1.1 x1.2.1 x1.2.2) fun x3=>lt (tV k x1.1 x1.2.1 x1.2.2) fun x2=>some (.v (.agg ⟨[.int .i64 x3.1,.int .i64 x3.2]⟩),⟨[.v (.int .i64 x2)],103⟩)) (by kernel_rfl) ?_;rfl
noncomputable def QV (a b c d:Int):Int×Int:=((mQ a b c d).1,(mQ a b c d).2.1)
noncomputable def xsubC (k a b c d:Int):Int:=bJ k (mQ a b c d).2.2
noncomputable def kFm5:aZ:=(147,VZ 103 (fun a b c d=>aD (QR a b c d).1 (QR a b c d).2) xaddC)::kFm4
theorem kFm5_ok:aJ Tryz.prog kFm5:=(aA (lV xaddV_mods) kFm4_ok)
theorem xsubV_mods (k a b c d:Int):gW Tryz.prog 149 103 k [.agg ⟨[.int .i64 a,.int .i64 b]⟩,.agg ⟨[.int .i64 c,.int .i64 d]⟩] (aD (QV a b c d).1 (QV a b c d).2) (xsubC k a b c d):=by
 refine bR bN kFm5_ok (t:=lt (mQ a b c d) fun x1=>lt (qS x1.1 x1.2.1 x1.2.2) fun x3=>lt (tV k x1.1 x1.2.1 x1.2.2) fun x2=>some (.v (.agg ⟨[.int .i64 x3.1,.int .i64 x3.2]⟩),⟨[.v (.int .i64 x2)],103⟩)) (by kernel_rfl) ?_;rfl
noncomputable def QT (a b:Int):Int×Int:=((mK a b).1,(mK a b).2.1)
noncomputable def xnegC (k a b:Int):Int:=bJ k (mK a b).2.2
noncomputable def kFm6:aZ:=(149,VZ 103 (fun a b c d=>aD (QV a b c d).1 (QV a b c d).2) xsubC)::kFm5
theorem kFm6_ok:aJ Tryz.prog kFm6:=(aA (lV xsubV_mods) kFm5_ok)
theorem xnegV_mods (k a b:Int):gW Tryz.prog 88 103 k [.agg ⟨[.int .i64 a,.int .i64 b]⟩] (aD (QT a b).1 (QT a b).2) (xnegC k a b):=by
 refine bR bN kFm6_ok (t:=lt (mK a b) fun x1=>lt (qS x1.1 x1.2.1 x1.2.2) fun x3=>lt (tV k x1.1 x1.2.1 x1.2.2) fun x2=>some (.v (.agg ⟨[.int .i64 x3.1,.int .i64 x3.2]⟩),⟨[.v (.int .i64 x2)],103⟩)) (by kernel_rfl) ?_;rfl
def aAQ (x:Int):Value:=.int .u64 x
def eUif (p:Int→Bool) (F:Int→Value):CP
 | [.v (.int .u64 a)],[]=>some (p a,.v (F a),[])
 | _,_=>none
theorem eUif_ok {P:Program} {g:FuncId} {p:Int→Bool} {F:Int→Value} (h:∀a,p a=true→aH P g [.int .u64 a] (F a)) (args:List AV) (L:Ev.dP) (z:Bool) (r:AV) (L':Ev.dP) (q:eUif p F args L=some (z,r,L')) (hz:z=true):jN P g args L r L':=by
 unfold eUif at q;split at q
 ·cases q;exact cZ (h _ hz)
 ·cases q
def bO (n:Int):Int:=(isq n.toNat:Int)
def MD (n:Int):Bool:=decide (0≤n∧n<18446744073709551616)
theorem MF (x:Int):MD (u64.wrap x)=true:=decide_eq_true ⟨by unfold IntKind.wrap;simp [IntKind.signed,IntKind.bits];omega,by unfold IntKind.wrap;simp [IntKind.signed,IntKind.bits];omega⟩
theorem root_gives (n:Int) (h:MD n=true):aH Tryz.prog 197 [.int .u64 n] (aAQ (bO n)):=pD fun w=>by
 obtain ⟨h1,h2⟩:=of_decide_eq_true h;have:=root_any n.toNat (by omega) w;rwa [Int.toNat_of_nonneg h1] at this
noncomputable def jA (a b:Int):Int:=cond (decide (a≤0)) (cond (decide (b≥0)) (0) (u64.wrap ((mn (mx a (i64.wrap (0-a))) (mx b (i64.wrap (0-b))))))) (u64.wrap ((mn (mx a (i64.wrap (0-a))) (mx b (i64.wrap (0-b))))))
noncomputable def kFm7:aZ:=(88,cP 103 (fun a b=>aD (QT a b).1 (QT a b).2) xnegC)::kFm6
theorem kFm7_ok:aJ Tryz.prog kFm7:=(aA (uA xnegV_mods) kFm6_ok)
theorem ZJ (a b:Int):aH Tryz.prog 198 [.agg ⟨[.int .i64 a,.int .i64 b]⟩] (aAQ (jA a b)):=by
 refine aE bN kFm7_ok (t:=cond (decide (a≤0)) (cond (decide (b≥0)) (some (.v (.int .u64 0))) (some (.v (.int .u64 (u64.wrap ((mn (mx a (i64.wrap (0-a))) (mx b (i64.wrap (0-b)))))))))) (some (.v (.int .u64 (u64.wrap ((mn (mx a (i64.wrap (0-a))) (mx b (i64.wrap (0-b)))))))))) (by kernel_rfl) ?_;unfold jA;repeat' first | (with_reducible refine aT (fun r:Int=>AV.v (aAQ (r))) ?_ ?_) | (with_reducible refine cG (fun r:Int=>AV.v (aAQ (r))) fun _=>?_) | rfl
noncomputable def jQ (a b:Int):Int:=u64.wrap ((mx (mx (mx a (i64.wrap (0-a))) b) (i64.wrap (0-b))))
noncomputable def kFm8:aZ:=(198,eP (fun a b=>aAQ (jA a b)))::kFm7
theorem kFm8_ok:aJ Tryz.prog kFm8:=(aA (cF ZJ) kFm7_ok)
theorem farM_gives (a b:Int):aH Tryz.prog 199 [.agg ⟨[.int .i64 a,.int .i64 b]⟩] (aAQ (jQ a b)):=aE bN kFm8_ok (by kernel_rfl) rfl
noncomputable def sumN (a b c d:Int):Int:=(u64.wrap ((u64.wrap ((jA a b)*(jA a b)))+(u64.wrap ((jA c d)*(jA c d)))))
noncomputable def GO (a b c d:Int):Int:=(u64.wrap ((u64.wrap ((jQ a b)*(jQ a b)))+(u64.wrap ((jQ c d)*(jQ c d)))))
noncomputable def iV (a b c d:Int):Int×Int:=(i64.wrap (mn (bO (sumN a b c d)) 1073741824),i64.wrap (mn (cond (decide (u64.wrap (bO (GO a b c d)*bO (GO a b c d))<GO a b c d)) (u64.wrap (bO (GO a b c d)+1)) (bO (GO a b c d))) 1073741824))
noncomputable def kFm9:aZ:=(197,eUif MD (fun a=>aAQ (bO a)))::(199,eP (fun a b=>aAQ (jQ a b)))::kFm8
theorem kFm9_ok:aJ Tryz.prog kFm9:=(aA (eUif_ok root_gives) (aA (cF farM_gives) kFm8_ok))
theorem hypM_gives (a b c d:Int):aH Tryz.prog 151 [.agg ⟨[.int .i64 a,.int .i64 b]⟩,.agg ⟨[.int .i64 c,.int .i64 d]⟩] (aD (iV a b c d).1 (iV a b c d).2):=by
 refine aE bN kFm9_ok (t:=cond (MD (u64.wrap ((u64.wrap ((jA a b)*(jA a b)))+(u64.wrap ((jA c d)*(jA c d)))))) (cond (MD (u64.wrap ((u64.wrap ((jQ a b)*(jQ a b)))+(u64.wrap ((jQ c d)*(jQ c d)))))) (cond (decide (u64.wrap ((bO (u64.wrap ((u64.wrap ((jQ a b)*(jQ a b)))+(u64.wrap ((jQ c d)*(jQ c d))))))*(bO (u64.wrap ((u64.wrap ((jQ a b)*(jQ a b)))+(u64.wrap ((jQ c d)*(jQ c d)))))))<u64.wrap ((u64.wrap ((jQ a b)*(jQ a b)))+(u64.wrap ((jQ c d)*(jQ c d)))))) (some (.v (.agg ⟨[.int .i64 (i64.wrap ((mn (bO (u64.wrap ((u64.wrap ((jA a b)*(jA a b)))+(u64.wrap ((jA c d)*(jA c d)))))) 1073741824))),.int .i64 (i64.wrap ((mn (u64.wrap ((bO (u64.wrap ((u64.wrap ((jQ a b)*(jQ a b)))+(u64.wrap ((jQ c d)*(jQ c d))))))+1)) 1073741824)))]⟩))) (some (.v (.agg ⟨[.int .i64 (i64.wrap ((mn (bO (u64.wrap ((u64.wrap ((jA a b)*(jA a b)))+(u64.wrap ((jA c d)*(jA c d)))))) 1073741824))),.int .i64 (i64.wrap ((mn (bO (u64.wrap ((u64.wrap ((jQ a b)*(jQ a b)))+(u64.wrap ((jQ c d)*(jQ c d)))))) 1073741824)))]⟩)))) (none)) (none)) (by kernel_rfl) ?_;have e1:(u64.wrap ((u64.wrap ((jA a b)*(jA a b)))+(u64.wrap ((jA c d)*(jA c d)))))=sumN a b c d:=rfl;have e2:(u64.wrap ((u64.wrap ((jQ a b)*(jQ a b)))+(u64.wrap ((jQ c d)*(jQ c d)))))=GO a b c d:=rfl;have q1:MD (sumN a b c d)=true:=MF _;have q2:MD (GO a b c d)=true:=MF _;rw [e1,e2,q1,q2];simp only [cond_true];unfold iV;cases decide (u64.wrap (bO (GO a b c d)*bO (GO a b c d))<GO a b c d)<;>rfl
noncomputable def VE {α:Type} (K:Int→Int→Int→α) (a b c d e f:Int):α:=lt (aV a b) fun x1=>cond (x1.2.2 != 0) (K 0 0 x1.2.2) (lt (iV c d e f) fun x2=>cond (x2.1==0) (cond (decide (a≤0)) (cond (decide (b≥0)) (K x1.1 x1.2.1 0) (lt (aQ a b x2.1 x2.2) fun x3=>cond (x3.2.2 != 0) (K 0 0 x3.2.2) (cond (decide (x3.1≥10800000)) (lt (dF (i64.wrap (x3.1-21600000)) (i64.wrap (x3.2.1-21600000)) x1.1 x1.2.1) fun x4=>K x4.1 x4.2.1 x4.2.2) (lt (dF x3.1 x3.2.1 x1.1 x1.2.1) fun x5=>K x5.1 x5.2.1 x5.2.2)))) (lt (aQ a b x2.1 x2.2) fun x6=>cond (x6.2.2 != 0) (K 0 0 x6.2.2) (cond (decide (x6.1≥10800000)) (lt (dF (i64.wrap (x6.1-21600000)) (i64.wrap (x6.2.1-21600000)) x1.1 x1.2.1) fun x7=>K x7.1 x7.2.1 x7.2.2) (lt (dF x6.1 x6.2.1 x1.1 x1.2.1) fun x8=>K x8.1 x8.2.1 x8.2.2)))) (lt (aQ a b x2.1 x2.2) fun x9=>cond (x9.2.2 != 0) (K 0 0 x9.2.2) (cond (decide (x9.1≥10800000)) (lt (dF (i64.wrap (x9.1-21600000)) (i64.wrap (x9.2.1-21600000)) x1.1 x1.2.1) fun x10=>K x10.1 x10.2.1 x10.2.2) (lt (dF x9.1 x9.2.1 x1.1 x1.2.1) fun x11=>K x11.1 x11.2.1 x11.2.2))))
noncomputable def VD (a b c d e f:Int):Int×Int×Int:=VE (fun p0 p1 p2=>(p0,p1,p2)) a b c d e f
noncomputable def kFm10:aZ:=(151,nX (fun a b c d=>aD (iV a b c d).1 (iV a b c d).2))::kFm9
theorem XW:aJ Tryz.prog kFm10:=(aA (cH hypM_gives) kFm9_ok)
theorem altM_gives (a b c d e f:Int):aH Tryz.prog 89 [.agg ⟨[.int .i64 a,.int .i64 b,.int .i64 c,.int .i64 d,.int .i64 e,.int .i64 f]⟩] (aL (VD a b c d e f)):=by
 refine aE bN XW (t:=VE (fun p0 p1 p2=>some (.v (aL ((p0,p1,p2))))) a b c d e f) (by kernel_rfl) ?_;unfold VD VE;repeat' first | (with_reducible refine aT (fun r:Int×Int×Int=>AV.v (aL (r))) ?_ ?_) | (with_reducible refine cG (fun r:Int×Int×Int=>AV.v (aL (r))) fun _=>?_) | rfl
noncomputable def DT {α:Type} (K:Int→Int→Int→Int→Int→α) (a b c d e f:Int):α:=cond (!(cS a b c d e f)) (K 0 0 0 0 1) (lt (GC c d) fun x2=>lt (QS 0 c d) fun x1=>lt (GC e f) fun x4=>lt (QS x1 e f) fun x3=>lt (wY x2.1 x2.2 x4.1 x4.2) fun x6=>lt (CO x3 x2.1 x2.2 x4.1 x4.2) fun x5=>lt (GD e f) fun x8=>lt (QU x5 e f) fun x7=>lt (wY x2.1 x2.2 x8.1 x8.2) fun x10=>lt (CO x7 x2.1 x2.2 x8.1 x8.2) fun x9=>lt (GD c d) fun x12=>lt (QU x9 c d) fun x11=>lt (GD a b) fun x14=>lt (QU x11 a b) fun x13=>lt (GC a b) fun x16=>lt (QS x13 a b) fun x15=>lt (wY x6.1 x6.2 x16.1 x16.2) fun x18=>lt (CO x15 x6.1 x6.2 x16.1 x16.2) fun x17=>lt (wY x12.1 x12.2 x14.1 x14.2) fun x20=>lt (CO x17 x12.1 x12.2 x14.1 x14.2) fun x19=>lt (QR x18.1 x18.2 x20.1 x20.2) fun x22=>lt (xaddC x19 x18.1 x18.2 x20.1 x20.2) fun x21=>lt (wY x12.1 x12.2 x16.1 x16.2) fun x24=>lt (CO x21 x12.1 x12.2 x16.1 x16.2) fun x23=>lt (wY x6.1 x6.2 x14.1 x14.2) fun x26=>lt (CO x23 x6.1 x6.2 x14.1 x14.2) fun x25=>lt (QV x24.1 x24.2 x26.1 x26.2) fun x28=>lt (xsubC x25 x24.1 x24.2 x26.1 x26.2) fun x27=>lt (QT x10.1 x10.2) fun x30=>lt (xnegC x27 x10.1 x10.2) fun x29=>cond (x29 != 0) (K 0 0 0 0 x29) (lt (VD x22.1 x22.2 x28.1 x28.2 x10.1 x10.2) fun x31=>cond (x31.2.2 != 0) (K 0 0 0 0 x31.2.2) (lt (aQ x30.1 x30.2 x28.1 x28.2) fun x32=>cond (x32.2.2 != 0) (K 0 0 0 0 x32.2.2) (K x31.1 x31.2.1 x32.1 x32.2.1 0))))
noncomputable def qD (a b c d e f:Int):Int×Int×Int×Int×Int:=DT (fun p0 p1 p2 p3 p4=>(p0,p1,p2,p3,p4)) a b c d e f
noncomputable def kFm11:aZ:=(89,eT (fun a b c d e f=>aL (VD a b c d e f)))::kFm10
theorem kFm11_ok:aJ Tryz.prog kFm11:=(aA (gS altM_gives) XW)
theorem ZG (a b c d e f:Int):aH Tryz.prog 41 [.agg ⟨[.int .i64 a,.int .i64 b,.int .i64 c,.int .i64 d,.int .i64 e,.int .i64 f]⟩] (dV (qD a b c d e f)):=by
 refine aE bN kFm11_ok (t:=DT (fun p0 p1 p2 p3 p4=>some (.v (dV ((p0,p1,p2,p3,p4))))) a b c d e f) (by kernel_rfl) ?_;unfold qD DT;repeat' first | (with_reducible refine aT (fun r:Int×Int×Int×Int×Int=>AV.v (dV (r))) ?_ ?_) | (with_reducible refine cG (fun r:Int×Int×Int×Int×Int=>AV.v (dV (r))) fun _=>?_) | rfl
end
section
open Ev
def ZN (a b _e:Int):Int×Int:=(a,b)
def numC (k _a _b e:Int):Int:=bJ k e
noncomputable def kFa0:aZ:=(48,eT (fun a b c d e f=>.bool (cS a b c d e f)))::(61,nX (fun a b c d=>aL (jW a b c d)))::(90,nX (fun a b c d=>aL (aQ a b c d)))::(127,nX (fun a b c d=>aL (bT a b c d)))::(135,eP (fun a b=>aL (aN a b)))::(137,eP (fun a b=>aL (aV a b)))::(138,eP (fun a b=>aL (mK a b)))::(139,eP (fun a b=>aL (aW a b)))::[]
theorem kFa0_ok:aJ Tryz.prog kFa0:=(aA (gS kI) (aA (cH pX) (aA (cH (fun a b c d W _=>AW a b c d W)) (aA (cH pJ) (aA (cF (fun a b W _=>WK a b W)) (aA (cF (fun a b W _=>RG a b W)) (aA (cF zU) (aA (cF (fun a b W _=>sin_r a b W)) cO))))))))
theorem numV_mods (k a b c:Int):gW Tryz.prog 136 84 k [.agg ⟨[.int .i64 a,.int .i64 b]⟩,.int .i64 c] (aD (ZN a b c).1 (ZN a b c).2) (numC k a b c):=by
 refine bR bN kFa0_ok (t:=cond (k==0) (some (.v (.agg ⟨[.int .i64 a,.int .i64 b]⟩),⟨[.v (.int .i64 c)],84⟩)) (some (.v (.agg ⟨[.int .i64 a,.int .i64 b]⟩),⟨[.v (.int .i64 k)],84⟩))) (by kernel_rfl) ?_;unfold numC bJ;by_cases h:k=0
 ·simp [h];rfl
 ·have e:(k==0)=false:=beq_eq_false_iff_ne.2 h;rw [e];simp [h];rfl
def VH (a b _e:Int):Int×Int:=(a,b)
def arcC (k _a _b e:Int):Int:=bJ k e
noncomputable def kFa1:aZ:=(136,cPI 84 (fun a b c=>aD (ZN a b c).1 (ZN a b c).2) numC)::kFa0
theorem kFa1_ok:aJ Tryz.prog kFa1:=(aA (sH numV_mods) kFa0_ok)
theorem arcW_mods (k a b c:Int):gW Tryz.prog 67 84 k [.agg ⟨[.int .i64 a,.int .i64 b]⟩,.int .i64 c] (aD (VH a b c).1 (VH a b c).2) (arcC k a b c):=by
 refine bR bN kFa1_ok (t:=cond (k==0) (some (.v (.agg ⟨[.int .i64 a,.int .i64 b]⟩),⟨[.v (.int .i64 c)],84⟩)) (some (.v (.agg ⟨[.int .i64 a,.int .i64 b]⟩),⟨[.v (.int .i64 k)],84⟩))) (by kernel_rfl) ?_;unfold arcC bJ;by_cases h:k=0
 ·simp [h];rfl
 ·have e:(k==0)=false:=beq_eq_false_iff_ne.2 h;rw [e];simp [h];rfl
noncomputable def nK (a b:Int):Int×Int:=((aW a b).1,(aW a b).2.1)
noncomputable def uD (k a b:Int):Int:=bJ k (aW a b).2.2
noncomputable def kFa2:aZ:=(67,cPI 84 (fun a b c=>aD (VH a b c).1 (VH a b c).2) arcC)::kFa1
theorem kFa2_ok:aJ Tryz.prog kFa2:=(aA (sH arcW_mods) kFa1_ok)
theorem gsinV_mods (k a b:Int):gW Tryz.prog 73 84 k [.agg ⟨[.int .i64 a,.int .i64 b]⟩] (aD (nK a b).1 (nK a b).2) (uD k a b):=by
 refine bR bN kFa2_ok (t:=lt (aW a b) fun x1=>lt (ZN x1.1 x1.2.1 x1.2.2) fun x3=>lt (numC k x1.1 x1.2.1 x1.2.2) fun x2=>some (.v (.agg ⟨[.int .i64 x3.1,.int .i64 x3.2]⟩),⟨[.v (.int .i64 x2)],84⟩)) (by kernel_rfl) ?_;rfl
noncomputable def jZ (a b:Int):Int×Int:=((aN a b).1,(aN a b).2.1)
noncomputable def pC (k a b:Int):Int:=bJ k (aN a b).2.2
noncomputable def kFa3:aZ:=(73,cP 84 (fun a b=>aD (nK a b).1 (nK a b).2) uD)::kFa2
theorem kFa3_ok:aJ Tryz.prog kFa3:=(aA (uA gsinV_mods) kFa2_ok)
theorem gcosV_mods (k a b:Int):gW Tryz.prog 68 84 k [.agg ⟨[.int .i64 a,.int .i64 b]⟩] (aD (jZ a b).1 (jZ a b).2) (pC k a b):=by
 refine bR bN kFa3_ok (t:=lt (aN a b) fun x1=>lt (ZN x1.1 x1.2.1 x1.2.2) fun x3=>lt (numC k x1.1 x1.2.1 x1.2.2) fun x2=>some (.v (.agg ⟨[.int .i64 x3.1,.int .i64 x3.2]⟩),⟨[.v (.int .i64 x2)],84⟩)) (by kernel_rfl) ?_;rfl
noncomputable def rG (a b c d:Int):Int×Int:=((bT a b c d).1,(bT a b c d).2.1)
noncomputable def wA (k a b c d:Int):Int:=bJ k (bT a b c d).2.2
noncomputable def kFa4:aZ:=(68,cP 84 (fun a b=>aD (jZ a b).1 (jZ a b).2) pC)::kFa3
theorem kFa4_ok:aJ Tryz.prog kFa4:=(aA (uA gcosV_mods) kFa3_ok)
theorem gmulV_mods (k a b c d:Int):gW Tryz.prog 70 84 k [.agg ⟨[.int .i64 a,.int .i64 b]⟩,.agg ⟨[.int .i64 c,.int .i64 d]⟩] (aD (rG a b c d).1 (rG a b c d).2) (wA k a b c d):=by
 refine bR bN kFa4_ok (t:=lt (bT a b c d) fun x1=>lt (ZN x1.1 x1.2.1 x1.2.2) fun x3=>lt (numC k x1.1 x1.2.1 x1.2.2) fun x2=>some (.v (.agg ⟨[.int .i64 x3.1,.int .i64 x3.2]⟩),⟨[.v (.int .i64 x2)],84⟩)) (by kernel_rfl) ?_;rfl
noncomputable def PF (a b:Int):Int×Int:=((mK a b).1,(mK a b).2.1)
noncomputable def gnegC (k a b:Int):Int:=bJ k (mK a b).2.2
noncomputable def kFa5:aZ:=(70,VZ 84 (fun a b c d=>aD (rG a b c d).1 (rG a b c d).2) wA)::kFa4
theorem kFa5_ok:aJ Tryz.prog kFa5:=(aA (lV gmulV_mods) kFa4_ok)
theorem gnegV_mods (k a b:Int):gW Tryz.prog 72 84 k [.agg ⟨[.int .i64 a,.int .i64 b]⟩] (aD (PF a b).1 (PF a b).2) (gnegC k a b):=by
 refine bR bN kFa5_ok (t:=lt (mK a b) fun x1=>lt (ZN x1.1 x1.2.1 x1.2.2) fun x3=>lt (numC k x1.1 x1.2.1 x1.2.2) fun x2=>some (.v (.agg ⟨[.int .i64 x3.1,.int .i64 x3.2]⟩),⟨[.v (.int .i64 x2)],84⟩)) (by kernel_rfl) ?_;rfl
noncomputable def sP (a b:Int):Int×Int:=((aV a b).1,(aV a b).2.1)
noncomputable def zQ (k a b:Int):Int:=bJ k (aV a b).2.2
noncomputable def kFa6:aZ:=(72,cP 84 (fun a b=>aD (PF a b).1 (PF a b).2) gnegC)::kFa5
theorem kFa6_ok:aJ Tryz.prog kFa6:=(aA (uA gnegV_mods) kFa5_ok)
theorem XF (k a b:Int):gW Tryz.prog 69 84 k [.agg ⟨[.int .i64 a,.int .i64 b]⟩] (aD (sP a b).1 (sP a b).2) (zQ k a b):=by
 refine bR bN kFa6_ok (t:=lt (aV a b) fun x1=>lt (VH x1.1 x1.2.1 x1.2.2) fun x3=>lt (arcC k x1.1 x1.2.1 x1.2.2) fun x2=>some (.v (.agg ⟨[.int .i64 x3.1,.int .i64 x3.2]⟩),⟨[.v (.int .i64 x2)],84⟩)) (by kernel_rfl) ?_;rfl
noncomputable def KJ (a b c d:Int):Int×Int:=((aQ a b c d).1,(aQ a b c d).2.1)
noncomputable def PD (k a b c d:Int):Int:=bJ k (aQ a b c d).2.2
noncomputable def kFa7:aZ:=(69,cP 84 (fun a b=>aD (sP a b).1 (sP a b).2) zQ)::kFa6
theorem kFa7_ok:aJ Tryz.prog kFa7:=(aA (uA XF) kFa6_ok)
theorem gbeaV_mods (k a b c d:Int):gW Tryz.prog 71 84 k [.agg ⟨[.int .i64 a,.int .i64 b]⟩,.agg ⟨[.int .i64 c,.int .i64 d]⟩] (aD (KJ a b c d).1 (KJ a b c d).2) (PD k a b c d):=by
 refine bR bN kFa7_ok (t:=lt (aQ a b c d) fun x1=>lt (VH x1.1 x1.2.1 x1.2.2) fun x3=>lt (arcC k x1.1 x1.2.1 x1.2.2) fun x2=>some (.v (.agg ⟨[.int .i64 x3.1,.int .i64 x3.2]⟩),⟨[.v (.int .i64 x2)],84⟩)) (by kernel_rfl) ?_;rfl
noncomputable def QH {α:Type} (K:Int→Int→Int→Int→Int→α) (a b c d e f:Int):α:=cond (!(cS a b c d e f)) (K 0 0 0 0 1) (lt (jZ c d) fun x2=>lt (pC 0 c d) fun x1=>lt (nK e f) fun x4=>lt (uD x1 e f) fun x3=>lt (rG x2.1 x2.2 x4.1 x4.2) fun x6=>lt (wA x3 x2.1 x2.2 x4.1 x4.2) fun x5=>lt (sP x6.1 x6.2) fun x8=>lt (zQ x5 x6.1 x6.2) fun x7=>lt (nK c d) fun x10=>lt (uD x7 c d) fun x9=>lt (jZ e f) fun x12=>lt (pC x9 e f) fun x11=>lt (rG x2.1 x2.2 x12.1 x12.2) fun x14=>lt (wA x11 x2.1 x2.2 x12.1 x12.2) fun x13=>lt (KJ x10.1 x10.2 x14.1 x14.2) fun x16=>lt (PD x13 x10.1 x10.2 x14.1 x14.2) fun x15=>lt (jW x16.1 x16.2 a b) fun x17=>lt (VH x17.1 x17.2.1 x17.2.2) fun x19=>lt (arcC x15 x17.1 x17.2.1 x17.2.2) fun x18=>lt (jZ x8.1 x8.2) fun x21=>lt (pC x18 x8.1 x8.2) fun x20=>lt (jZ x19.1 x19.2) fun x23=>lt (pC x20 x19.1 x19.2) fun x22=>lt (rG x21.1 x21.2 x23.1 x23.2) fun x25=>lt (wA x22 x21.1 x21.2 x23.1 x23.2) fun x24=>lt (sP x25.1 x25.2) fun x27=>lt (zQ x24 x25.1 x25.2) fun x26=>lt (jZ c d) fun x29=>lt (pC x26 c d) fun x28=>lt (nK e f) fun x31=>lt (uD x28 e f) fun x30=>lt (rG x29.1 x29.2 x31.1 x31.2) fun x33=>lt (wA x30 x29.1 x29.2 x31.1 x31.2) fun x32=>lt (PF x33.1 x33.2) fun x35=>lt (gnegC x32 x33.1 x33.2) fun x34=>lt (nK x19.1 x19.2) fun x37=>lt (uD x34 x19.1 x19.2) fun x36=>lt (rG x21.1 x21.2 x37.1 x37.2) fun x39=>lt (wA x36 x21.1 x21.2 x37.1 x37.2) fun x38=>lt (KJ x35.1 x35.2 x39.1 x39.2) fun x41=>lt (PD x38 x35.1 x35.2 x39.1 x39.2) fun x40=>cond (x40 != 0) (K 0 0 0 0 x40) (K x27.1 x27.2 x41.1 x41.2 0))
noncomputable def CI (a b c d e f:Int):Int×Int×Int×Int×Int:=QH (fun p0 p1 p2 p3 p4=>(p0,p1,p2,p3,p4)) a b c d e f
noncomputable def kFa8:aZ:=(71,VZ 84 (fun a b c d=>aD (KJ a b c d).1 (KJ a b c d).2) PD)::kFa7
theorem kFa8_ok:aJ Tryz.prog kFa8:=(aA (lV gbeaV_mods) kFa7_ok)
theorem solM_gives (a b c d e f:Int):aH Tryz.prog 39 [.agg ⟨[.int .i64 a,.int .i64 b,.int .i64 c,.int .i64 d,.int .i64 e,.int .i64 f]⟩] (dV (CI a b c d e f)):=by
 refine aE bN kFa8_ok (t:=QH (fun p0 p1 p2 p3 p4=>some (.v (dV ((p0,p1,p2,p3,p4))))) a b c d e f) (by kernel_rfl) ?_;unfold CI QH;repeat' first | (with_reducible refine aT (fun r:Int×Int×Int×Int×Int=>AV.v (dV (r))) ?_ ?_) | (with_reducible refine cG (fun r:Int×Int×Int×Int×Int=>AV.v (dV (r))) fun _=>?_) | rfl
end
section
open Ev
def oG (a b _e:Int):Int×Int:=(a,b)
def pF (k _a _b e:Int):Int:=bJ k e
noncomputable def kFh0:aZ:=(48,eT (fun a b c d e f=>.bool (cS a b c d e f)))::(61,nX (fun a b c d=>aL (jW a b c d)))::(78,eP (fun a b=>aL (cD a b)))::(127,nX (fun a b c d=>aL (bT a b c d)))::(129,eP (fun a b=>aL (eJ a b)))::(131,eP (fun a b=>aL (dN a b)))::(132,nX (fun a b c d=>aL (fS a b c d)))::(135,eP (fun a b=>aL (aN a b)))::(192,nX (fun a b c d=>aL (mQ a b c d)))::(193,nX (fun a b c d=>aL (iB a b c d)))::[]
theorem kFh0_ok:aJ Tryz.prog kFh0:=(aA (gS kI) (aA (cH pX) (aA (cF wW) (aA (cH pJ) (aA (cF (fun a b W _=>hav_r a b W)) (aA (cF (fun a b W _=>ahav_r a b W)) (aA (cH sB) (aA (cF (fun a b W _=>WK a b W)) (aA (cH AM) (aA (cH divR_gives) cO))))))))))
theorem hnumV_mods (k a b c:Int):gW Tryz.prog 126 125 k [.agg ⟨[.int .i64 a,.int .i64 b]⟩,.int .i64 c] (aD (oG a b c).1 (oG a b c).2) (pF k a b c):=by
 refine bR bN kFh0_ok (t:=cond (k==0) (some (.v (.agg ⟨[.int .i64 a,.int .i64 b]⟩),⟨[.v (.int .i64 c)],125⟩)) (some (.v (.agg ⟨[.int .i64 a,.int .i64 b]⟩),⟨[.v (.int .i64 k)],125⟩))) (by kernel_rfl) ?_;unfold pF bJ;by_cases h:k=0
 ·simp [h];rfl
 ·have e:(k==0)=false:=beq_eq_false_iff_ne.2 h;rw [e];simp [h];rfl
def FF (a b _e:Int):Int×Int:=(a,b)
def KM (k _a _b e:Int):Int:=bJ k e
noncomputable def kFh1:aZ:=(126,cPI 125 (fun a b c=>aD (oG a b c).1 (oG a b c).2) pF)::kFh0
theorem kFh1_ok:aJ Tryz.prog kFh1:=(aA (sH hnumV_mods) kFh0_ok)
theorem harcW_mods (k a b c:Int):gW Tryz.prog 130 125 k [.agg ⟨[.int .i64 a,.int .i64 b]⟩,.int .i64 c] (aD (FF a b c).1 (FF a b c).2) (KM k a b c):=by
 refine bR bN kFh1_ok (t:=cond (k==0) (some (.v (.agg ⟨[.int .i64 a,.int .i64 b]⟩),⟨[.v (.int .i64 c)],125⟩)) (some (.v (.agg ⟨[.int .i64 a,.int .i64 b]⟩),⟨[.v (.int .i64 k)],125⟩))) (by kernel_rfl) ?_;unfold KM bJ;by_cases h:k=0
 ·simp [h];rfl
 ·have e:(k==0)=false:=beq_eq_false_iff_ne.2 h;rw [e];simp [h];rfl
def kM (a b c d:Int):Int×Int:=
 let x:=aN a b
 let y:=aN c d
 let z:=bT x.1 x.2.1 y.1 y.2.1
 (z.1,z.2.1)
def cosC (k a b c d:Int):Int:=
 let x:=aN a b
 let y:=aN c d
 let z:=bT x.1 x.2.1 y.1 y.2.1
 bJ (bJ (bJ k x.2.2) y.2.2) z.2.2
noncomputable def kFh2:aZ:=(130,cPI 125 (fun a b c=>aD (FF a b c).1 (FF a b c).2) KM)::kFh1
theorem kFh2_ok:aJ Tryz.prog kFh2:=(aA (sH harcW_mods) kFh1_ok)
theorem cosV_mods (k a b c d:Int):gW Tryz.prog 128 125 k [.agg ⟨[.int .i64 a,.int .i64 b]⟩,.agg ⟨[.int .i64 c,.int .i64 d]⟩] (aD (kM a b c d).1 (kM a b c d).2) (cosC k a b c d):=by
 refine bR bN kFh2_ok (t:=lt (aN a b) fun x1=>lt (oG x1.1 x1.2.1 x1.2.2) fun x3=>lt (pF k x1.1 x1.2.1 x1.2.2) fun x2=>lt (aN c d) fun x4=>lt (oG x4.1 x4.2.1 x4.2.2) fun x6=>lt (pF x2 x4.1 x4.2.1 x4.2.2) fun x5=>lt (bT x3.1 x3.2 x6.1 x6.2) fun x7=>lt (oG x7.1 x7.2.1 x7.2.2) fun x9=>lt (pF x5 x7.1 x7.2.1 x7.2.2) fun x8=>some (.v (.agg ⟨[.int .i64 x9.1,.int .i64 x9.2]⟩),⟨[.v (.int .i64 x8)],125⟩)) (by kernel_rfl) ?_;rfl
def lT (a b c d:Int):Int×Int:=
 let x:=jW a b c d
 let y:=eJ x.1 x.2.1
 (y.1,y.2.1)
def betC (k a b c d:Int):Int:=
 let x:=jW a b c d
 let y:=eJ x.1 x.2.1
 bJ (bJ k x.2.2) y.2.2
noncomputable def kFh3:aZ:=(128,VZ 125 (fun a b c d=>aD (kM a b c d).1 (kM a b c d).2) cosC)::kFh2
theorem kFh3_ok:aJ Tryz.prog kFh3:=(aA (lV cosV_mods) kFh2_ok)
theorem betV_mods (k a b c d:Int):gW Tryz.prog 133 125 k [.agg ⟨[.int .i64 a,.int .i64 b]⟩,.agg ⟨[.int .i64 c,.int .i64 d]⟩] (aD (lT a b c d).1 (lT a b c d).2) (betC k a b c d):=by
 refine bR bN kFh3_ok (t:=lt (jW a b c d) fun x1=>lt (FF x1.1 x1.2.1 x1.2.2) fun x3=>lt (KM k x1.1 x1.2.1 x1.2.2) fun x2=>lt (eJ x3.1 x3.2) fun x4=>lt (oG x4.1 x4.2.1 x4.2.2) fun x6=>lt (pF x2 x4.1 x4.2.1 x4.2.2) fun x5=>some (.v (.agg ⟨[.int .i64 x6.1,.int .i64 x6.2]⟩),⟨[.v (.int .i64 x5)],125⟩)) (by kernel_rfl) ?_;rfl
noncomputable def wF (a b:Int):Int×Int:=(i64.wrap (5400000-b),i64.wrap (5400000-a))
noncomputable def kFh4:aZ:=(133,VZ 125 (fun a b c d=>aD (lT a b c d).1 (lT a b c d).2) betC)::kFh3
theorem kFh4_ok:aJ Tryz.prog kFh4:=(aA (lV betV_mods) kFh3_ok)
theorem YV (a b:Int):aH Tryz.prog 65 [.agg ⟨[.int .i64 a,.int .i64 b]⟩] (aD (wF a b).1 (wF a b).2):=aE bN kFh4_ok (by kernel_rfl) rfl
noncomputable def QW {α:Type} (K:Int→Int→Int→α) (a b c d e f:Int):α:=cond (!(cS a b c d e f)) (K 0 0 1) (lt (kM a b c d) fun x2=>lt (cosC 0 a b c d) fun x1=>lt (eJ e f) fun x3=>lt (oG x3.1 x3.2.1 x3.2.2) fun x5=>lt (pF x1 x3.1 x3.2.1 x3.2.2) fun x4=>lt (bT x2.1 x2.2 x5.1 x5.2) fun x6=>lt (oG x6.1 x6.2.1 x6.2.2) fun x8=>lt (pF x4 x6.1 x6.2.1 x6.2.2) fun x7=>lt (lT a b c d) fun x10=>lt (betC x7 a b c d) fun x9=>lt (fS x10.1 x10.2 x8.1 x8.2) fun x11=>lt (oG x11.1 x11.2.1 x11.2.2) fun x13=>lt (pF x9 x11.1 x11.2.1 x11.2.2) fun x12=>lt (dN x13.1 x13.2) fun x14=>lt (FF x14.1 x14.2.1 x14.2.2) fun x16=>lt (KM x12 x14.1 x14.2.1 x14.2.2) fun x15=>cond (x15 != 0) (K 0 0 x15) (K x16.1 x16.2 0))
noncomputable def dB (a b c d e f:Int):Int×Int×Int:=QW (fun p0 p1 p2=>(p0,p1,p2)) a b c d e f
noncomputable def kFh5:aZ:=(65,eP (fun a b=>aD (wF a b).1 (wF a b).2))::kFh4
theorem kFh5_ok:aJ Tryz.prog kFh5:=(aA (cF YV) kFh4_ok)
theorem zenM_gives (a b c d e f:Int):aH Tryz.prog 63 [.agg ⟨[.int .i64 a,.int .i64 b,.int .i64 c,.int .i64 d,.int .i64 e,.int .i64 f]⟩] (aL (dB a b c d e f)):=by
 refine aE bN kFh5_ok (t:=QW (fun p0 p1 p2=>some (.v (aL ((p0,p1,p2))))) a b c d e f) (by kernel_rfl) ?_;unfold dB QW;repeat' first | (with_reducible refine aT (fun r:Int×Int×Int=>AV.v (aL (r))) ?_ ?_) | (with_reducible refine cG (fun r:Int×Int×Int=>AV.v (aL (r))) fun _=>?_) | rfl
noncomputable def topMK {α:Type} (K:Int→Int→Int→α) (a b c d _e _f u v:Int):α:=lt (wF u v) fun x1=>lt (wF c d) fun x2=>lt (eJ x2.1 x2.2) fun x3=>lt (oG x3.1 x3.2.1 x3.2.2) fun x5=>lt (pF 0 x3.1 x3.2.1 x3.2.2) fun x4=>lt (lT a b x1.1 x1.2) fun x7=>lt (betC x4 a b x1.1 x1.2) fun x6=>lt (mQ x5.1 x5.2 x7.1 x7.2) fun x8=>lt (oG x8.1 x8.2.1 x8.2.2) fun x10=>lt (pF x6 x8.1 x8.2.1 x8.2.2) fun x9=>lt (kM a b x1.1 x1.2) fun x12=>lt (cosC x9 a b x1.1 x1.2) fun x11=>cond (x11 != 0) (K 0 0 x11) (cond (decide (x12.1≤0)) (cond (decide (x12.2≥0)) (K 0 0 21) (lt (iB x10.1 x10.2 x12.1 x12.2) fun x13=>cond (x13.2.2==5) (lt (dN 0 1073741824) fun x14=>cond (x14.2.2==2) (K x14.1 x14.2.1 23) (K x14.1 x14.2.1 x14.2.2)) (cond (x13.2.2 != 0) (K 0 0 x13.2.2) (lt (dN x13.1 x13.2.1) fun x15=>cond (x15.2.2==2) (K x15.1 x15.2.1 23) (K x15.1 x15.2.1 x15.2.2))))) (lt (iB x10.1 x10.2 x12.1 x12.2) fun x16=>cond (x16.2.2==5) (lt (dN 0 1073741824) fun x17=>cond (x17.2.2==2) (K x17.1 x17.2.1 23) (K x17.1 x17.2.1 x17.2.2)) (cond (x16.2.2 != 0) (K 0 0 x16.2.2) (lt (dN x16.1 x16.2.1) fun x18=>cond (x18.2.2==2) (K x18.1 x18.2.1 23) (K x18.1 x18.2.1 x18.2.2)))))
noncomputable def fB (a b c d e f u v:Int):Int×Int×Int:=topMK (fun p0 p1 p2=>(p0,p1,p2)) a b c d e f u v
noncomputable def kFh6:aZ:=(63,eT (fun a b c d e f=>aL (dB a b c d e f)))::kFh5
theorem kFh6_ok:aJ Tryz.prog kFh6:=(aA (gS zenM_gives) kFh5_ok)
theorem topM_gives (a b c d e f u v:Int):aH Tryz.prog 134 [.agg ⟨[.int .i64 a,.int .i64 b,.int .i64 c,.int .i64 d,.int .i64 e,.int .i64 f]⟩,.agg ⟨[.int .i64 u,.int .i64 v]⟩] (aL (fB a b c d e f u v)):=by
 refine aE bN kFh6_ok (t:=topMK (fun p0 p1 p2=>some (.v (aL ((p0,p1,p2))))) a b c d e f u v) (by kernel_rfl) ?_;unfold fB topMK;repeat' first | (with_reducible refine aT (fun r:Int×Int×Int=>AV.v (aL (r))) ?_ ?_) | (with_reducible refine cG (fun r:Int×Int×Int=>AV.v (aL (r))) fun _=>?_) | rfl
noncomputable def aziMK {α:Type} (K:Int→Int→Int→α) (a b c d e f u v:Int):α:=cond (!(cS a b c d e f)) (K 0 0 1) (cond (decide (u<0)) (K 0 0 1) (cond (decide (u>v)) (K 0 0 1) (cond (decide (v>10800000)) (K 0 0 1) (lt (fB a b c d e f u v) fun x1=>cond (x1.2.2 != 0) (K 0 0 x1.2.2) (lt (cD e f) fun x2=>cond (x2.2.2 != 0) (K 0 0 x2.2.2) (cond (decide (x2.1≥10800000)) (cond (decide (x2.2.1≤21600000)) (K x1.1 x1.2.1 0) (cond (decide (x2.2.1≤10800000)) (lt (cD (i64.wrap (21600000-x1.2.1)) (i64.wrap (21600000-x1.1))) fun x3=>K x3.1 x3.2.1 x3.2.2) (cond (decide (i64.wrap (x1.1+x1.2.1)>10800000)) (K x1.1 (i64.wrap (21600000-x1.1)) 0) (lt (cD (i64.wrap (0-x1.2.1)) x1.2.1) fun x4=>K x4.1 x4.2.1 x4.2.2)))) (cond (decide (x2.2.1≤10800000)) (lt (cD (i64.wrap (21600000-x1.2.1)) (i64.wrap (21600000-x1.1))) fun x5=>K x5.1 x5.2.1 x5.2.2) (cond (decide (i64.wrap (x1.1+x1.2.1)>10800000)) (K x1.1 (i64.wrap (21600000-x1.1)) 0) (lt (cD (i64.wrap (0-x1.2.1)) x1.2.1) fun x6=>K x6.1 x6.2.1 x6.2.2)))))))))
noncomputable def CW (a b c d e f u v:Int):Int×Int×Int:=aziMK (fun p0 p1 p2=>(p0,p1,p2)) a b c d e f u v
noncomputable def kFh7:aZ:=(134,eTP (fun a b c d e f u v=>aL (fB a b c d e f u v)))::kFh6
theorem kFh7_ok:aJ Tryz.prog kFh7:=(aA (eTP_ok topM_gives) kFh6_ok)
theorem aziM_gives (a b c d e f u v:Int):aH Tryz.prog 64 [.agg ⟨[.int .i64 a,.int .i64 b,.int .i64 c,.int .i64 d,.int .i64 e,.int .i64 f]⟩,.agg ⟨[.int .i64 u,.int .i64 v]⟩] (aL (CW a b c d e f u v)):=by
 refine aE bN kFh7_ok (t:=aziMK (fun p0 p1 p2=>some (.v (aL ((p0,p1,p2))))) a b c d e f u v) (by kernel_rfl) ?_;unfold CW aziMK;repeat' first | (with_reducible refine aT (fun r:Int×Int×Int=>AV.v (aL (r))) ?_ ?_) | (with_reducible refine cG (fun r:Int×Int×Int=>AV.v (aL (r))) fun _=>?_) | rfl
noncomputable def DO {α:Type} (K:Int→Int→Int→Int→Int→α) (a b c d e f:Int):α:=lt (dB a b c d e f) fun x1=>cond (x1.2.2 != 0) (K 0 0 0 0 x1.2.2) (lt (CW a b c d e f x1.1 x1.2.1) fun x2=>cond (x2.2.2==21) (lt (wF x1.1 x1.2.1) fun x3=>K x3.1 x3.2 0 21600000 0) (cond (x2.2.2 != 0) (K 0 0 0 0 x2.2.2) (lt (wF x1.1 x1.2.1) fun x4=>K x4.1 x4.2 x2.1 x2.2.1 0)))
noncomputable def mI (a b c d e f:Int):Int×Int×Int×Int×Int:=DO (fun p0 p1 p2 p3 p4=>(p0,p1,p2,p3,p4)) a b c d e f
noncomputable def kFh8:aZ:=(64,eTP (fun a b c d e f u v=>aL (CW a b c d e f u v)))::kFh7
theorem kFh8_ok:aJ Tryz.prog kFh8:=(aA (eTP_ok aziM_gives) kFh7_ok)
theorem XN (a b c d e f:Int):aH Tryz.prog 38 [.agg ⟨[.int .i64 a,.int .i64 b,.int .i64 c,.int .i64 d,.int .i64 e,.int .i64 f]⟩] (dV (mI a b c d e f)):=by
 refine aE bN kFh8_ok (t:=DO (fun p0 p1 p2 p3 p4=>some (.v (dV ((p0,p1,p2,p3,p4))))) a b c d e f) (by kernel_rfl) ?_;unfold mI DO;repeat' first | (with_reducible refine aT (fun r:Int×Int×Int×Int×Int=>AV.v (dV (r))) ?_ ?_) | (with_reducible refine cG (fun r:Int×Int×Int×Int×Int=>AV.v (dV (r))) fun _=>?_) | rfl
end
section
open Ev
theorem mY {x y:Value} {xs ys:List Value} {r:Bool} (h:vR (x::xs) (y::ys)=some r):∃a b r',x=.int .i64 a∧y=.int .i64 b∧vR xs ys=some r'∧r=((a==b)&&r'):=by
 unfold vR at h;split at h
 ·rename_i he1 he2;cases he1
 ·rename_i a l b m he1 he2;cases he1;cases he2;split at h
  ·rename_i r' hr;simp only [Option.some.injEq] at h;exact ⟨a,b,r',rfl,rfl,hr,h.symm⟩
  ·cases h
 ·cases h
theorem KD:vR [] []=some true:=rfl
theorem IC (k:Nat) (a b c d:Int) (w:World):(Op.equalIn (k+2) 23 (.agg #[.int .i64 a,.int .i64 b]) (.agg #[.int .i64 c,.int .i64 d])).run Tryz.prog w=.ok (a==c&&b==d) w:=by
 have u3:=Tryz.underlying3;have a3:=Tryz.isAgg3;have z3:=Tryz.sizeOf3;have hS:Tryz.prog.underlying 23=some (.struct (Tryz.prog.fieldsOf 23)):=by kernel_rfl
 have hp:Tryz.prog.stoodInHeld 23=false:=by kernel_rfl
 rw [run_equalIn_agg w (k+1) 23 _ _ hS hp];simp only [Program.fieldsOf,Tryz.underlying23];go_simp
 by_cases h1:a=c<;>by_cases h2:b=d<;>simp [h1,h2]
theorem fitArc:qU Tryz.prog (23,2):=by
 refine ⟨by kernel_rfl,fun xs ys r hx hy h w=>?_⟩;match xs,ys,hx,hy with
 | [x0,x1],[y0,y1],_,_=>
  obtain ⟨a,c,r1,rfl,rfl,h1,rfl⟩:=mY h;obtain ⟨b,d,r2,rfl,rfl,h2,rfl⟩:=mY h1;rw [KD] at h2;cases h2;rw [Bool.and_true];exact IC 9998 a b c d w
theorem fitSol:qU Tryz.prog (28,4):=by
 refine ⟨by kernel_rfl,fun xs ys r hx hy h w=>?_⟩;match xs,ys,hx,hy with
 | [x0,x1,x2,x3],[y0,y1,y2,y3],_,_=>
  obtain ⟨a,c,r1,rfl,rfl,h1,rfl⟩:=mY h;obtain ⟨b,d,r2,rfl,rfl,h2,rfl⟩:=mY h1;obtain ⟨e,f,r3,rfl,rfl,h3,rfl⟩:=mY h2;obtain ⟨i,j,r4,rfl,rfl,h4,rfl⟩:=mY h3;rw [KD] at h4;cases h4;have hS:Tryz.prog.underlying 28=some (.struct (Tryz.prog.fieldsOf 28)):=by kernel_rfl
  have hp:Tryz.prog.stoodInHeld 28=false:=by kernel_rfl
  have a25:=Tryz.isAgg23;have z25:=Tryz.sizeOf23;have q1:=fun w=>IC 9997 a b c d w;have q2:=fun w=>IC 9997 e i f j w;rw [run_equalIn_agg w 9999 28 _ _ hS hp];simp only [Program.fieldsOf,Tryz.underlying28,Op.eqFields,part];simp [a25,z25,q1,q2];by_cases h1:a=c<;>by_cases h2:b=d<;>by_cases h3:e=f<;>by_cases h4:i=j<;>simp [h1,h2,h3,h4]
def Es:List (TypeId×Nat):=[(23,2),(28,4)]
theorem bK:∀e∈Es,qU Tryz.prog e:=by
 intro e he;simp only [Es,List.mem_cons,List.not_mem_nil,or_false] at he;rcases he with rfl | rfl
 ·exact fitArc
 ·exact fitSol
open Ev (lt)
def zH (r:Int×Int×Int×Int×Int):Int×Int×Int×Int×Int:=if r.2.2.2.2=0 then r else (0,0,0,0,r.2.2.2.2)
theorem JP (r:Int×Int×Int×Int×Int):(lt r fun x=>cond (x.2.2.2.2 != 0) (some (AV.v (.tuple ⟨[.agg ⟨[.int .i64 0,.int .i64 0,.int .i64 0,.int .i64 0]⟩,.int .i64 x.2.2.2.2]⟩))) (some (.v (.tuple ⟨[.agg ⟨[.int .i64 x.1,.int .i64 x.2.1,.int .i64 x.2.2.1,.int .i64 x.2.2.2.1]⟩,.int .i64 0]⟩))))=some (.v (dV (zH r))):=by
 obtain ⟨x1,x2,x3,x4,xe⟩:=r;unfold lt zH;by_cases h:xe=0
 ·subst h;rfl
 ·have e:(xe != 0)=true:=by simpa using h
  dsimp only;rw [e,if_neg h];rfl
noncomputable def by1 (a b c d e f:Int):Int×Int×Int×Int×Int:=zH (iQ a b c d e f)
noncomputable def kBw0:aZ:=(26,eT (fun a b c d e f=>dV (iQ a b c d e f)))::(38,eT (fun a b c d e f=>dV (mI a b c d e f)))::(39,eT (fun a b c d e f=>dV (CI a b c d e f)))::(40,eT (fun a b c d e f=>dV (sU a b c d e f)))::(41,eT (fun a b c d e f=>dV (qD a b c d e f)))::(58,eP (fun a b=>.bool (aF a b)))::[]
theorem sW:aJ Tryz.prog kBw0:=(aA (gS WN) (aA (gS XN) (aA (gS solM_gives) (aA (gS hslM_gives) (aA (gS ZG) (aA (cF (fun a b W _=>sQ a b W)) cO))))))
theorem by1_gives (a b c d e f:Int):aH Tryz.prog 11 [.int .i64 1,.agg ⟨[.int .i64 a,.int .i64 b,.int .i64 c,.int .i64 d,.int .i64 e,.int .i64 f]⟩] (dV (by1 a b c d e f)):=by
 refine aE bK sW (t:=lt (iQ a b c d e f) fun x1=>cond (x1.2.2.2.2 != 0) (some (.v (.tuple ⟨[.agg ⟨[.int .i64 0,.int .i64 0,.int .i64 0,.int .i64 0]⟩,.int .i64 x1.2.2.2.2]⟩))) (some (.v (.tuple ⟨[.agg ⟨[.int .i64 x1.1,.int .i64 x1.2.1,.int .i64 x1.2.2.1,.int .i64 x1.2.2.2.1]⟩,.int .i64 0]⟩)))) (by kernel_rfl) ?_;exact JP _
noncomputable def by2 (a b c d e f:Int):Int×Int×Int×Int×Int:=zH (mI a b c d e f)
theorem by2_gives (a b c d e f:Int):aH Tryz.prog 11 [.int .i64 2,.agg ⟨[.int .i64 a,.int .i64 b,.int .i64 c,.int .i64 d,.int .i64 e,.int .i64 f]⟩] (dV (by2 a b c d e f)):=by
 refine aE bK sW (t:=lt (mI a b c d e f) fun x1=>cond (x1.2.2.2.2 != 0) (some (.v (.tuple ⟨[.agg ⟨[.int .i64 0,.int .i64 0,.int .i64 0,.int .i64 0]⟩,.int .i64 x1.2.2.2.2]⟩))) (some (.v (.tuple ⟨[.agg ⟨[.int .i64 x1.1,.int .i64 x1.2.1,.int .i64 x1.2.2.1,.int .i64 x1.2.2.2.1]⟩,.int .i64 0]⟩)))) (by kernel_rfl) ?_;exact JP _
noncomputable def by3 (a b c d e f:Int):Int×Int×Int×Int×Int:=zH (CI a b c d e f)
theorem by3_gives (a b c d e f:Int):aH Tryz.prog 11 [.int .i64 3,.agg ⟨[.int .i64 a,.int .i64 b,.int .i64 c,.int .i64 d,.int .i64 e,.int .i64 f]⟩] (dV (by3 a b c d e f)):=by
 refine aE bK sW (t:=lt (CI a b c d e f) fun x1=>cond (x1.2.2.2.2 != 0) (some (.v (.tuple ⟨[.agg ⟨[.int .i64 0,.int .i64 0,.int .i64 0,.int .i64 0]⟩,.int .i64 x1.2.2.2.2]⟩))) (some (.v (.tuple ⟨[.agg ⟨[.int .i64 x1.1,.int .i64 x1.2.1,.int .i64 x1.2.2.1,.int .i64 x1.2.2.2.1]⟩,.int .i64 0]⟩)))) (by kernel_rfl) ?_;exact JP _
noncomputable def by4 (a b c d e f:Int):Int×Int×Int×Int×Int:=zH (sU a b c d e f)
theorem by4_gives (a b c d e f:Int):aH Tryz.prog 11 [.int .i64 4,.agg ⟨[.int .i64 a,.int .i64 b,.int .i64 c,.int .i64 d,.int .i64 e,.int .i64 f]⟩] (dV (by4 a b c d e f)):=by
 refine aE bK sW (t:=lt (sU a b c d e f) fun x1=>cond (x1.2.2.2.2 != 0) (some (.v (.tuple ⟨[.agg ⟨[.int .i64 0,.int .i64 0,.int .i64 0,.int .i64 0]⟩,.int .i64 x1.2.2.2.2]⟩))) (some (.v (.tuple ⟨[.agg ⟨[.int .i64 x1.1,.int .i64 x1.2.1,.int .i64 x1.2.2.1,.int .i64 x1.2.2.2.1]⟩,.int .i64 0]⟩)))) (by kernel_rfl) ?_;exact JP _
noncomputable def by5 (a b c d e f:Int):Int×Int×Int×Int×Int:=zH (qD a b c d e f)
theorem by5_gives (a b c d e f:Int):aH Tryz.prog 11 [.int .i64 5,.agg ⟨[.int .i64 a,.int .i64 b,.int .i64 c,.int .i64 d,.int .i64 e,.int .i64 f]⟩] (dV (by5 a b c d e f)):=by
 refine aE bK sW (t:=lt (qD a b c d e f) fun x1=>cond (x1.2.2.2.2 != 0) (some (.v (.tuple ⟨[.agg ⟨[.int .i64 0,.int .i64 0,.int .i64 0,.int .i64 0]⟩,.int .i64 x1.2.2.2.2]⟩))) (some (.v (.tuple ⟨[.agg ⟨[.int .i64 x1.1,.int .i64 x1.2.1,.int .i64 x1.2.2.1,.int .i64 x1.2.2.2.1]⟩,.int .i64 0]⟩)))) (by kernel_rfl) ?_;exact JP _
def eS (F:Int→Int→Int→Int→Value):CP
 | [.v (.agg ⟨[.int .i64 a,.int .i64 b,.int .i64 c,.int .i64 d]⟩)],[]=>some (true,.v (F a b c d),[])
 | _,_=>none
theorem eS_ok {P:Program} {g:FuncId} {F:Int→Int→Int→Int→Value} (h:∀a b c d,aH P g [.agg ⟨[.int .i64 a,.int .i64 b,.int .i64 c,.int .i64 d]⟩] (F a b c d)) (args:List AV) (L:Ev.dP) (z:Bool) (r:AV) (L':Ev.dP) (q:eS F args L=some (z,r,L')) (_:z=true):jN P g args L r L':=by
 unfold eS at q;split at q
 ·cases q;exact cZ (h _ _ _ _)
 ·cases q
noncomputable def KG:Int×Int:=(0,21600000)
theorem FC:aH Tryz.prog 120 [] (aD (KG).1 (KG).2):=aE bK sW (by kernel_rfl) rfl
noncomputable def QK (a b c d:Int):Bool:=cond (!(aF a b)) (false) (cond (!(aF c d)) (false) (lt (KG) fun x1=>cond ((c==x1.1)&&((d==x1.2)&&true)) (true) (cond (decide (c≥0)) (cond (decide (c<21600000)) ((decide (i64.wrap (d-c)<21600000))) (false)) (false))))
noncomputable def kBw1:aZ:=(120,e0 (aD (KG).1 (KG).2))::kBw0
theorem kBw1_ok:aJ Tryz.prog kBw1:=(aA (e0_ok FC) sW)
theorem aAI (a b c d:Int):aH Tryz.prog 51 [.agg ⟨[.int .i64 a,.int .i64 b,.int .i64 c,.int .i64 d]⟩] (.bool (QK a b c d)):=by
 refine aE bK kBw1_ok (t:=cond (!(aF a b)) (some (.v (.bool false))) (cond (!(aF c d)) (some (.v (.bool false))) (lt (KG) fun x1=>cond ((c==x1.1)&&((d==x1.2)&&true)) (some (.v (.bool true))) (cond (decide (c≥0)) (cond (decide (c<21600000)) (some (.v (.bool (decide (i64.wrap (d-c)<21600000))))) (some (.v (.bool false)))) (some (.v (.bool false))))))) (by kernel_rfl) ?_;unfold QK;repeat' first | (with_reducible refine aT (fun r:Bool=>AV.v (.bool (r))) ?_ ?_) | (with_reducible refine cG (fun r:Bool=>AV.v (.bool (r))) fun _=>?_) | rfl
noncomputable def rnvM (a b c d:Int):Bool:=(!(QK a b c d))
noncomputable def kBw2:aZ:=(51,eS (fun a b c d=>.bool (QK a b c d)))::kBw1
theorem kBw2_ok:aJ Tryz.prog kBw2:=(aA (eS_ok aAI) kBw1_ok)
theorem rnvM_gives (a b c d:Int):aH Tryz.prog 50 [.agg ⟨[.int .i64 a,.int .i64 b,.int .i64 c,.int .i64 d]⟩] (.bool (rnvM a b c d)):=aE bK kBw2_ok (by kernel_rfl) rfl
noncomputable def atM (a:Int):Int×Int:=(a,a)
theorem atM_gives (a:Int):aH Tryz.prog 25 [.int .i64 a] (aD (atM a).1 (atM a).2):=aE bK kBw2_ok (by kernel_rfl) rfl
end
end Go.Proofs.YtmididlfnajhiaaGreatDoor
