/-
  The sine's plain law, first part: differences of the polynomials, their approximations in integers, and numbers side by side in one number. No program here. The sine's plain law, second part: every.
-/
import Derived.Test.YtajpgkpdhcbngaaGreatDoorChecked
import Derived.WalkKit
import Derived.Lib.Hide
import Derived.Below
import Derived.IntWalk
import Derived.Outline
import Derived.Shelf.Spec.BitsCarry
import Derived.Deep.RegionWith
import Derived.RegionTactic
import Derived.Shelf.Bits.Mul64
import Derived.LoopN
import Derived.WalkSpells
import Derived.StillTactics
import Derived.Shelf.Small.Bits
import Derived.Lib.ItoaNum
import Derived.RegionCalls
import Derived.Deep.QuietTactic
import Derived.BigQuiet
import Derived.WalkSmall
import Derived.Laws.Cover3
set_option maxRecDepth 100000
set_option maxHeartbeats 4000000
open Go.RowKit.Below renaming refl→aeX
open _root_.Int renaming emod_lt_of_pos→agQ,emod_nonneg→aiQ,eq_ofNat_of_zero_le→ajZ,lt_or_eq_of_le→aoX,mul_assoc→atX,mul_comm→akZ,mul_le_mul→anJ,mul_nonneg→aeJ,natCast_mul→ajX
open Go.Lib renaming bitLen→ajJ,hid→aaX
open _root_.Nat renaming add_mul→asQ,beq→agJ,ble→aiZ,eq_of_beq_eq_true→adX,eq_zero_or_pos→alX,land→arQ,le_refl→aaJ,lt_or_ge→adZ,mul_le_mul→aiX,rec→azJ,sub_add_cancel→atQ,testBit_two_pow_mul_add→amJ,zero_add→apX,zero_le→afX
open _root_.Rat renaming le_of_mul_le_mul_left→aoZ,mul_le_mul_of_nonneg_left→adQ,mul_le_mul_of_nonneg_right→acJ,mul_nonneg→aaQ,natCast_add→ahZ,natCast_mul→afJ
open Go.Proofs.Tryz renaming prog→aaZ
open Go.World renaming drewN→alJ
open Go.IntKind (i64 u64)
namespace Go.Proofs.YtajpgkpdhcbngaaGreatDoor
namespace SM
theorem mulB {u v a b:Rat} (hu:-a≤u∧u≤a) (hv:-b≤v∧v≤b):-(a*b)≤u*v∧u*v≤a*b:=by
 have ha:0≤a:=by grind
 have hb:0≤b:=by grind
 have h1:0≤(a-u)*(b+v):=aaQ (by grind) (by grind);have h2:0≤(a+u)*(b-v):=aaQ (by grind) (by grind);have h3:0≤(a-u)*(b-v):=aaQ (by grind) (by grind);have h4:0≤(a+u)*(b+v):=aaQ (by grind) (by grind);constructor<;>grind
def d1 (f:Nat→Rat) (n:Nat):Rat:=f (n+1)-f n
def d2 (f:Nat→Rat) (n:Nat):Rat:=f (n+2)-2*f (n+1)+f n
def d3 (f:Nat→Rat) (n:Nat):Rat:=f (n+3)-3*f (n+2)+3*f (n+1)-f n
def d4 (f:Nat→Rat) (n:Nat):Rat:=f (n+4)-4*f (n+3)+6*f (n+2)-4*f (n+1)+f n
theorem d1_step (f:Nat→Rat) (n:Nat):d1 f (n+1)=d1 f n+d2 f n:=by simp only [d1,d2];grind
theorem d2_step (f:Nat→Rat) (n:Nat):d2 f (n+1)=d2 f n+d3 f n:=by simp only [d2,d3];grind
theorem d3_step (f:Nat→Rat) (n:Nat):d3 f (n+1)=d3 f n+d4 f n:=by simp only [d3,d4];grind
structure Jet where
 b0:Rat
 b1:Rat
 b2:Rat
 b3:Rat
 b4:Rat
def bZ (v b:Rat):Prop:=-b≤v∧v≤b
structure Has (N:Nat) (f:Nat→Rat) (j:Jet):Prop where
 h0:∀n,n≤N→bZ (f n) j.b0
 h1:∀n,n+1≤N→bZ (d1 f n) j.b1
 h2:∀n,n+2≤N→bZ (d2 f n) j.b2
 h3:∀n,n+3≤N→bZ (d3 f n) j.b3
 h4:∀n,n+4≤N→bZ (d4 f n) j.b4
theorem bZ.mul {u v a b:Rat} (hu:bZ u a) (hv:bZ v b):bZ (u*v) (a*b):=mulB hu hv
theorem bZ.add {u v a b:Rat} (hu:bZ u a) (hv:bZ v b):bZ (u+v) (a+b):=by unfold bZ at*;grind
theorem bZ.scale {v b c:Rat} (hv:bZ v b) (hc:0≤c):bZ (c*v) (c*b):=bZ.mul (u:=c) (a:=c) ⟨by grind,by grind⟩ hv
theorem bZ.eq {u v b:Rat} (hv:bZ v b) (h:u=v):bZ u b:=by rw [h];exact hv
theorem bZ.mono {v b c:Rat} (hv:bZ v b) (h:b≤c):bZ v c:=by unfold bZ at*;grind
def jmul (x y:Jet):Jet:=⟨x.b0*y.b0,x.b0*y.b1+x.b1*y.b0,x.b0*y.b2+2*(x.b1*y.b1)+x.b2*y.b0,
 x.b0*y.b3+3*(x.b1*y.b2)+3*(x.b2*y.b1)+x.b3*y.b0,
 x.b0*y.b4+4*(x.b1*y.b3)+6*(x.b2*y.b2)+4*(x.b3*y.b1)+x.b4*y.b0⟩
theorem Has.mul {N:Nat} {f g:Nat→Rat} {x y:Jet} (hf:Has N f x) (hg:Has N g y):Has N (fun n=>f n*g n) (jmul x y):=by
 refine ⟨fun n hn=>(hf.h0 n hn).mul (hg.h0 n hn),fun n hn=>?_,fun n hn=>?_,fun n hn=>?_,fun n hn=>?_⟩
 ·refine (((hf.h0 (n+1) (by omega)).mul (hg.h1 n (by omega))).add ((hf.h1 n (by omega)).mul (hg.h0 n (by omega)))).eq ?_;simp only [d1];grind
 ·refine ((((hf.h0 (n+2) (by omega)).mul (hg.h2 n (by omega))).add (((hf.h1 (n+1) (by omega)).mul (hg.h1 n (by omega))).scale (c:=2) (by grind))).add ((hf.h2 n (by omega)).mul (hg.h0 n (by omega)))).eq ?_;simp only [d1,d2];grind
 ·refine (((((hf.h0 (n+3) (by omega)).mul (hg.h3 n (by omega))).add (((hf.h1 (n+2) (by omega)).mul (hg.h2 n (by omega))).scale (c:=3) (by grind))).add (((hf.h2 (n+1) (by omega)).mul (hg.h1 n (by omega))).scale (c:=3) (by grind))).add ((hf.h3 n (by omega)).mul (hg.h0 n (by omega)))).eq ?_;simp only [d1,d2,d3];grind
 ·refine ((((((hf.h0 (n+4) (by omega)).mul (hg.h4 n (by omega))).add (((hf.h1 (n+3) (by omega)).mul (hg.h3 n (by omega))).scale (c:=4) (by grind))).add (((hf.h2 (n+2) (by omega)).mul (hg.h2 n (by omega))).scale (c:=6) (by grind))).add (((hf.h3 (n+1) (by omega)).mul (hg.h1 n (by omega))).scale (c:=4) (by grind))).add ((hf.h4 n (by omega)).mul (hg.h0 n (by omega)))).eq ?_;simp only [d1,d2,d3,d4];grind
def zZ (x:Jet):Jet:=⟨1+x.b0,x.b1,x.b2,x.b3,x.b4⟩
theorem Has.less {N:Nat} {f:Nat→Rat} {x:Jet} (hf:Has N f x):Has N (fun n=>1-f n) (zZ x):=by
 refine ⟨fun n hn=>?_,fun n hn=>?_,fun n hn=>?_,fun n hn=>?_,fun n hn=>?_⟩
 ·have:=hf.h0 n hn;unfold bZ zZ at*;grind
 ·have:=hf.h1 n hn;unfold bZ zZ at*;simp only [d1] at*;grind
 ·have:=hf.h2 n hn;unfold bZ zZ at*;simp only [d2] at*;grind
 ·have:=hf.h3 n hn;unfold bZ zZ at*;simp only [d3] at*;grind
 ·have:=hf.h4 n hn;unfold bZ zZ at*;simp only [d4] at*;grind
def jscale (c:Rat) (x:Jet):Jet:=⟨c*x.b0,c*x.b1,c*x.b2,c*x.b3,c*x.b4⟩
theorem Has.scale {N:Nat} {f:Nat→Rat} {x:Jet} {c:Rat} (hc:0≤c) (hf:Has N f x):Has N (fun n=>c*f n) (jscale c x):=by
 refine ⟨fun n hn=>(hf.h0 n hn).scale hc,fun n hn=>((hf.h1 n hn).scale hc).eq ?_,fun n hn=>((hf.h2 n hn).scale hc).eq ?_,fun n hn=>((hf.h3 n hn).scale hc).eq ?_,fun n hn=>((hf.h4 n hn).scale hc).eq ?_⟩
 ·simp only [d1];grind
 ·simp only [d2];grind
 ·simp only [d3];grind
 ·simp only [d4];grind
def uU (c:Rat) (N:Nat):Jet:=⟨c*N,c,0,0,0⟩
theorem has_line {c:Rat} (hc:0≤c) (N:Nat):Has N (fun n=>c*(n:Rat)) (uU c N):=by
 refine ⟨fun n hn=>?_,fun n _=>?_,fun n _=>?_,fun n _=>?_,fun n _=>?_⟩
 ·have h1:(n:Rat)≤(N:Rat):=by exact_mod_cast hn
  have h2:=adQ h1 hc;have h3:0≤c*(n:Rat):=aaQ hc (by exact_mod_cast afX n);unfold bZ uU;grind
 ·refine bZ.eq (v:=c) ⟨by simp only [uU];grind,by simp only [uU];grind⟩ ?_;simp only [d1];push_cast;grind
 ·refine bZ.eq (v:=0) ⟨by simp only [uU];grind,by simp only [uU];grind⟩ ?_;simp only [d2];push_cast;grind
 ·refine bZ.eq (v:=0) ⟨by simp only [uU];grind,by simp only [uU];grind⟩ ?_;simp only [d3];push_cast;grind
 ·refine bZ.eq (v:=0) ⟨by simp only [uU];grind,by simp only [uU];grind⟩ ?_;simp only [d4];push_cast;grind
theorem dQ (a:Rat) (h:0≤a):0≤1/a:=by
 rw [Rat.div_def,Rat.one_mul];by_cases h0:a=0
 ·subst h0;simp
 ·have:0<a:=by grind
  have:=Rat.inv_pos.2 this;grind
def hR (odd:Nat) (Y:Rat):Nat→Rat→Rat
 | 0,h=>h
 | k+1,h=>hR odd Y k (1/(((2*k+1+odd)*(2*k+2+odd):Nat):Rat)*(Y*(1-h)))
def hJ (odd:Nat) (Y:Jet):Nat→Jet→Jet
 | 0,h=>h
 | k+1,h=>hJ odd Y k (jscale (1/(((2*k+1+odd)*(2*k+2+odd):Nat):Rat)) (jmul Y (zZ h)))
theorem has_h (odd N:Nat) (Y:Nat→Rat) (y:Jet) (hY:Has N Y y):∀(k:Nat) (h:Nat→Rat) (x:Jet),Has N h x→Has N (fun n=>hR odd (Y n) k (h n)) (hJ odd y k x)
 | 0,h,x,hh=>hh
 | k+1,h,x,hh=>has_h odd N Y y hY k _ _ ((hY.mul hh.less).scale (dQ _ (by exact_mod_cast afX _)))
def SQ:Rat:=248902613312231085230521944622/79228162514264337593543950336
def th:Rat:=SQ/10800000
def xR (n:Nat):Rat:=th*(n:Rat)
def tS (n:Nat):Rat:=xR n*(1-hR 1 (xR n*xR n) 10 0)
def tC (n:Nat):Rat:=1-hR 0 (xR n*xR n) 10 0
def NN:Nat:=2700100
def jx:Jet:=uU th NN
def jz:Jet:=⟨0,0,0,0,0⟩
def jS:Jet:=jmul jx (zZ (hJ 1 (jmul jx jx) 10 jz))
def jC:Jet:=zZ (hJ 0 (jmul jx jx) 10 jz)
theorem has_z (N:Nat):Has N (fun _=>0) jz:=by
 refine ⟨fun n _=>?_,fun n _=>?_,fun n _=>?_,fun n _=>?_,fun n _=>?_⟩<;>(simp only [d1,d2,d3,d4,jz,bZ];grind)
theorem XC:Has NN xR jx:=has_line (by unfold th SQ;grind) NN
theorem has_S:Has NN tS jS:=XC.mul (has_h 1 NN _ _ (XC.mul XC) 10 _ _ (has_z NN)).less
theorem has_C:Has NN tC jC:=(has_h 0 NN _ _ (XC.mul XC) 10 _ _ (has_z NN)).less
theorem jS4:77371252455336267181195264*jS.b4≤1:=by decide+kernel
theorem jC4:77371252455336267181195264*jC.b4≤1:=by decide+kernel
def S:Nat:=79228162514264337593543950336
def PI96:Nat:=248902613312231085230521944622
def hN (odd y:Nat) (k h:Nat):Nat:=azJ (motive:=fun _=>Nat→Nat) (fun h=>h) (fun k ih h=>ih (((y/((2*k+1+odd)*(2*k+2+odd)))*(S-h))/S)) k h
def xN (n:Nat):Nat:=n*PI96/10800000
def aS (n:Nat):Nat:=(xN n*(S-hN 1 ((xN n*xN n)/S) 10 0))/81129638414606681695789005144064
def aC (n:Nat):Nat:=(S-hN 0 ((xN n*xN n)/S) 10 0)/1024
theorem nS (a d:Nat) (hd:0<d):(d:Rat)*((a/d:Nat):Rat)≤(a:Rat)∧(a:Rat)≤(d:Rat)*((a/d:Nat):Rat)+(d:Rat):=by
 have h:=Nat.div_add_mod a d;have h2:=Nat.mod_lt a hd;have e:(a:Rat)=(d:Rat)*((a/d:Nat):Rat)+((a%d:Nat):Rat):=by exact_mod_cast h.symm
 have e0:(0:Rat)≤((a%d:Nat):Rat):=by exact_mod_cast afX _
 have e1:((a%d:Nat):Rat)≤(d:Rat):=by exact_mod_cast Nat.le_of_lt h2
 constructor<;>grind
theorem hN_succ (odd y k h:Nat):hN odd y (k+1) h=hN odd y k (((y/((2*k+1+odd)*(2*k+2+odd)))*(S-h))/S):=rfl
def SR:Rat:=79228162514264337593543950336
theorem tX:((S:Nat):Rat)=SR:=rfl
theorem lin_up {SR DS p1 p2 p3 p4 p5 X:Rat} (h32:32≤SR) (hDS:2*SR≤DS) (w1:-(7/10*SR*8)≤p1∧p1≤7/10*SR*8) (w2:-(4*SR)≤p2∧p2≤4*SR) (w3:-(4*8)≤p3∧p3≤4*8)
  (w4:-DS≤p4∧p4≤DS) (w5:0≤p5) (w6:p5≤DS) (key:X=-p1+p2-p3+p4+p5):DS*(-8)≤X∧X≤DS*8:=by
 constructor<;>grind
theorem step_bd {y q h h' d:Nat} {Y H D:Rat} (hd:2≤d) (hD:(d:Rat)=D) (hq:q=y/d) (hh':h'=q*(S-h)/S)
  (hY:0≤SR*Y-(y:Rat)∧SR*Y-(y:Rat)≤4) (hY1:Y≤7/10) (hhS:h≤S) (hH:bZ (SR*H-(h:Rat)) 8):
  h'≤S∧bZ (SR*(1/D*(Y*(1-H)))-(h':Rat)) 8:=by
 have hS0:(0:Rat)<SR:=by unfold SR;grind
 have hS32:(32:Rat)≤SR:=by unfold SR;grind
 have hDp:2≤D:=by rw [←hD];exact_mod_cast hd
 have k1:=nS y d (by omega);rw [←hq,hD] at k1;have k2:=nS (q*(S-h)) S (by decide);rw [←hh',tX] at k2;have ec:((q*(S-h):Nat):Rat)=(q:Rat)*(SR-(h:Rat)):=by
  rw [←tX];have:((S-h:Nat):Rat)=(S:Rat)-(h:Rat):=by
   have e:=atQ hhS;have e2:((S-h:Nat):Rat)+(h:Rat)=(S:Rat):=by exact_mod_cast e
   grind
  push_cast
  rw [this]
 rw [ec] at k2;have hr0:(0:Rat)≤(h:Rat):=by exact_mod_cast afX h
 have hrS:(h:Rat)≤SR:=by rw [←tX];exact_mod_cast hhS
 have yr0:(0:Rat)≤(y:Rat):=by exact_mod_cast afX y
 have qr0:(0:Rat)≤(q:Rat):=by exact_mod_cast afX q
 have hDi:D*(1/D*(Y*(1-H)))=Y*(1-H):=by
  have:D≠0:=by grind
  grind
 have hYS0:SR*Y≤SR*(7/10):=adQ hY1 (by grind);have hyS:y≤S:=by
  have:(y:Rat)≤(S:Rat):=by rw [tX];grind
  exact_mod_cast this
 have hqS:q≤S:=by rw [hq];exact Nat.le_trans (Nat.div_le_self _ _) hyS
 generalize hZ:1/D*(Y*(1-H))=Z at*;generalize (y:Rat)=yr at*;generalize (q:Rat)=qr at*;have hYS:SR*Y≤SR*(7/10):=adQ hY1 (by grind);have w1:bZ (yr*(SR*H-(h:Rat))) (7/10*SR*8):=bZ.mul ⟨by grind,by grind⟩ hH;have w2:bZ ((SR*Y-yr)*(SR-(h:Rat))) (4*SR):=bZ.mul ⟨by grind,by grind⟩ ⟨by grind,by grind⟩;have w3:bZ ((SR*Y-yr)*(SR*H-(h:Rat))) (4*8):=bZ.mul ⟨by grind,by grind⟩ hH;have w4:bZ ((yr-D*qr)*(SR-(h:Rat))) (D*SR):=bZ.mul ⟨by grind,by grind⟩ ⟨by grind,by grind⟩;have w5:0≤D*(qr*(SR-(h:Rat))-SR*(h':Rat)):=aaQ (by grind) (by grind);have w6:D*(qr*(SR-(h:Rat))-SR*(h':Rat))≤D*SR:=adQ (by grind) (by grind);have key:D*SR*(SR*Z-(h':Rat))=-(yr*(SR*H-(h:Rat)))+(SR*Y-yr)*(SR-(h:Rat))-(SR*Y-yr)*(SR*H-(h:Rat))+(yr-D*qr)*(SR-(h:Rat))+D*(qr*(SR-(h:Rat))-SR*(h':Rat)):=by
  have:D*SR*(SR*Z)=SR*SR*(D*Z):=by grind
  have e2:D*SR*(SR*Z-(h':Rat))=SR*SR*(D*Z)-D*SR*(h':Rat):=by grind
  rw [e2,hDi];grind
 have hDS:2*SR≤D*SR:=by
  have:=adQ hDp (show 0≤SR by grind);grind
 have hDS0:0<D*SR:=by grind
 obtain ⟨lo,up⟩:=lin_up hS32 hDS w1 w2 w3 w4 w5 w6 key;refine ⟨?_,?_,?_⟩
 ·have:h'≤S:=by
   rw [hh'];apply Nat.div_le_of_le_mul;exact aiX hqS (Nat.sub_le _ _)
  exact this
 ·exact aoZ lo hDS0
 ·exact aoZ up hDS0
theorem hN_bd (odd y:Nat) (Y:Rat) (hY:0≤SR*Y-(y:Rat)∧SR*Y-(y:Rat)≤4) (hY1:Y≤7/10):
  ∀(k h:Nat) (H:Rat),h≤S→bZ (SR*H-(h:Rat)) 8→hN odd y k h≤S∧bZ (SR*hR odd Y k H-(hN odd y k h:Rat)) 8
 | 0,h,H,h1,h2=>⟨h1,h2⟩
 | k+1,h,H,h1,h2=>by
  have hd:2≤(2*k+1+odd)*(2*k+2+odd):=by
   have:1*2≤(2*k+1+odd)*(2*k+2+odd):=aiX (by omega) (by omega);omega
  obtain ⟨i1,i2⟩:=step_bd hd rfl rfl rfl hY hY1 h1 h2;rw [hN_succ];exact hN_bd odd y Y hY hY1 k _ _ i1 i2
theorem xN_bd (n:Nat):0≤SR*xR n-(xN n:Rat)∧SR*xR n-(xN n:Rat)≤1:=by
 have h:=nS (n*PI96) 10800000 (by decide);have e:SR*xR n=(n:Rat)*248902613312231085230521944622/10800000:=by
  unfold SR xR th SQ;grind
 have e2:((n*PI96:Nat):Rat)=(n:Rat)*248902613312231085230521944622:=by
  have:(PI96:Rat)=248902613312231085230521944622:=rfl;rw [←this];push_cast;rfl
 rw [e2] at h;unfold xN;rw [e];have h3:(((10800000:Nat):Rat))=10800000:=rfl;rw [h3] at h;constructor<;>grind
theorem tL (n:Nat) (hn:n≤2700100):0≤xR n∧xR n≤4/5:=by
 have h0:(0:Rat)≤(n:Rat):=by exact_mod_cast afX n
 have h1:(n:Rat)≤2700100:=by exact_mod_cast hn
 unfold xR th SQ;constructor<;>grind
theorem yN_bd (n:Nat) (hn:n≤2700100):(0≤SR*(xR n*xR n)-((xN n*xN n/S:Nat):Rat)∧SR*(xR n*xR n)-((xN n*xN n/S:Nat):Rat)≤4)∧xR n*xR n≤7/10:=by
 have hx:=xN_bd n;have hr:=tL n hn;have hd:=nS (xN n*xN n) S (by decide);rw [tX] at hd;have ec:((xN n*xN n:Nat):Rat)=(xN n:Rat)*(xN n:Rat):=by push_cast;rfl
 rw [ec] at hd;have hS32:(32:Rat)≤SR:=by unfold SR;grind
 have x0:(0:Rat)≤(xN n:Rat):=by exact_mod_cast afX _
 generalize ((xN n*xN n/S:Nat):Rat)=y at*;generalize (xN n:Rat)=X at*;generalize xR n=r at*;have p1:0≤(SR*r-X)*(SR*r+X):=aaQ (by grind) (by grind);have hSr:SR*r≤SR*(4/5):=adQ hr.2 (by grind);have p2:0≤(1-(SR*r-X))*(SR*r+X):=aaQ (by grind) (by grind);have key:SR*(SR*(r*r))=(SR*r-X)*(SR*r+X)+X*X:=by grind
 have sr2:r*r≤7/10:=by
  have q1:0≤(4/5-r)*(4/5+r):=aaQ (by grind) (by grind);grind
 have hSp:(0:Rat)<SR:=by grind
 refine ⟨⟨?_,?_⟩,sr2⟩
 ·have:SR*y≤SR*(SR*(r*r)):=by grind
  have:=aoZ this hSp;grind
 ·have e3:SR*(SR*(r*r))≤SR*(y+4):=by
   have:(1-(SR*r-X))*(SR*r+X)=(SR*r+X)-(SR*r-X)*(SR*r+X):=by grind
   grind
  have:=aoZ e3 hSp;grind
def iH:Rat:=77371252455336267181195264
theorem MN (n:Nat) (hn:n≤2700100):bZ (iH*tC n-(aC n:Rat)) 2:=by
 obtain ⟨h1,h2⟩:=yN_bd n hn;obtain ⟨i1,i2⟩:=hN_bd 0 (xN n*xN n/S) _ h1 h2 10 0 0 (afX _) ⟨by grind,by grind⟩;unfold tC aC;generalize hN 0 (xN n*xN n/S) 10 0=h at*;generalize hR 0 (xR n*xR n) 10 0=H at*;have hd:=nS (S-h) 1024 (by decide);have ec:((S-h:Nat):Rat)=SR-(h:Rat):=by
  have e:=atQ i1;have e2:((S-h:Nat):Rat)+(h:Rat)=(S:Rat):=by exact_mod_cast e
  rw [tX] at e2;grind
 rw [ec] at hd;have h3:(((1024:Nat):Rat))=1024:=rfl;rw [h3] at hd;have eG:SR=1024*iH:=by unfold SR iH;grind
 unfold bZ at*;rw [eG] at i2 hd;constructor<;>grind
theorem CY (n:Nat) (hn:n≤2700100):bZ (iH*tS n-(aS n:Rat)) 2:=by
 obtain ⟨h1,h2⟩:=yN_bd n hn;obtain ⟨i1,i2⟩:=hN_bd 1 (xN n*xN n/S) _ h1 h2 10 0 0 (afX _) ⟨by grind,by grind⟩;have hx:=xN_bd n;have hr:=tL n hn;unfold tS aS;generalize hN 1 (xN n*xN n/S) 10 0=h at*;generalize hR 1 (xR n*xR n) 10 0=H at*;have hd:=nS (xN n*(S-h)) 81129638414606681695789005144064 (by decide);have ec:((xN n*(S-h):Nat):Rat)=(xN n:Rat)*(SR-(h:Rat)):=by
  have e:=atQ i1;have e2:((S-h:Nat):Rat)+(h:Rat)=(S:Rat):=by exact_mod_cast e
  rw [tX] at e2;push_cast
  have:((S-h:Nat):Rat)=SR-(h:Rat):=by grind
  rw [this]
 rw [ec] at hd;have h3:(((81129638414606681695789005144064:Nat):Rat))=1024*SR:=by
  have:((81129638414606681695789005144064:Nat):Rat)=81129638414606681695789005144064:=rfl;rw [this];unfold SR;grind
 rw [h3] at hd;have hr0:(0:Rat)≤(h:Rat):=by exact_mod_cast afX h
 have hrS:(h:Rat)≤SR:=by rw [←tX];exact_mod_cast i1
 have x0:(0:Rat)≤(xN n:Rat):=by exact_mod_cast afX _
 have hS32:(32:Rat)≤SR:=by unfold SR;grind
 have eG:SR=1024*iH:=by unfold SR iH;grind
 generalize ((xN n*(S-h)/81129638414606681695789005144064:Nat):Rat)=a at*;generalize (xN n:Rat)=X at*;generalize xR n=r at*;generalize (h:Rat)=hh at*;have hSr:SR*r≤SR*(4/5):=adQ hr.2 (by grind);have w1:bZ ((SR*r-X)*(SR-hh)) (1*SR):=bZ.mul ⟨by grind,by grind⟩ ⟨by grind,by grind⟩;have w2:bZ ((SR*r)*(SR*H-hh)) (SR*(4/5)*8):=bZ.mul ⟨by grind,by grind⟩ i2;have key:SR*(SR*(r*(1-H)))=X*(SR-hh)+(SR*r-X)*(SR-hh)-(SR*r)*(SR*H-hh):=by grind
 have key2:SR*(1024*(iH*(r*(1-H))))=SR*(SR*(r*(1-H))):=by rw [←Rat.mul_assoc 1024,←eG]
 rw [key] at key2;have hSp:(0:Rat)<SR*1024:=by grind
 generalize iH*(r*(1-H))=g at*;generalize X*(SR-hh)=P at*;generalize (SR*r-X)*(SR-hh)=P1 at*;generalize (SR*r)*(SR*H-hh)=P2 at*;unfold bZ at*;constructor
 ·have:(SR*1024)*(-2)≤(SR*1024)*(g-a):=by grind
  exact aoZ this hSp
 ·have:(SR*1024)*(g-a)≤(SR*1024)*2:=by grind
  exact aoZ this hSp
def dL (f:Nat→Nat) (m:Nat):Nat:=azJ (motive:=fun _=>Nat) 0 (fun i acc=>acc+f i*2^(96*i)) m
theorem gW (f:Nat→Nat):dL f 0=0:=rfl
theorem cT (f:Nat→Nat) (m:Nat):dL f (m+1)=dL f m+f m*2^(96*m):=rfl
theorem pB (f:Nat→Nat):∀m,(∀i,i<m→f i<2^96)→dL f m<2^(96*m)
 | 0,_=>by rw [gW];simp
 | m+1,h=>by
  have ih:=pB f m (fun i hi=>h i (by omega));have hm:=h m (by omega);rw [cT,show 96*(m+1)=96+96*m by omega,Nat.pow_add];have:(f m+1)*2^(96*m)≤2^96*2^(96*m):=Nat.mul_le_mul_right _ hm;rw [asQ] at this;omega
theorem yN (k a b x y:Nat) (ha:a<2^k) (hb:b<2^k):(a+x*2^k)&&& (b+y*2^k)=(a&&& b)+(x&&& y)*2^k:=by
 have e:∀u z:Nat,u+z*2^k=2^k*z+u:=fun u z=>by rw [Nat.mul_comm,Nat.add_comm]
 have hab:a&&& b<2^k:=Nat.and_lt_two_pow _ hb;rw [e,e,e];apply Nat.eq_of_testBit_eq;intro j;rw [Nat.testBit_and,amJ _ ha,amJ _ hb,amJ _ hab];split<;>simp
theorem kO (f g:Nat→Nat):∀m,(∀i,i<m→f i<2^96)→(∀i,i<m→g i<2^96)→dL f m&&& dL g m=dL (fun i=>f i&&& g i) m
 | 0,_,_=>by rw [gW,gW,gW];rfl
 | m+1,hf,hg=>by
  rw [cT,cT,cT,yN _ _ _ _ _ (pB f m fun i hi=>hf i (by omega)) (pB g m fun i hi=>hg i (by omega)),kO f g m (fun i hi=>hf i (by omega)) (fun i hi=>hg i (by omega))]
theorem sE (f g:Nat→Nat):∀m,(∀i,i<m→f i<2^96)→(∀i,i<m→g i<2^96)→dL f m=dL g m→∀i,i<m→f i=g i
 | 0,_,_,_,i,hi=>by omega
 | m+1,hf,hg,h,i,hi=>by
  have h1:=pB f m fun i hi=>hf i (by omega);have h2:=pB g m fun i hi=>hg i (by omega);rw [cT,cT] at h;have hp:0<2^(96*m):=Nat.two_pow_pos _;have e1:f m=g m:=by
   have a1:(dL f m+f m*2^(96*m))/2^(96*m)=f m:=by
    rw [Nat.add_mul_div_right _ _ hp,Nat.div_eq_of_lt h1,apX]
   have a2:(dL g m+g m*2^(96*m))/2^(96*m)=g m:=by
    rw [Nat.add_mul_div_right _ _ hp,Nat.div_eq_of_lt h2,apX]
   rw [←a1,h,a2]
  rw [e1] at h;rcases adZ i m with hlt | hge
  ·exact sE f g m (fun i hi=>hf i (by omega)) (fun i hi=>hg i (by omega)) (by omega) i hlt
  ·have:i=m:=by omega
   rw [this];exact e1
theorem nG (f g:Nat→Nat):∀m,dL f m+dL g m=dL (fun i=>f i+g i) m
 | 0=>rfl
 | m+1=>by rw [cT,cT,cT,←nG f g m,asQ];omega
theorem iC (c:Nat) (f:Nat→Nat):∀m,c*dL f m=dL (fun i=>c*f i) m
 | 0=>rfl
 | m+1=>by rw [cT,cT,←iC c f m,Nat.mul_add,Nat.mul_assoc]
def pk (f:Nat→Int) (m:Nat):Int:=azJ (motive:=fun _=>Int) 0 (fun i acc=>acc+f i*(2:Int)^(96*i)) m
theorem pk_zero (f:Nat→Int):pk f 0=0:=rfl
theorem mD (f:Nat→Int) (m:Nat):pk f (m+1)=pk f m+f m*(2:Int)^(96*m):=rfl
theorem yQ (f g:Nat→Int):∀m,pk f m+pk g m=pk (fun i=>f i+g i) m
 | 0=>rfl
 | m+1=>by rw [mD,mD,mD,←yQ f g m];grind
theorem CF (c:Int) (f:Nat→Int):∀m,c*pk f m=pk (fun i=>c*f i) m
 | 0=>by rw [pk_zero,pk_zero,Int.mul_zero]
 | m+1=>by rw [mD,mD,←CF c f m];grind
theorem SU (f:Nat→Nat):∀m,pk (fun i=>(f i:Int)) m=(dL f m:Int)
 | 0=>rfl
 | m+1=>by rw [mD,cT,SU f m];push_cast;rfl
theorem ZA (f g:Nat→Int):∀m,(∀i,i<m→f i=g i)→pk f m=pk g m
 | 0,_=>rfl
 | m+1,h=>by rw [mD,mD,ZA f g m (fun i hi=>h i (by omega)),h m (by omega)]
theorem ZB (f:Nat→Int) (m:Nat) (h:∀i,i<m→0≤f i):(pk f m).toNat=dL (fun i=>(f i).toNat) m:=by
 have:pk f m=pk (fun i=>(((f i).toNat:Nat):Int)) m:=ZA _ _ m (fun i hi=>by have:=h i hi;omega);rw [this,SU];rfl
def okV (r P w:Nat):Bool:=agJ (arQ ((arQ (P+w*r) ((2^56-1)*r))+(2^56-2*w)*r) (2^56*r)) (2^56*r)
def okD (r D:Nat):Bool:=agJ (arQ D (2^95*r)) (2^95*r)
theorem DG {x b:Nat} (h:x&&& 2^b=2^b):2^b≤x:=by
 have:x&&& 2^b≤x:=Nat.and_le_left;omega
theorem okV_lane {m w:Nat} {v:Nat→Nat} (hv:∀i,i<m→v i<2^95) (hw:2*w≤2^56) (h:okV (dL (fun _=>1) m) (dL v m) w=true):∀i,i<m→2*w≤(v i+w)%2^56:=by
 intro i hi;have hw2:w<2^56:=by omega
 have h':=adX h;have c56:(2:Nat)^56<2^96:=by decide
 have c95:(2:Nat)^95+2^56<2^96:=by decide
 have c57:(2:Nat)^56+2^56<2^96:=by decide
 rw [iC,iC,iC,iC,nG] at h';have e1:=kO (fun i=>v i+w*1) (fun _=>(2^56-1)*1) m (fun i hi=>by have:=hv i hi;omega) (fun i _=>by omega);change arQ (arQ _ _+_) _=_ at h';rw [show arQ (dL (fun i=>v i+w*1) m) (dL (fun _=>(2^56-1)*1) m)=dL (fun i=>v i+w*1) m&&& dL (fun _=>(2^56-1)*1) m from rfl,e1,nG] at h';have lt2:∀i,i<m→(v i+w*1&&& (2^56-1)*1)<2^56:=fun i _=>by rw [Nat.mul_one (2^56-1),Nat.and_two_pow_sub_one_eq_mod];exact Nat.mod_lt _ (by decide)
 have e2:=kO (fun i=>(v i+w*1&&& (2^56-1)*1)+(2^56-2*w)*1) (fun _=>2^56*1) m (fun i hi=>by have:=lt2 i hi;omega) (fun i _=>by omega);rw [show arQ (dL (fun i=>(v i+w*1&&& (2^56-1)*1)+(2^56-2*w)*1) m) (dL (fun _=>2^56*1) m)=dL (fun i=>(v i+w*1&&& (2^56-1)*1)+(2^56-2*w)*1) m&&& dL (fun _=>2^56*1) m from rfl,e2] at h';have h3:=sE _ _ m (fun i hi=>by
  show (_&&& 2^56*1)<2^96;exact Nat.lt_of_le_of_lt Nat.and_le_right (by omega)) (fun i _=>by omega) h' i hi
 rw [Nat.mul_one (2^56)] at h3;have h4:=DG h3;rw [Nat.mul_one (2^56-1),Nat.and_two_pow_sub_one_eq_mod,Nat.mul_one,Nat.mul_one] at h4;omega
theorem okD_lane {m:Nat} {d:Nat→Nat} (hd:∀i,i<m→d i<2^96) (h:okD (dL (fun _=>1) m) (dL d m)=true):∀i,i<m→2^95≤d i:=by
 intro i hi;have h':=adX h;rw [iC] at h';have e1:=kO d (fun _=>2^95*1) m hd (fun i _=>by decide);rw [show arQ (dL d m) (dL (fun _=>2^95*1) m)=dL d m&&& dL (fun _=>2^95*1) m from rfl,e1] at h';have h3:=sE _ _ m (fun i hi=>Nat.lt_of_le_of_lt Nat.and_le_right (by decide)) (fun i _=>by decide) h' i hi;rw [Nat.mul_one (2^95)] at h3;exact DG h3
def E0 (t:Nat×Nat×Nat×Nat):Nat×Nat×Nat×Nat:=(t.1+t.2.1,t.2.1+t.2.2.1,t.2.2.1+t.2.2.2,t.2.2.2+1)
def MRG:Nat:=1099511627776
def run (r w:Nat) (σ:Int) (k:Nat):Int→Int→Int→Int→Bool:=azJ (motive:=fun _=>Int→Int→Int→Int→Bool) (fun _ _ _ _=>true)
 (fun _ ih v a b c=>(okV r v.toNat w&&okD r (σ*a+(2^95-1099511627776:Nat)*r).toNat)&&ih (v+a) (a+b) (b+c) c) k
def Fine (w:Nat) (σ:Int) (T:Nat→Rat) (n:Nat) (e0 e1:Nat):Prop:=
 (∃f:Nat,((f*2^56+w:Nat):Rat)≤iH*T n+(e0:Rat)∧iH*T n≤(((f+1)*2^56:Nat):Rat)-(w:Rat)+(e0:Rat))∧(MRG:Rat)≤(σ:Rat)*(iH*d1 T n)+(e1:Rat)
structure Near (T:Nat→Rat) (n:Nat) (v a b c:Int) (e:Nat×Nat×Nat×Nat):Prop where
 n0:bZ (iH*T n-(v:Rat)) e.1
 n1:bZ (iH*d1 T n-(a:Rat)) e.2.1
 n2:bZ (iH*d2 T n-(b:Rat)) e.2.2.1
 n3:bZ (iH*d3 T n-(c:Rat)) e.2.2.2
theorem Near.step {N:Nat} {T:Nat→Rat} {j:Jet} (hj:Has N T j) (h4:iH*j.b4≤1) {n:Nat} (hn:n+4≤N) {v a b c:Int} {e:Nat×Nat×Nat×Nat} (h:Near T n v a b c e):Near T (n+1) (v+a) (a+b) (b+c) c (E0 e):=by
 obtain ⟨q0,q1,q2,q3⟩:=h;have q4:=(hj.h4 n hn).scale (c:=iH) (by unfold iH;grind);have e1:T (n+1)=T n+d1 T n:=by unfold d1;grind
 refine ⟨?_,?_,?_,?_⟩
 ·rw [e1];unfold bZ E0 at*;push_cast;generalize iH=g at*;constructor<;>grind
 ·rw [d1_step];unfold bZ E0 at*;push_cast;generalize iH=g at*;constructor<;>grind
 ·rw [d2_step];unfold bZ E0 at*;push_cast;generalize iH=g at*;constructor<;>grind
 ·rw [d3_step];unfold bZ E0 at*;push_cast;generalize iH=g at*;constructor<;>grind
def allE (B:Nat):Nat→Nat×Nat×Nat×Nat→Bool
 | 0,_=>true
 | k+1,e=>aiZ e.1 B&&aiZ e.2.1 B&&allE B k (E0 e)
theorem run_ok {N m w B:Nat} {σ:Int} {T:Nat→Rat} {j:Jet} (n0:Nat→Nat) (hσ:σ=1∨σ=-1) (hj:Has N T j) (h4:iH*j.b4≤1) (hw:2*w≤2^56) (hB:B≤2^40)
  (hT0:∀n,1≤n→n≤N→(2^41:Nat)≤iH*T n∧iH*T n≤(2^90:Nat)) (hT1:∀n,n+1≤N→bZ (iH*d1 T n) (2^90:Nat)):
  ∀(k t:Nat) (v a b c:Nat→Int) (e:Nat×Nat×Nat×Nat),1≤t→(∀i,i<m→n0 i+t+k+4≤N)→allE B k e=true→(∀i,i<m→Near T (n0 i+t) (v i) (a i) (b i) (c i) e)→
   run (dL (fun _=>1) m) w σ k (pk v m) (pk a m) (pk b m) (pk c m)=true→∀s,s<k→∀i,i<m→Fine w σ T (n0 i+(t+s)) B B
 | 0,_,_,_,_,_,_,_,_,_,_,_,s,hs,_,_=>by omega
 | k+1,t,v,a,b,c,e,ht,hN,hE,hnear,hrun,s,hs,i,hi=>by
  have hE':=hE;simp only [allE,Bool.and_eq_true,Nat.ble_eq] at hE';obtain ⟨⟨hE0,hE1⟩,hE2⟩:=hE';have hrun':((okV (dL (fun _=>1) m) (pk v m).toNat w&&okD (dL (fun _=>1) m) (σ*pk a m+(2^95-1099511627776:Nat)*(dL (fun _=>1) m:Nat)).toNat)&&run (dL (fun _=>1) m) w σ k (pk v m+pk a m) (pk a m+pk b m) (pk b m+pk c m) (pk c m))=true:=hrun;simp only [Bool.and_eq_true] at hrun';obtain ⟨⟨hV,hD⟩,hR⟩:=hrun';rw [yQ,yQ,yQ] at hR;rcases alX s with hs0 | hs0
  ·subst hs0;rw [Nat.add_zero];have hni:=hN i hi;have vb:∀i,i<m→0≤v i∧v i<2^95:=by
    intro i hi;have h1:=(hnear i hi).n0;obtain ⟨h2,h3⟩:=hT0 (n0 i+t) (by omega) (by have:=hN i hi;omega);have h4:((e.1:Nat):Rat)≤((2^40:Nat):Rat):=by exact_mod_cast (show e.1≤2^40 by omega)
    unfold bZ at h1;have l1:((0:Int):Rat)≤(v i:Rat):=by
     generalize iH*T (n0 i+t)=g at*;have c1:((2^41:Nat):Rat)=2199023255552:=rfl;have c2:((2^40:Nat):Rat)=1099511627776:=rfl;rw [c1] at h2;rw [c2] at h4;have:((0:Int):Rat)=0:=rfl;grind
    have l2:(v i:Rat)<((2^95:Int):Rat):=by
     generalize iH*T (n0 i+t)=g at*;have c1:((2^90:Nat):Rat)=1237940039285380274899124224:=rfl;have c2:((2^40:Nat):Rat)=1099511627776:=rfl;have c3:((2^95:Int):Rat)=39614081257132168796771975168:=rfl;rw [c1] at h3;rw [c2] at h4;rw [c3];grind
    exact ⟨by exact_mod_cast l1,by exact_mod_cast l2⟩
   have ab:∀i,i<m→-(2^91)≤a i∧a i≤2^91:=by
    intro i hi;have h1:=(hnear i hi).n1;have h2:=hT1 (n0 i+t) (by have:=hN i hi;omega);have h4:((e.2.1:Nat):Rat)≤((2^40:Nat):Rat):=by exact_mod_cast (show e.2.1≤2^40 by omega)
    unfold bZ at h1 h2;have c1:((2^90:Nat):Rat)=1237940039285380274899124224:=rfl;have c2:((2^40:Nat):Rat)=1099511627776:=rfl;have c3:((2^91:Int):Rat)=2475880078570760549798248448:=rfl;have c4:((-(2^91):Int):Rat)=-2475880078570760549798248448:=rfl;generalize iH*d1 T (n0 i+t)=g at*;rw [c1] at h2;rw [c2] at h4;have l1:((-(2^91):Int):Rat)≤(a i:Rat):=by rw [c4];grind
    have l2:(a i:Rat)≤((2^91:Int):Rat):=by rw [c3];grind
    exact ⟨by exact_mod_cast l1,by exact_mod_cast l2⟩
   have hn:=hnear i hi;rw [ZB v m (fun i hi=>(vb i hi).1)] at hV;have hVl:=okV_lane (fun i hi=>by have:=vb i hi;omega) hw hV i hi;have eD:σ*pk a m+(2^95-1099511627776:Nat)*(dL (fun _=>1) m:Nat)=pk (fun i=>σ*a i+(2^95-1099511627776:Nat)*1) m:=by
    rw [show ((dL (fun _=>1) m:Nat):Int)=pk (fun _=>1) m from (SU (fun _=>1) m).symm,CF,CF,yQ]
   rw [eD,ZB _ m (fun i hi=>by have:=ab i hi;rcases hσ with rfl | rfl<;>omega)] at hD;have hDl:=okD_lane (fun i hi=>by have:=ab i hi;rcases hσ with rfl | rfl<;>omega) hD i hi;have hvi:=vb i hi;have hai:=ab i hi;refine ⟨⟨((v i).toNat+w)/2^56,?_⟩,?_⟩
   ·have hdm:=Nat.div_add_mod ((v i).toNat+w) (2^56);have hml:=Nat.mod_lt ((v i).toNat+w) (show 0<2^56 by decide);generalize ((v i).toNat+w)/2^56=f at*;have u1:f*2^56+w≤(v i).toNat:=by omega
    have u2:(v i).toNat+w≤(f+1)*2^56:=by omega
    have u3:(((v i).toNat:Nat):Rat)=(v i:Rat):=by
     have:(((v i).toNat:Nat):Int)=v i:=by omega
     exact_mod_cast this
    have r1:((f*2^56+w:Nat):Rat)≤(((v i).toNat:Nat):Rat):=by exact_mod_cast u1
    have r2:(((v i).toNat+w:Nat):Rat)≤(((f+1)*2^56:Nat):Rat):=by exact_mod_cast u2
    have r2':(((v i).toNat:Nat):Rat)+(w:Rat)≤(((f+1)*2^56:Nat):Rat):=by
     have:(((v i).toNat+w:Nat):Rat)=(((v i).toNat:Nat):Rat)+(w:Rat):=by push_cast;rfl
     rw [←this];exact r2
    rw [u3] at r1 r2';have hb:((e.1:Nat):Rat)≤(B:Rat):=by exact_mod_cast hE0
    have h1:=hn.n0;unfold bZ at h1;generalize iH*T (n0 i+t)=g at*;generalize ((f*2^56+w:Nat):Rat)=x1 at*;generalize (((f+1)*2^56:Nat):Rat)=x2 at*;constructor<;>grind
   ·have h1:=hn.n1;have hb:((e.2.1:Nat):Rat)≤(B:Rat):=by exact_mod_cast hE1
    unfold bZ at h1;generalize iH*d1 T (n0 i+t)=g at*;have hm:(MRG:Int)≤σ*a i:=by unfold MRG;omega
    have hmr:((MRG:Int):Rat)≤((σ*a i:Int):Rat):=by exact_mod_cast hm
    have hmr':(MRG:Rat)≤(σ:Rat)*(a i:Rat):=by
     have e1:((σ*a i:Int):Rat)=(σ:Rat)*(a i:Rat):=by push_cast;rfl
     rw [←e1];exact hmr
    rcases hσ with rfl | rfl
    ·have:((1:Int):Rat)=1:=rfl;rw [this] at hmr' ⊢;grind
    ·have:((-1:Int):Rat)=-1:=rfl;rw [this] at hmr' ⊢;grind
  ·have:=run_ok n0 hσ hj h4 hw hB hT0 hT1 k (t+1) _ _ _ _ (E0 e) (by omega) (fun i hi=>by have:=hN i hi;omega) hE2
    (fun i hi=>by rw [←Nat.add_assoc];exact (hnear i hi).step hj h4 (by have:=hN i hi;omega)) hR (s-1) (by omega) i hi
   rwa [show t+1+(s-1)=t+s by omega] at this
end SM
namespace SM
theorem KA (f g:Nat→Int):∀m,pk (fun i=>f i-g i) m=pk f m-pk g m
 | 0=>rfl
 | m+1=>by rw [mD,mD,mD,KA f g m];grind
def uW (A:Nat→Nat) (j:Nat):Int:=(dL (fun i=>A (450*i+j)) 6000:Nat)
def WW:Nat:=20132659200
def start (A:Nat→Nat) (σ:Int):Bool:=
 run (dL (fun _=>1) 6000) WW σ 449 (uW A 1) (uW A 2-uW A 1) (uW A 3-2*uW A 2+uW A 1) (uW A 4-3*uW A 3+3*uW A 2-uW A 1)
theorem startS:start aS 1=true:=by decide+kernel
theorem startC:start aC (-1)=true:=by decide+kernel
def fst1 (A:Nat→Nat) (σ:Int) (ex:Bool) (i:Nat):Bool:=(ex||(aiZ (2*WW) ((A (450*i)+WW)%2^56)))&&decide (1099511627776≤σ*((A (450*i+1):Int)-A (450*i)))
def blk (A:Nat→Nat) (σ:Int) (ex:Nat→Bool) (m:Nat):Bool:=azJ (motive:=fun _=>Bool) true (fun i acc=>fst1 A σ (ex i) i&&acc) m
theorem firstS:blk aS 1 (fun i=>agJ i 0||agJ i 4000) 6000=true:=by decide+kernel
theorem firstC:blk aC (-1) (fun i=>agJ i 0) 6000=true:=by decide+kernel
theorem blk_at {A:Nat→Nat} {σ:Int} {ex:Nat→Bool}:∀{m:Nat},blk A σ ex m=true→∀i,i<m→fst1 A σ (ex i) i=true
 | 0,_,i,hi=>by omega
 | m+1,h,i,hi=>by
  have h':(fst1 A σ (ex m) m&&blk A σ ex m)=true:=h;simp only [Bool.and_eq_true] at h';rcases adZ i m with hlt | hge
  ·exact blk_at h'.2 i hlt
  ·have:i=m:=by omega
   rw [this];exact h'.1
def BB:Nat:=2147483648
theorem near_start {A:Nat→Nat} {T:Nat→Rat} (hA:∀n,n≤2700100→bZ (iH*T n-(A n:Rat)) 2) (n:Nat) (hn:n+3≤2700100):
  Near T n (A n) ((A (n+1):Int)-A n) ((A (n+2):Int)-2*A (n+1)+A n) ((A (n+3):Int)-3*A (n+2)+3*A (n+1)-A n) (2,4,8,16):=by
 have h0:=hA n (by omega);have h1:=hA (n+1) (by omega);have h2:=hA (n+2) (by omega);have h3:=hA (n+3) (by omega);unfold bZ at*;refine ⟨?_,?_,?_,?_⟩
 ·show bZ _ ((2:Nat):Rat);unfold bZ;push_cast;generalize iH=g at*;constructor<;>grind
 ·show bZ _ ((4:Nat):Rat);unfold bZ d1;push_cast;generalize iH=g at*;constructor<;>grind
 ·show bZ _ ((8:Nat):Rat);unfold bZ d2;push_cast;generalize iH=g at*;constructor<;>grind
 ·show bZ _ ((16:Nat):Rat);unfold bZ d3;push_cast;generalize iH=g at*;constructor<;>grind
theorem errs:allE BB 449 (2,4,8,16)=true:=by decide+kernel
theorem zR {A:Nat→Nat} {T:Nat→Rat} {j:Jet} {σ:Int} {ex:Nat→Bool} (hσ:σ=1∨σ=-1) (hj:Has NN T j) (h4:iH*j.b4≤1) (hA:∀n,n≤2700100→bZ (iH*T n-(A n:Rat)) 2)
  (hT0:∀n,1≤n→n≤NN→(2^41:Nat)≤iH*T n∧iH*T n≤(2^90:Nat)) (hT1:∀n,n+1≤NN→bZ (iH*d1 T n) (2^90:Nat))
  (hs:start A σ=true) (hf:blk A σ ex 6000=true) (n:Nat) (hn:n<2700000):((n%450=0∧ex (n/450)=true)∨∃f:Nat,((f*2^56+WW:Nat):Rat)≤iH*T n+(BB:Rat)∧iH*T n≤(((f+1)*2^56:Nat):Rat)-(WW:Rat)+(BB:Rat))∧
   (1099511627776:Rat)≤(σ:Rat)*(iH*d1 T n)+(BB:Rat):=by
 have hi:n/450<6000:=by omega
 have hdm:=Nat.div_add_mod n 450;rcases alX (n%450) with h0 | h0
 ·have hfi:=blk_at hf (n/450) hi;have en:450*(n/450)=n:=by omega
  unfold fst1 at hfi;rw [en] at hfi;simp only [Bool.and_eq_true,Bool.or_eq_true,Nat.ble_eq,decide_eq_true_eq] at hfi;obtain ⟨hw,hd⟩:=hfi;have hn0:=hA n (by omega);have hn1:=hA (n+1) (by omega);refine ⟨?_,?_⟩
  ·rcases hw with hw | hw
   ·exact .inl ⟨h0,hw⟩
   ·right;refine ⟨(A n+WW)/2^56,?_⟩;have hdm:=Nat.div_add_mod (A n+WW) (2^56);have hml:=Nat.mod_lt (A n+WW) (show 0<2^56 by decide);generalize (A n+WW)/2^56=f at*;have u1:f*2^56+WW≤A n:=by omega
    have u2:A n+WW≤(f+1)*2^56:=by omega
    have r1:((f*2^56+WW:Nat):Rat)≤(A n:Rat):=by exact_mod_cast u1
    have r2:((A n+WW:Nat):Rat)≤(((f+1)*2^56:Nat):Rat):=by exact_mod_cast u2
    have r2':(A n:Rat)+(WW:Rat)≤(((f+1)*2^56:Nat):Rat):=by
     have:((A n+WW:Nat):Rat)=(A n:Rat)+(WW:Rat):=ahZ _ _;rw [←this];exact r2
    have cB:(BB:Rat)=2147483648:=rfl;rw [cB];unfold bZ at hn0;generalize ((f*2^56+WW:Nat):Rat)=x1 at*;generalize (((f+1)*2^56:Nat):Rat)=x2 at*;generalize (WW:Rat)=ww at*;constructor<;>grind
  ·have hdr:((1099511627776:Int):Rat)≤((σ*((A (n+1):Int)-A n):Int):Rat):=Rat.intCast_le_intCast.2 hd;have c1:((1099511627776:Int):Rat)=1099511627776:=rfl;have cB:(BB:Rat)=2147483648:=rfl;rw [c1] at hdr;rw [cB];unfold bZ d1 at*;rcases hσ with rfl | rfl
   ·have e1:((1:Int):Rat)=1:=rfl;rw [e1];push_cast at hdr;generalize iH=g at*;grind
   ·have e1:((-1:Int):Rat)=-1:=rfl;rw [e1];push_cast at hdr;generalize iH=g at*;grind
 ·have hrun:run (dL (fun _=>1) 6000) WW σ 449 (pk (fun i=>(A (450*i+1):Int)) 6000) (pk (fun i=>(A (450*i+1+1):Int)-A (450*i+1)) 6000) (pk (fun i=>(A (450*i+1+2):Int)-2*A (450*i+1+1)+A (450*i+1)) 6000)
    (pk (fun i=>(A (450*i+1+3):Int)-3*A (450*i+1+2)+3*A (450*i+1+1)-A (450*i+1)) 6000)=true:=by
   have hs':=hs;unfold start at hs';have e:∀j,uW A j=pk (fun i=>(A (450*i+j):Int)) 6000:=fun j=>(SU _ _).symm;rw [e 1,e 2,e 3,e 4,CF,CF,CF,←KA,←KA,←KA,yQ,yQ,←KA] at hs';exact hs'
  have:=run_ok (m:=6000) (fun i=>450*i) hσ hj h4 (w:=WW) (B:=BB) (by decide) (by decide) hT0 hT1 449 1 _ _ _ _ (2,4,8,16) (by omega) (fun i hi=>by unfold NN;omega) errs
   (fun i hi=>near_start hA (450*i+1) (by omega)) hrun (n%450-1) (by omega) (n/450) hi
  have en:450*(n/450)+(1+(n%450-1))=n:=by omega
  rw [en] at this;exact ⟨.inr this.1,this.2⟩
theorem jL {d:Nat} (hd:2≤d):1/(d:Rat)≤1/2:=by
 have h:(2:Rat)≤(d:Rat):=by exact_mod_cast hd
 have h0:(d:Rat)≠0:=by grind
 have e:(d:Rat)*(1/(d:Rat))=1:=by grind
 have i0:=dQ (d:Rat) (by grind);generalize 1/(d:Rat)=i at*;have:2*i≤(d:Rat)*i:=by
  have:=acJ h i0;exact this
 grind
theorem hR_bd (odd:Nat) (Y:Rat) (hY:0≤Y∧Y≤1):∀(k:Nat) (h:Rat),0≤h∧h≤1→(0≤hR odd Y k h∧hR odd Y k h≤1)∧(1≤k→hR odd Y k h≤1/2*Y)
 | 0,h,hh=>⟨hh,fun h=>by omega⟩
 | k+1,h,hh=>by
  have hd:2≤(2*k+1+odd)*(2*k+2+odd):=by
   have:1*2≤(2*k+1+odd)*(2*k+2+odd):=aiX (by omega) (by omega);omega
  have i1:=jL hd;have i0:=dQ (((2*k+1+odd)*(2*k+2+odd):Nat):Rat) (by exact_mod_cast afX _);have y0:0≤Y*(1-h):=aaQ hY.1 (by grind);have y1:Y*(1-h)≤Y:=by
   have:=aaQ hY.1 hh.1;grind
  have s0:0≤1/(((2*k+1+odd)*(2*k+2+odd):Nat):Rat)*(Y*(1-h)):=aaQ i0 y0;have s1:1/(((2*k+1+odd)*(2*k+2+odd):Nat):Rat)*(Y*(1-h))≤1/2*Y:=by
   have a1:=acJ i1 y0;have a2:=adQ y1 (show (0:Rat)≤1/2 by grind);grind
  have ih:=hR_bd odd Y hY k _ ⟨s0,by grind⟩;refine ⟨ih.1,fun _=>?_⟩;rcases alX k with h0 | h0
  ·subst h0;exact s1
  ·exact ih.2 h0
theorem ZU (n:Nat) (hn:n≤2700100):0≤xR n*xR n∧xR n*xR n≤7/10:=by
 have h:=tL n hn;exact ⟨aaQ h.1 h.1,(yN_bd n hn).2⟩
theorem tC_bd (n:Nat) (hn:n≤2700100):1/2≤tC n∧tC n≤1:=by
 have h:=ZU n hn;have:=hR_bd 0 (xR n*xR n) ⟨h.1,by grind⟩ 10 0 ⟨by grind,by grind⟩;have h2:=this.2 (by omega);unfold tC;constructor<;>grind
theorem tS_bd (n:Nat) (hn:n≤2700100):1/2*xR n≤tS n∧tS n≤xR n:=by
 have h:=ZU n hn;have hx:=tL n hn;have:=hR_bd 1 (xR n*xR n) ⟨h.1,by grind⟩ 10 0 ⟨by grind,by grind⟩;have h2:=this.2 (by omega);unfold tS;generalize hR 1 (xR n*xR n) 10 0=H at*;have a1:0≤xR n*(1/2-H):=aaQ hx.1 (by grind);have a2:0≤xR n*H:=aaQ hx.1 this.1.1;constructor<;>grind
theorem hT0S:∀n,1≤n→n≤NN→(2^41:Nat)≤iH*tS n∧iH*tS n≤(2^90:Nat):=by
 intro n h1 h2;have hb:=tS_bd n h2;have hx:=tL n h2;have c1:((2^41:Nat):Rat)=2199023255552:=rfl;have c2:((2^90:Nat):Rat)=1237940039285380274899124224:=rfl;have hn1:(1:Rat)≤(n:Rat):=by exact_mod_cast h1
 have hlow:th≤xR n:=by
  unfold xR;have:=adQ hn1 (show 0≤th by unfold th SQ;grind);grind
 rw [c1,c2];unfold iH;have ht:(1/4000000:Rat)≤th:=by unfold th SQ;grind
 constructor<;>grind
theorem hT0C:∀n,1≤n→n≤NN→(2^41:Nat)≤iH*tC n∧iH*tC n≤(2^90:Nat):=by
 intro n h1 h2;have hb:=tC_bd n h2;have c1:((2^41:Nat):Rat)=2199023255552:=rfl;have c2:((2^90:Nat):Rat)=1237940039285380274899124224:=rfl;rw [c1,c2];unfold iH;constructor<;>grind
theorem hT1S:∀n,n+1≤NN→bZ (iH*d1 tS n) (2^90:Nat):=by
 intro n hn;have h0:=tS_bd n (by unfold NN at hn;omega);have h1:=tS_bd (n+1) hn;have x0:=tL n (by unfold NN at hn;omega);have x1:=tL (n+1) hn;have c2:((2^90:Nat):Rat)=1237940039285380274899124224:=rfl;rw [c2];unfold bZ d1 iH;constructor<;>grind
theorem hT1C:∀n,n+1≤NN→bZ (iH*d1 tC n) (2^90:Nat):=by
 intro n hn;have h0:=tC_bd n (by unfold NN at hn;omega);have h1:=tC_bd (n+1) hn;have c2:((2^90:Nat):Rat)=1237940039285380274899124224:=rfl;rw [c2];unfold bZ d1 iH;constructor<;>grind
def Far (x:Rat):Prop:=∃f:Nat,(f:Rat)*72057594037927936+17000000000≤iH*x∧iH*x≤((f:Rat)+1)*72057594037927936-17000000000
theorem uI {x:Rat} (h:∃f:Nat,((f*2^56+WW:Nat):Rat)≤iH*x+(BB:Rat)∧iH*x≤(((f+1)*2^56:Nat):Rat)-(WW:Rat)+(BB:Rat)):Far x:=by
 obtain ⟨f,h1,h2⟩:=h;refine ⟨f,?_⟩;have cW:(WW:Rat)=20132659200:=rfl;have cB:(BB:Rat)=2147483648:=rfl;have c56:((2^56:Nat):Rat)=72057594037927936:=rfl;have e1:((f*2^56+WW:Nat):Rat)=(f:Rat)*72057594037927936+20132659200:=by
  rw [ahZ,afJ,c56,cW]
 have e2:(((f+1)*2^56:Nat):Rat)=((f:Rat)+1)*72057594037927936:=by
  rw [afJ,c56,ahZ];rfl
 rw [e1,cB] at h1;rw [e2,cB,cW] at h2;generalize iH*x=g at*;constructor<;>grind
theorem farS (n:Nat) (hn:n<2700000) (h0:n≠0) (h1:n≠1800000):Far (tS n):=by
 rcases (zR (.inl rfl) has_S jS4 CY hT0S hT1S startS firstS n hn).1 with ⟨hm,he⟩ | h
 ·simp only [Bool.or_eq_true,Nat.beq_eq] at he;omega
 ·exact uI h
theorem farC (n:Nat) (hn:n<2700000) (h0:n≠0):Far (tC n):=by
 rcases (zR (.inr rfl) has_C jC4 MN hT0C hT1C startC firstC n hn).1 with ⟨hm,he⟩ | h
 ·simp only [Nat.beq_eq] at he;omega
 ·exact uI h
theorem upS (n:Nat) (hn:n<2700000):1000000000000≤iH*(tS (n+1)-tS n):=by
 have h:=(zR (.inl rfl) has_S jS4 CY hT0S hT1S startS firstS n hn).2;have cB:(BB:Rat)=2147483648:=rfl;have e1:((1:Int):Rat)=1:=rfl;rw [cB,e1] at h;unfold d1 at h;grind
theorem downC (n:Nat) (hn:n<2700000):1000000000000≤iH*(tC n-tC (n+1)):=by
 have h:=(zR (.inr rfl) has_C jC4 MN hT0C hT1C startC firstC n hn).2;have cB:(BB:Rat)=2147483648:=rfl;have e1:((-1:Int):Rat)=-1:=rfl;rw [cB,e1] at h;unfold d1 at h;grind
end SM
section
open Go.RowKit
def PG (x:Int) (w:World) (e:Ending) (w':World):Prop:=e=.returned (.int .i64 x)∧w=w'
theorem OV (n:Int):(0≤n.tmod 21600000→n.tmod 21600000=n%21600000)∧(n.tmod 21600000<0→n.tmod 21600000+21600000=n%21600000)∧-21600000<n.tmod 21600000∧n.tmod 21600000<21600000:=by
 have h1:=Int.tmod_lt_of_pos n (show (0:Int)<21600000 by omega);have h2:=Int.lt_tmod_of_pos n (show (0:Int)<21600000 by omega);have h3:=Int.mul_tdiv_add_tmod n 21600000;refine ⟨fun h=>?_,fun h=>?_,h2,h1⟩
 ·omega
 ·omega
theorem LJ (n:Int) (w:World):Calls aaZ 186 #[.int .i64 n] w (PG (n%21600000) w):=by
 obtain ⟨k1,k2,k3,k4⟩:=OV n;generalize hm:n.tmod 21600000=m at*;by_cases hneg:m<0
 ·have HF:=aaX (show PG (n%21600000) w (.returned (.int .i64 (m+21600000))) w from ⟨by rw [k2 hneg],rfl⟩);clear k1 k2;go_enter Tryz.func186,Tryz.ntmps186;go_wp2;go_ret;exact HF.out
 ·have HF:=aaX (show PG (n%21600000) w (.returned (.int .i64 m)) w from ⟨by rw [k1 (by omega)],rfl⟩);clear k1 k2;go_enter Tryz.func186,Tryz.ntmps186;go_wp2;go_ret;exact HF.out
end
section
open Go.RowKit
def subV (x y b:Int):Int:=(x+18446744073709551616-y-b)%18446744073709551616
def subB (x y b:Int):Int:=if x<y+b then 1 else 0
theorem sub64_run (x y b:Int) (hx:0≤x) (hy:0≤y∧y≤18446744073709551616) (hb:0≤b∧b≤1) (hyb:y+b≤x+18446744073709551616) (w:World):
  (callFunc 253 #[.int .u64 x,.int .u64 y,.int .u64 b]).run aaZ w=.ok (.value (.tuple #[.int .u64 (subV x y b),.int .u64 (subB x y b)])) w:=by
 obtain ⟨X,rfl⟩:=ajZ hx;obtain ⟨Y,rfl⟩:=ajZ hy.1;obtain ⟨B,rfl⟩:=ajZ hb.1;rw [run_callFunc_extern Tryz.func253 (by kernel_rfl) (by kernel_rfl) (by kernel_rfl) (e:=sub64Entry) (by kernel_rfl),run_sub64 X Y B (by omega)];simp only [Result.andThen,subV,subB];have e1:(((X+18446744073709551616-Y-B)%18446744073709551616:Nat):Int)=((X:Int)+18446744073709551616-(Y:Int)-(B:Int))%18446744073709551616:=by omega
 have e2:((if X<Y+B then 1 else 0:Nat):Int)=if (X:Int)<(Y:Int)+(B:Int) then 1 else 0:=by
  by_cases h:X<Y+B
  ·rw [if_pos h,if_pos (by omega)];rfl
  ·rw [if_neg h,if_neg (by omega)];rfl
 rw [e1,e2]
theorem mQ (x y c:Int) (hx:0≤x) (hy:0≤y) (hc:0≤c∧c≤1) (w:World):
  (callFunc 193 #[.int .u64 x,.int .u64 y,.int .u64 c]).run aaZ w=.ok (.value (.tuple #[.int .u64 ((x+y+c)%18446744073709551616),.int .u64 ((x+y+c)/18446744073709551616)])) w:=by
 rw [run_callFunc_extern Tryz.func193 (by kernel_rfl) (by kernel_rfl) (by kernel_rfl) (e:=add64Entry) (by kernel_rfl),run_add64 x y c hx hy hc.1 hc.2];rfl
end
end Go.Proofs.YtajpgkpdhcbngaaGreatDoor
namespace Go.Proofs
open Go.Shelf
def Tryz.lays264_ren:Ren where
 f:=fun x=>match x with
  | 264=>192
  | n=>n
 t:=fun x=>match x with
  | 53=>174
  | 46=>145
  | n=>n
 g:=fun n=>n
theorem Tryz.lays264:Lays.n264 aaZ Tryz.lays264_ren where
 mixed:=Eq.refl true
 f264:=Eq.trans Tryz.func192 (congrArg some (Eq.refl (Body.n264 Tryz.lays264_ren)))
 t46:=Tryz.underlying145
 a46:=Tryz.isAgg145
 z46:=Tryz.sizeOf145
 v46:=Tryz.zeroValue145
 t53:=Tryz.underlying174
 a53:=Tryz.isAgg174
 z53:=Tryz.sizeOf174
 v53:=Tryz.zeroValue174
end Go.Proofs
namespace Go.Proofs.YtajpgkpdhcbngaaGreatDoor
section
open Go.RowKit
def MulPost (x y:Int) (w:World) (e:Ending) (w':World):Prop:=e=.returned (.tuple #[.int .u64 (x*y/18446744073709551616),.int .u64 (x*y%18446744073709551616)])∧w=w'
theorem wT (x y:Int) (hx:0≤x∧x<18446744073709551616) (hy:0≤y∧y<18446744073709551616) (w:World):
  Calls aaZ 192 #[.int .u64 x,.int .u64 y] w (MulPost x y w):=by
 obtain ⟨X,rfl⟩:=ajZ hx.1;obtain ⟨Y,rfl⟩:=ajZ hy.1;have h:=Any.bits_Mul64 Tryz.lays264 X Y (by omega) (by omega) w;refine Calls.mono h ?_;rintro e w' ⟨he,hw⟩;refine ⟨?_,hw.symm⟩;rw [he];simp
end
section
open Go.RowKit
def cO (a0 a1 a2 a3:Int):Value:=.agg #[.int .u64 a0,.int .u64 a1,.int .u64 a2,.int .u64 a3]
def bQ (x:Int):Prop:=0≤x∧x<18446744073709551616
theorem nP (x y b:Int) (hx:bQ x) (hy:bQ y) (hb:0≤b∧b≤1):∃s c:Int,bQ s∧(0≤c∧c≤1)∧s=x-y-b+18446744073709551616*c∧∀w,(callFunc 253 #[.int .u64 x,.int .u64 y,.int .u64 b]).run aaZ w=.ok (.value (.tuple #[.int .u64 s,.int .u64 c])) w:=by
 obtain ⟨x1,x2⟩:=hx;obtain ⟨y1,y2⟩:=hy;refine ⟨subV x y b,subB x y b,?_,?_,?_,fun w=>sub64_run x y b x1 ⟨y1,by omega⟩ hb (by omega) w⟩
 ·unfold subV bQ;omega
 ·unfold subB;split<;>omega
 ·unfold subV subB;split<;>omega
def gC (w:World) (v:Value) (e:Ending) (w':World):Prop:=e=.returned v∧Below w.heap.size w w'
theorem sub_ex (a0 a1 a2 a3 b0 b1 b2 b3:Int) (ha0:bQ a0) (ha1:bQ a1) (ha2:bQ a2) (ha3:bQ a3) (hb0:bQ b0) (hb1:bQ b1) (hb2:bQ b2) (hb3:bQ b3):
  ∃s0 s1 s2 s3 c:Int,(bQ s0∧bQ s1∧bQ s2∧bQ s3)∧(0≤c∧c≤1)∧
   s0*6277101735386680763835789423207666416102355444464034512896+s1*340282366920938463463374607431768211456+s2*18446744073709551616+s3=a0*6277101735386680763835789423207666416102355444464034512896+a1*340282366920938463463374607431768211456+a2*18446744073709551616+a3-(b0*6277101735386680763835789423207666416102355444464034512896+b1*340282366920938463463374607431768211456+b2*18446744073709551616+b3)+115792089237316195423570985008687907853269984665640564039457584007913129639936*c∧
   ∀w,Calls aaZ 219 #[cO a0 a1 a2 a3,cO b0 b1 b2 b3] w (gC w (cO s0 s1 s2 s3)):=by
 obtain ⟨s3,c3,g3,d3,e3,E3⟩:=nP a3 b3 0 ha3 hb3 (by omega);obtain ⟨s2,c2,g2,d2,e2,E2⟩:=nP a2 b2 c3 ha2 hb2 d3;obtain ⟨s1,c1,g1,d1,e1,E1⟩:=nP a1 b1 c2 ha1 hb1 d2;obtain ⟨s0,c0,g0,d0,e0,E0⟩:=nP a0 b0 c1 ha0 hb0 d1;refine ⟨s0,s1,s2,s3,c0,⟨g0,g1,g2,g3⟩,d0,by omega,fun w=>?_⟩;clear g0 g1 g2 g3 d0 d1 d2 d3 e0 e1 e2 e3 ha0 ha1 ha2 ha3 hb0 hb1 hb2 hb3;have HP:=aaX (show ∀c1 c2:Array Value,gC w (cO s0 s1 s2 s3) (.returned (cO s0 s1 s2 s3)) (((w.alloc (.cells c1 237)).alloc (.cells c2 237)).alloc (.cells #[.int .u64 s0,.int .u64 s1,.int .u64 s2,.int .u64 s3] 237)).drew.drew.drew.drew from fun c1 c2=>⟨rfl,((((((aeX _ _).alloc (aaJ _) _).alloc (by simp) _).alloc (by simp;omega) _).drew).drew).drew.drew⟩);unfold cO at HP ⊢;go_enter Tryz.func219,Tryz.ntmps219;go_wp2;refine wp_loop_rounds 5 ?_;rw [rounds_succ];go_wp2;go_region
 go_wp2;rw [rounds_succ];go_wp2;go_region
 go_wp2;rw [rounds_succ];go_wp2;go_region
 go_wp2;rw [rounds_succ];go_wp2;go_region
 go_wp2;rw [rounds_succ];go_wp2;simp [bodyPost,results,Tryz.results219,go_sem];exact HP.out _ _
end
end Go.Proofs.YtajpgkpdhcbngaaGreatDoor
namespace Go.Proofs
open Go.Shelf
def Tryz.lays134_ren:Ren where
 f:=fun x=>match x with
  | 134=>254
  | 129=>217
  | n=>n
 t:=fun x=>match x with
  | 53=>174
  | 3=>3
  | 4=>4
  | 46=>145
  | 5=>5
  | 9=>9
  | n=>n
 g:=fun n=>n
theorem Tryz.lays134:Lays.n134 aaZ Tryz.lays134_ren where
 mixed:=Eq.refl true
 f129:=Eq.trans Tryz.func217 (congrArg some (Eq.refl (Body.n129 Tryz.lays134_ren)))
 f134:=Eq.trans Tryz.func254 (congrArg some (Eq.refl (Body.n134 Tryz.lays134_ren)))
 t3:=Tryz.underlying3
 a3:=Tryz.isAgg3
 z3:=Tryz.sizeOf3
 v3:=Tryz.zeroValue3
 t4:=Tryz.underlying4
 a4:=Tryz.isAgg4
 z4:=Tryz.sizeOf4
 v4:=Tryz.zeroValue4
 t5:=Tryz.underlying5
 a5:=Tryz.isAgg5
 z5:=Tryz.sizeOf5
 v5:=Tryz.zeroValue5
 t9:=Tryz.underlying9
 a9:=Tryz.isAgg9
 z9:=Tryz.sizeOf9
 v9:=Tryz.zeroValue9
 t46:=Tryz.underlying145
 a46:=Tryz.isAgg145
 z46:=Tryz.sizeOf145
 v46:=Tryz.zeroValue145
 t53:=Tryz.underlying174
 a53:=Tryz.isAgg174
 z53:=Tryz.sizeOf174
 v53:=Tryz.zeroValue174
end Go.Proofs
namespace Go.Proofs.YtajpgkpdhcbngaaGreatDoor
section
open Go.RowKit
theorem div_plain (hi lo y:Int) (hy:0<y) (hh:0<hi) (hhy:hi<y) (hl:0≤lo) (hl2:lo<18446744073709551616)
  (T K:Int) (hT:0<T) (hTK:T*K=4294967296) (hyK:y<K) (hKy:K≤2*y):
  ∃Y v A B U W u1 q1 r1 N2 q0 r0 R:Int,
   Y=y*(T*4294967296)∧0≤Y∧Y<18446744073709551616∧Y=v*4294967296∧0<v∧v<4294967296∧
   A=hi*(T*4294967296)∧0≤A∧A<18446744073709551616∧B=lo/K∧0≤B∧B<T*4294967296∧U=A+B∧0≤U∧U<18446744073709551616∧
   W=(lo*(T*4294967296))%18446744073709551616∧W=u1*4294967296∧0≤u1∧u1<4294967296∧
   q1=U/v∧0≤q1∧q1<4294967296∧r1=U-q1*v∧0≤r1∧r1<v∧N2=r1*4294967296+u1∧N2<18446744073709551616∧U*4294967296+u1=q1*Y+N2∧
   q0=N2/v∧0≤q0∧q0<4294967296∧r0=N2-q0*v∧0≤r0∧r0<v∧N2*4294967296=q0*Y+r0*4294967296∧
   r0=R*T∧0≤R∧R<y∧hi*18446744073709551616+lo=(q1*4294967296+q0)*y+R:=by
 have hK:0<K:=by omega
 have hyT:y*T<4294967296:=by
  have:=Int.mul_lt_mul_of_pos_left hyK hT;rw [hTK,akZ] at this;exact this
 have hyT0:0<y*T:=Int.mul_pos hy hT;have hhT:(hi+1)*T≤y*T:=Int.mul_le_mul_of_nonneg_right (by omega) (by omega);have hhT0:0<hi*T:=Int.mul_pos hh hT;have hB0:0≤lo/K:=Int.ediv_nonneg hl (by omega);have hB:lo/K<T*4294967296:=Int.ediv_lt_of_lt_mul hK (by
  have:T*4294967296*K=18446744073709551616:=by rw [Int.mul_right_comm,hTK];rfl
  omega)
 have hm:=Int.mul_ediv_add_emod lo K;have hm0:=aiQ lo (show K≠0 by omega);have hm1:=agQ lo hK;generalize hb:lo/K=b at*;generalize hmm:lo%K=m at*;have hu:m*T<4294967296:=by
  have:=Int.mul_lt_mul_of_pos_left hm1 hT;rw [hTK,akZ] at this;exact this
 have hu0:0≤m*T:=aeJ hm0 (by omega);have hloT:lo*T=b*4294967296+m*T:=by
  rw [←hm,←hTK];grind
 have hhT':hi*T+T≤y*T:=by rw [Int.add_mul] at hhT;omega
 have hU:hi*(T*4294967296)+b=hi*T*4294967296+b:=by rw [atX]
 have hU2:hi*T*4294967296+b<y*T*4294967296:=by
  omega
 have hq:=Int.mul_ediv_add_emod (hi*T*4294967296+b) (y*T);have hr0:=aiQ (hi*T*4294967296+b) (show y*T≠0 by omega);have hr1:=agQ (hi*T*4294967296+b) hyT0;have hq0:0≤(hi*T*4294967296+b)/(y*T):=Int.ediv_nonneg (by omega) (by omega);have hq1:(hi*T*4294967296+b)/(y*T)<4294967296:=Int.ediv_lt_of_lt_mul hyT0 (by omega);generalize hqq:(hi*T*4294967296+b)/(y*T)=q1 at*;generalize hrr:(hi*T*4294967296+b)%(y*T)=r1 at*;have hN:r1*4294967296+m*T<y*T*4294967296:=by omega
 have hs:=Int.mul_ediv_add_emod (r1*4294967296+m*T) (y*T);have hs0:=aiQ (r1*4294967296+m*T) (show y*T≠0 by omega);have hs1:=agQ (r1*4294967296+m*T) hyT0;have ht0:0≤(r1*4294967296+m*T)/(y*T):=Int.ediv_nonneg (by omega) (by omega);have ht1:(r1*4294967296+m*T)/(y*T)<4294967296:=Int.ediv_lt_of_lt_mul hyT0 (by omega);generalize htt:(r1*4294967296+m*T)/(y*T)=q0 at*;generalize hss:(r1*4294967296+m*T)%(y*T)=r0 at*;have hR:r0=(hi*18446744073709551616+lo-(q1*4294967296+q0)*y)*T:=by grind
 have hR0:0≤hi*18446744073709551616+lo-(q1*4294967296+q0)*y:=by
  rcases Int.lt_or_le (hi*18446744073709551616+lo-(q1*4294967296+q0)*y) 0 with h | h
  ·have:=Int.mul_neg_of_neg_of_pos h hT;omega
  ·exact h
 have hR1:hi*18446744073709551616+lo-(q1*4294967296+q0)*y<y:=by
  have:(hi*18446744073709551616+lo-(q1*4294967296+q0)*y)*T<y*T:=by rw [←hR];exact hs1
  exact Int.lt_of_mul_lt_mul_right this (by omega)
 refine ⟨y*(T*4294967296),y*T,hi*(T*4294967296),b,hi*T*4294967296+b,m*T*4294967296,m*T,q1,r1,r1*4294967296+m*T,q0,r0,hi*18446744073709551616+lo-(q1*4294967296+q0)*y,rfl,?_,?_,?_,hyT0,hyT,rfl,?_,?_,rfl,hB0,hB,?_,by omega,by omega,?_,rfl,hu0,hu,hqq.symm,hq0,hq1,?_,hr0,hr1,rfl,by omega,?_,htt.symm,ht0,ht1,?_,hs0,hs1,?_,hR,hR0,hR1,by omega⟩
 ·rw [←atX];omega
 ·rw [←atX];omega
 ·rw [←atX]
 ·rw [←atX];omega
 ·rw [←atX];omega
 ·rw [←atX]
 ·rw [←atX,hloT];omega
 ·grind
 ·grind
 ·grind
 ·grind
def GH (x:Int) (w:World) (e:Ending) (w':World):Prop:=e=.returned (.int .i64 x)∧w=w'
theorem zeros_any (x:Int) (h0:0≤x) (h1:x≤18446744073709551615) (w:World):Calls aaZ 254 #[.int .u64 x] w (GH (64-(ajJ x.toNat:Int)) w):=
 Calls.mono (Any.bits_LeadingZeros64 Tryz.lays134 x w h0 h1) fun _ _ h=>⟨h.1,h.2.symm⟩
def yZ (q r:Int) (w:World) (e:Ending) (w':World):Prop:=e=.returned (.tuple #[.int .u64 q,.int .u64 r])∧(w'=w∨w'=w.drew)
theorem div64_walk (hi lo y S Y v A B U W u1 q1 r1 N2 q0 r0 Q R:Int) (hS:S=64-(ajJ y.toNat:Int)) (hS1:32≤S) (hS2:S≤63) (hy:0<y) (hy2:y<4294967296) (hh:0<hi) (hhy:hi<y)
  (hv:0<v) (hq1:q1<4294967296) (hq0:q0<4294967296)
  (e1:u64.wrap (y*2^S.toNat)=Y) (e2:Y/4294967296=v) (e3:bits .and .u64 Y 4294967295=0)
  (e4:u64.wrap (hi*2^S.toNat)=A) (e5:lo/2^(64-S).toNat=B) (e6:bits .or .u64 A B=U)
  (e7:u64.wrap (lo*2^S.toNat)=W) (e8:W/4294967296=u1) (e9:bits .and .u64 W 4294967295=0)
  (e10:u64.wrap (U.tdiv v)=q1) (e11:u64.wrap (U-u64.wrap (q1*v))=r1)
  (g1:0≤u64.wrap (u64.wrap (4294967296*r1)+u1))
  (e12:u64.wrap (u64.wrap (u64.wrap (U*4294967296)+u1)-u64.wrap (q1*Y))=N2)
  (e13:u64.wrap (N2.tdiv v)=q0) (e14:u64.wrap (N2-u64.wrap (q0*v))=r0)
  (g2:0≤u64.wrap (u64.wrap (4294967296*r0)))
  (e15:u64.wrap (u64.wrap (q1*4294967296)+q0)=Q)
  (e16:u64.wrap (u64.wrap (u64.wrap (N2*4294967296))-u64.wrap (q0*Y))/2^S.toNat=R) (w:World):Calls aaZ 222 #[.int .u64 hi,.int .u64 lo,.int .u64 y] w (yZ Q R w):=by
 have HS:=aaX hS;have HP:=aaX (show yZ Q R w (.returned (.tuple #[.int .u64 Q,.int .u64 R])) w from ⟨rfl,.inl rfl⟩);clear hS;go_enter Tryz.func222,Tryz.ntmps222;go_wp2_with fail
 refine (zeros_any y (by omega) (by omega) w).mono ?_;rw [←HS.out];rintro e w' ⟨rfl,rfl⟩;go_wp2;refine wp_loop_rounds 1 ?_;rw [rounds_succ];go_wp2;refine wp_loop_rounds 1 ?_;rw [rounds_succ];go_wp2;go_ret2
 exact HP.out
theorem YK (a:Int) (h0:0≤a) (h1:a<18446744073709551616):bits .and .u64 a 4294967295=a%4294967296:=by
 obtain ⟨n,rfl⟩:=ajZ h0;rw [Mul64.maskN n (by omega)];omega
theorem or_int (a b:Int) (k:Nat) (ha0:0≤a) (ha1:a*2^k<18446744073709551616) (hb0:0≤b) (hb1:b<2^k) (hb2:b<18446744073709551616):bits .or .u64 (a*2^k) b=a*2^k+b:=by
 obtain ⟨m,rfl⟩:=ajZ ha0;obtain ⟨n,rfl⟩:=ajZ hb0;have hp:((2^k:Nat):Int)=2^k:=by simp
 have hn:n<2^k:=by rw [←hp] at hb1;omega
 have hm:m*2^k<18446744073709551616:=by rw [←hp,←ajX] at ha1;omega
 have hn2:n<18446744073709551616:=by omega
 have h:=bits_or_u64_nat (m*2^k) n hm hn2;have e:m*2^k||| n=m*2^k+n:=by
  have:=Nat.shiftLeft_add_eq_or_of_lt hn m;rw [Nat.shiftLeft_eq] at this;exact this.symm
 rw [e] at h;have c:(((m*2^k:Nat)):Int)=(m:Int)*2^k:=by rw [ajX,hp]
 have c2:(((m*2^k+n:Nat)):Int)=(m:Int)*2^k+(n:Int):=by rw [Int.natCast_add,ajX,hp]
 rw [c,c2] at h;exact h
theorem cY (a:Int) (h0:0≤a) (h1:a<18446744073709551616):u64.wrap a=a:=by rw [IntKind.wrap_u64];omega
theorem powers (y:Int) (hy:0<y) (hy2:y<4294967296):∃(S T K:Int) (t:Nat),S=64-(ajJ y.toNat:Int)∧32≤S∧S≤63∧(2:Int)^S.toNat=T*4294967296∧(2:Int)^(64-S).toNat=K∧0<T∧T*K=4294967296∧y<K∧K≤2*y∧T*4294967296=2^t:=by
 obtain ⟨n,rfl⟩:=ajZ (show 0≤y by omega);have hn:n≠0:=by omega
 obtain ⟨hp,h2,h1⟩:=Lib.bitLenAux_bounds 64 n (by omega) hn;change 1≤ajJ n at hp;change 2^(ajJ n-1)≤n at h2;change n<2^ajJ n at h1;have hl:ajJ n≤32:=Lib.bitLen_le n 32 (by omega) (by omega);rw [Int.toNat_natCast];generalize ajJ n=L at*;obtain ⟨l,rfl⟩:∃l,L=l+1:=⟨L-1,by omega⟩;rw [Nat.add_sub_cancel] at h2;have e1:(64-((l+1:Nat):Int)).toNat=(31-l)+32:=by omega
 have e2:(64-(64-((l+1:Nat):Int))).toNat=l+1:=by omega
 have hK:((2^(l+1):Nat):Int)=2^(l+1):=by simp
 have hK2:((2^l:Nat):Int)=2^l:=by simp
 refine ⟨64-((l+1:Nat):Int),2^(31-l),2^(l+1),(31-l)+32,rfl,by omega,by omega,?_,by rw [e2],Int.pow_pos (by decide),?_,?_,?_,?_⟩
 ·rw [e1,Int.pow_add];rfl
 ·rw [←Int.pow_add,show 31-l+(l+1)=32 by omega];rfl
 ·rw [←hK];omega
 ·rw [Int.pow_succ,←hK2];omega
 ·rw [Int.pow_add];rfl
theorem jU (hi lo y:Int) (hy:0<y) (hy2:y<4294967296) (hh:0≤hi) (hhy:hi<y) (hl:0≤lo) (hl2:lo<18446744073709551616):
  ∃q r:Int,0≤q∧q<18446744073709551616∧0≤r∧r<y∧hi*18446744073709551616+lo=q*y+r∧∀w,Calls aaZ 222 #[.int .u64 hi,.int .u64 lo,.int .u64 y] w (yZ q r w):=by
 rcases aoX hh with hh | rfl
 ·obtain ⟨S,T,K,t,hS,hS1,hS2,p1,p2,hT,hTK,hyK,hKy,ht⟩:=powers y hy hy2;obtain ⟨Y,v,A,B,U,W,u1,q1,r1,N2,q0,r0,R,a1,a2,a3,a4,a5,a6,b1,b2,b3,b4,b5,b6,b7,b8,b9,c1,c2,c3,c4,d1,d2,d3,d4,d5,d6,d7,d8,d9,f1,f2,f3,f4,f5,f6,f7,f8,g1,g2,g3⟩:=div_plain hi lo y hy hh hhy hl hl2 T K hT hTK hyK hKy;refine ⟨q1*4294967296+q0,R,by omega,by omega,g1,g2,g3,fun w=>?_⟩;have hNv:0≤N2:=by omega
  have hpv:0≤q1*v:=aeJ d2 (by omega);have hpv0:0≤q0*v:=aeJ f2 (by omega);refine div64_walk hi lo y S Y v A B U W u1 q1 r1 N2 q0 r0 _ R hS hS1 hS2 hy hy2 hh hhy a5 d3 f3 ?_ ?_ ?_ ?_ ?_ ?_ ?_ ?_ ?_ ?_ ?_ ?_ ?_ ?_ ?_ ?_ ?_ ?_ w
  ·rw [p1,←a1,cY _ a2 a3]
  ·omega
  ·rw [YK _ a2 a3];omega
  ·rw [p1,←b1,cY _ b2 b3]
  ·rw [p2,b4]
  ·rw [b7,b1,ht];rw [ht] at b1 b6;exact or_int hi B t (by omega) (by omega) b5 b6 (by omega)
  ·rw [p1,IntKind.wrap_u64,←c1]
  ·omega
  ·rw [YK _ (by omega) (by omega)];omega
  ·rw [Int.tdiv_eq_ediv_of_nonneg b8,←d1,cY _ d2 (by omega)]
  ·rw [cY (q1*v) hpv (by omega),←d4,cY _ d5 (by omega)]
  ·rw [IntKind.wrap_u64];omega
  ·generalize q1*Y=P at*;simp only [IntKind.wrap_u64];omega
  ·rw [Int.tdiv_eq_ediv_of_nonneg hNv,←f1,cY _ f2 (by omega)]
  ·rw [cY (q0*v) hpv0 (by omega),←f4,cY _ f5 (by omega)]
  ·rw [IntKind.wrap_u64];omega
  ·simp only [IntKind.wrap_u64];omega
  ·have e:u64.wrap (u64.wrap (u64.wrap (N2*4294967296))-u64.wrap (q0*Y))=r0*4294967296:=by
    generalize q0*Y=P at*;simp only [IntKind.wrap_u64];omega
   rw [e,p1,f8,atX];exact Int.mul_ediv_cancel _ (by omega)
 ·have hq0:=Int.ediv_nonneg hl (show 0≤y by omega);have hq1:lo/y<18446744073709551616:=Int.ediv_lt_of_lt_mul hy (by
   have:=Int.mul_le_mul_of_nonneg_left (show (1:Int)≤y by omega) (show (0:Int)≤18446744073709551616 by omega);omega)
  have hr0:=aiQ lo (show y≠0 by omega);have hr1:=agQ lo hy;have hm:=Int.mul_ediv_add_emod lo y;refine ⟨lo/y,lo%y,hq0,hq1,hr0,hr1,by rw [akZ (lo/y)];omega,fun w=>?_⟩;have k1:u64.wrap (lo.tdiv y)=lo/y:=by rw [Int.tdiv_eq_ediv_of_nonneg hl,cY _ hq0 hq1]
  have k2:u64.wrap (lo.tmod y)=lo%y:=by rw [Int.tmod_eq_emod_of_nonneg hl,cY _ hr0 (by omega)]
  have k3:lo.tmod y=lo%y:=Int.tmod_eq_emod_of_nonneg hl;have HP:=aaX (show yZ (lo/y) (lo%y) w (.returned (.tuple #[.int .u64 (lo/y),.int .u64 (lo%y)])) w.drew from ⟨rfl,.inr rfl⟩);clear hm hq0 hq1 hr0 hr1;go_enter Tryz.func222,Tryz.ntmps222;go_wp2;go_region
  go_wp2;go_ret2
  exact HP.out
end
section
open Go.RowKit
theorem vR (w w':World) (A R:Obj) (h:w'=(w.alloc A).alloc R∨w'=((w.alloc A).alloc R).drew):∃w1:World,w'=(w1.alloc A).alloc R∧w1.heap.size=w.heap.size∧Below w.heap.size w w1:=by
 rcases h with rfl | rfl
 ·exact ⟨w,rfl,rfl,aeX _ _⟩
 ·exact ⟨w.drew,rfl,rfl,(aeX _ _).drew⟩
theorem ndiv_ex (a0 a1 a2 a3 t d:Int) (ha0:bQ a0) (ha1:bQ a1) (ha2:bQ a2) (ha3:bQ a3) (hd:0<d) (hd2:d<4294967296) (ht0:0≤t) (ht:t<d):
  ∃s0 s1 s2 s3 r:Int,(bQ s0∧bQ s1∧bQ s2∧bQ s3)∧0≤r∧r<d∧
   t*115792089237316195423570985008687907853269984665640564039457584007913129639936+(a0*6277101735386680763835789423207666416102355444464034512896+a1*340282366920938463463374607431768211456+a2*18446744073709551616+a3)=(s0*6277101735386680763835789423207666416102355444464034512896+s1*340282366920938463463374607431768211456+s2*18446744073709551616+s3)*d+r∧
   ∀w,Calls aaZ 252 #[cO a0 a1 a2 a3,.int .u64 t,.int .u64 d] w (gC w (cO s0 s1 s2 s3)):=by
 obtain ⟨s0,r0,g0,g0',d0,d0',e0,E0⟩:=jU t a0 d hd hd2 ht0 ht ha0.1 ha0.2;obtain ⟨s1,r1,g1,g1',d1,d1',e1,E1⟩:=jU r0 a1 d hd hd2 d0 d0' ha1.1 ha1.2;obtain ⟨s2,r2,g2,g2',d2,d2',e2,E2⟩:=jU r1 a2 d hd hd2 d1 d1' ha2.1 ha2.2;obtain ⟨s3,r3,g3,g3',d3,d3',e3,E3⟩:=jU r2 a3 d hd hd2 d2 d2' ha3.1 ha3.2;refine ⟨s0,s1,s2,s3,r3,⟨⟨g0,g0'⟩,⟨g1,g1'⟩,⟨g2,g2'⟩,⟨g3,g3'⟩⟩,d3,d3',by grind,fun w=>?_⟩;clear g0 g0' g1 g1' g2 g2' g3 g3' d0 d0' d1 d1' d2 d2' d3 d3' e0 e1 e2 e3 ha0 ha1 ha2 ha3 ht ht0 hd hd2;have E0:=aaX E0;have E1:=aaX E1;have E2:=aaX E2;have E3:=aaX E3;unfold cO;go_enter Tryz.func252,Tryz.ntmps252;go_wp2;refine wp_loop_rounds 5 ?_;rw [rounds_succ];go_wp2_with fail
 refine (E0.out _).mono ?_;rintro e w' ⟨rfl,hw⟩;obtain ⟨w1,rfl,hs1,hb1⟩:=vR _ _ _ _ hw;clear hw;go_wp2_with fail
 rw [rounds_succ];go_wp2_with fail
 refine (E1.out _).mono ?_;rintro e w' ⟨rfl,hw⟩;obtain ⟨w2,rfl,hs2,hb2⟩:=vR _ _ _ _ hw;clear hw;rw [hs1] at hb2 hs2;go_wp2_with fail
 rw [rounds_succ];go_wp2_with fail
 refine (E2.out _).mono ?_;rintro e w' ⟨rfl,hw⟩;obtain ⟨w3,rfl,hs3,hb3⟩:=vR _ _ _ _ hw;clear hw;rw [hs2] at hb3 hs3;go_wp2_with fail
 rw [rounds_succ];go_wp2_with fail
 refine (E3.out _).mono ?_;rintro e w' ⟨rfl,hw⟩;obtain ⟨w4,rfl,hs4,hb4⟩:=vR _ _ _ _ hw;clear hw;rw [hs3] at hb4 hs4;go_wp2_with fail
 rw [rounds_succ];go_wp2_with fail
 have hB:=(((hb1.trans hb2).trans hb3).trans hb4);simp [bodyPost,results,Tryz.results252,go_sem,hs4];exact ⟨rfl,(hB.alloc (by rw [hs4];exact aaJ _) _).alloc (by simp [hs4]) _⟩
end
section
open Go.RowKit
structure Mac (a b o c s c':Int):Prop where
 out:∃hi lo s1 k1 h1 k2:Int,(∀w,Calls aaZ 192 #[.int .u64 a,.int .u64 b] w fun e w'=>e=.returned (.tuple #[.int .u64 hi,.int .u64 lo])∧w'=w)∧
  (∀w,(callFunc 193 #[.int .u64 o,.int .u64 lo,.int .u64 0]).run aaZ w=.ok (.value (.tuple #[.int .u64 s1,.int .u64 k1])) w)∧u64.wrap (hi+k1)=h1∧
  (∀w,(callFunc 193 #[.int .u64 s1,.int .u64 c,.int .u64 0]).run aaZ w=.ok (.value (.tuple #[.int .u64 s,.int .u64 k2])) w)∧u64.wrap (h1+k2)=c'
theorem mY (a b o c:Int) (ha:bQ a) (hb:bQ b) (ho:bQ o) (hc:bQ c):∃s c':Int,bQ s∧bQ c'∧o+a*b+c=s+18446744073709551616*c'∧Mac a b o c s c':=by
 obtain ⟨a0,a1⟩:=ha;obtain ⟨b0,b1⟩:=hb;obtain ⟨o0,o1⟩:=ho;obtain ⟨c0,c1⟩:=hc;have hp0:0≤a*b:=aeJ a0 b0;have hp1:a*b≤18446744073709551615*18446744073709551615:=anJ (by omega) (by omega) b0 (by decide);have hM:∀w,Calls aaZ 192 #[.int .u64 a,.int .u64 b] w fun e w'=>e=.returned (.tuple #[.int .u64 (a*b/18446744073709551616),.int .u64 (a*b%18446744073709551616)])∧w'=w:=fun w=>(wT a b ⟨a0,a1⟩ ⟨b0,b1⟩ w).mono fun _ _ h=>⟨h.1,h.2.symm⟩;generalize hP:a*b=P at*;refine ⟨((o+P%18446744073709551616)%18446744073709551616+c)%18446744073709551616,P/18446744073709551616+(o+P%18446744073709551616)/18446744073709551616+((o+P%18446744073709551616)%18446744073709551616+c)/18446744073709551616,⟨by omega,by omega⟩,⟨by omega,by omega⟩,by omega,
  ⟨P/18446744073709551616,P%18446744073709551616,(o+P%18446744073709551616)%18446744073709551616,(o+P%18446744073709551616)/18446744073709551616,P/18446744073709551616+(o+P%18446744073709551616)/18446744073709551616,((o+P%18446744073709551616)%18446744073709551616+c)/18446744073709551616,hM,fun w=>?_,?_,fun w=>?_,?_⟩⟩
 ·have:=mQ o (P%18446744073709551616) 0 o0 (by omega) (by omega) w;simpa using this
 ·exact cY _ (by omega) (by omega)
 ·have:=mQ ((o+P%18446744073709551616)%18446744073709551616) c 0 (by omega) c0 (by omega) w;simpa using this
 ·exact cY _ (by omega) (by omega)
theorem bH (w:World) (o:Obj) (n:Nat):(w.alloc o).drewN n=(w.drewN n).alloc o:=rfl
def CRel (w:World) (W:World→Int→World) (i C:Int) (c k:Value) (wr:World):Prop:=
 ∃w1:World,(w1.heap.size=w.heap.size∧Below w.heap.size w w1)∧((k=.int .i64 i∧c=.int .u64 C∧wr=W w1 0)∨(k=.int .i64 (i-1)∧c=.int .u64 0∧wr=W w1 C))
theorem CRel.ways {w:World} {W:World→Int→World} {i C:Int} {c k:Value} {wr:World} (h:CRel w W i C c k wr) (hC:0≤C):
  ∃w1:World,(w1.heap.size=w.heap.size∧Below w.heap.size w w1)∧((0<C∧k=.int .i64 i∧c=.int .u64 C∧wr=W w1 0)∨(∃k':Int,(k'=i∨k'=i-1)∧k=.int .i64 k'∧c=.int .u64 0∧wr=W w1 C)):=by
 obtain ⟨w1,hw,⟨h1,h2,h3⟩ | ⟨h1,h2,h3⟩⟩:=h
 ·rcases aoX hC with h | h
  ·exact ⟨w1,hw,.inl ⟨h,h1,h2,h3⟩⟩
  ·subst h;exact ⟨w1,hw,.inr ⟨i,.inl rfl,h1,h2,h3⟩⟩
 ·exact ⟨w1,hw,.inr ⟨i-1,.inr rfl,h1,h2,h3⟩⟩
theorem bO (w w0:World) (n:Nat) (h:w.heap.size=w0.heap.size∧Below w0.heap.size w0 w):(w.drewN n).heap.size=w0.heap.size∧Below w0.heap.size w0 (w.drewN n):=⟨h.1,below_drewN h.2 n⟩
def kOf:Value→Int | .int _ x=>x | _=>0
theorem FF (x:Int) (hx:0≤x) (h:x<18446744073709551616) (w:World):(callFunc 193 #[.int .u64 0,.int .u64 x,.int .u64 0]).run aaZ w=.ok (.value (.tuple #[.int .u64 x,.int .u64 0])) w:=by
 have:=mQ 0 x 0 (by omega) hx (by omega) w;rw [this];have e1:(0+x+0)%18446744073709551616=x:=by omega
 have e2:(0+x+0)/18446744073709551616=0:=by omega
 rw [e1,e2]
theorem array_at (a:Option Addr) (w:World):(Instr.arrayAt 237 (.slice a 4 6)).run aaZ w=.ok (.pointer a) w:=run_arrayAt w 237 174 4 a 4 6 (by kernel_rfl) (by decide)
theorem nmul_walk (a0 a1 a2 a3 b0 b1 b2 b3 p1 c1 p2 c2 p3 c3 p4 c4 p5 c5 p6 c6 p7 c7 p8 c8 p9 c9 p10 c10 p11 c11 p12 c12 p13 c13:Int) (m1:Mac a3 b1 0 0 p1 c1) (m2:Mac a3 b0 0 c1 p2 c2) (m3:Mac a2 b2 p1 0 p3 c3) (m4:Mac a2 b1 p2 c3 p4 c4) (m5:Mac a2 b0 c2 c4 p5 c5) (m6:Mac a1 b3 p3 0 p6 c6) (m7:Mac a1 b2 p4 c6 p7 c7) (m8:Mac a1 b1 p5 c7 p8 c8) (m9:Mac a1 b0 c5 c8 p9 c9) (m10:Mac a0 b3 p7 0 p10 c10) (m11:Mac a0 b2 p8 c10 p11 c11) (m12:Mac a0 b1 p9 c11 p12 c12) (m13:Mac a0 b0 c9 c12 p13 c13) (g2:bQ c2) (g5:bQ c5) (g9:bQ c9) (g13:bQ c13) (w:World):Calls aaZ 220 #[cO a0 a1 a2 a3,cO b0 b1 b2 b3] w (gC w (cO c13 p13 p12 p11)):=by
 have m1:=aaX m1;have m2:=aaX m2;have m3:=aaX m3;have m4:=aaX m4;have m5:=aaX m5;have m6:=aaX m6;have m7:=aaX m7;have m8:=aaX m8;have m9:=aaX m9;have m10:=aaX m10;have m11:=aaX m11;have m12:=aaX m12;have m13:=aaX m13;have g2:=aaX g2;have g5:=aaX g5;have g9:=aaX g9;have g13:=aaX g13;unfold cO;go_enter Tryz.func220,Tryz.ntmps220;go_wp2;refine wp_loop_rounds 5 ?_;rw [rounds_succ];go_wp2_with fail
 refine wp_loop_rounds 5 ?_;rw [rounds_succ];go_wp2_with fail
 rw [rounds_succ];go_wp2_with fail
 rw [rounds_succ];go_wp2_with fail
 obtain ⟨hi,lo,s,k,h,l,M,A,x,B,y⟩:=m1.out.out;have M:=aaX M;go_quiet (first | (go_at_call 192;refine Calls.quiet_of_same (M.out _)))
 simp only [bH];rename_i nq;have hd:=bO w w nq ⟨rfl,aeX _ _⟩;generalize alJ w nq=w1 at*;obtain ⟨hs,hb⟩:=hd;go_wp2_with fail
 clear A x B y;rw [rounds_succ];go_wp2_with fail
 obtain ⟨hi,lo,s,k,h,l,M,A,x,B,y⟩:=m2.out.out;have M:=aaX M;go_quiet (first | (go_at_call 192;refine Calls.quiet_of_same (M.out _)))
 simp only [bH];rename_i nq;have hd:=bO w1 w nq ⟨hs,hb⟩;generalize alJ w1 nq=w2 at*;clear hs hb;obtain ⟨hs,hb⟩:=hd;go_wp2_with fail
 clear A x B y;rw [rounds_succ];obtain ⟨z0,z1⟩:=g2.out;have Z:=FF c2 z0 z1;go_wp2_with fail
 go_loopw [7,13] (fun c k wr=>CRel w (fun w1 x=>(((w1.alloc (.cells #[.int .u64 a0,.int .u64 a1,.int .u64 a2,.int .u64 a3] 237)).alloc (.cells #[.int .u64 b0,.int .u64 b1,.int .u64 b2,.int .u64 b3] 237)).alloc (.cells #[.int .u64 0,.int .u64 0,.int .u64 0,.int .u64 0] 237)).alloc (.cells #[.int .u64 0,.int .u64 0,.int .u64 0,.int .u64 x,.int .u64 p2,.int .u64 p1] 263)) 3 c2 c k wr) (fun _ k _=>(kOf k+1).toNat)
 case atStart=>exact ⟨_,⟨hs,hb⟩,.inl ⟨rfl,rfl,rfl⟩⟩
 clear hs hb;obtain ⟨w3,⟨hs,hb⟩,⟨hp,rfl,rfl,rfl⟩ | ⟨k',hk,rfl,rfl,rfl⟩⟩:=hrel.ways z0
 ·clear hrel;go_wp2_with fail
  go_roundw
  case rel=>exact ⟨_,⟨hs,hb⟩,.inr ⟨rfl,rfl,rfl⟩⟩
  case measure=>simp [kOf]
 clear hrel;go_wp2_with fail
 clear Z z0 z1;rw [rounds_succ];go_wp2_with fail
 refine wp_loop_rounds 5 ?_;rw [rounds_succ];go_wp2_with fail
 rw [rounds_succ];go_wp2_with fail
 obtain ⟨hi,lo,s,k,h,l,M,A,x,B,y⟩:=m3.out.out;have M:=aaX M;go_quiet (first | (go_at_call 192;refine Calls.quiet_of_same (M.out _)))
 simp only [bH];rename_i nq;have hd:=bO w3 w nq ⟨hs,hb⟩;generalize alJ w3 nq=w4 at*;clear hs hb;obtain ⟨hs,hb⟩:=hd;go_wp2_with fail
 clear A x B y;rw [rounds_succ];go_wp2_with fail
 obtain ⟨hi,lo,s,k,h,l,M,A,x,B,y⟩:=m4.out.out;have M:=aaX M;go_quiet (first | (go_at_call 192;refine Calls.quiet_of_same (M.out _)))
 simp only [bH];rename_i nq;have hd:=bO w4 w nq ⟨hs,hb⟩;generalize alJ w4 nq=w5 at*;clear hs hb;obtain ⟨hs,hb⟩:=hd;go_wp2_with fail
 clear A x B y;rw [rounds_succ];go_wp2_with fail
 obtain ⟨hi,lo,s,k,h,l,M,A,x,B,y⟩:=m5.out.out;have M:=aaX M;go_quiet (first | (go_at_call 192;refine Calls.quiet_of_same (M.out _)))
 simp only [bH];rename_i nq;have hd:=bO w5 w nq ⟨hs,hb⟩;generalize alJ w5 nq=w6 at*;clear hs hb;obtain ⟨hs,hb⟩:=hd;go_wp2_with fail
 clear A x B y;rw [rounds_succ];obtain ⟨z0,z1⟩:=g5.out;have Z:=FF c5 z0 z1;go_wp2_with fail
 go_loopw [7,13] (fun c k wr=>CRel w (fun w1 x=>(((w1.alloc (.cells #[.int .u64 a0,.int .u64 a1,.int .u64 a2,.int .u64 a3] 237)).alloc (.cells #[.int .u64 b0,.int .u64 b1,.int .u64 b2,.int .u64 b3] 237)).alloc (.cells #[.int .u64 0,.int .u64 0,.int .u64 0,.int .u64 0] 237)).alloc (.cells #[.int .u64 0,.int .u64 0,.int .u64 x,.int .u64 p5,.int .u64 p4,.int .u64 p3] 263)) 2 c5 c k wr) (fun _ k _=>(kOf k+1).toNat)
 case atStart=>exact ⟨_,⟨hs,hb⟩,.inl ⟨rfl,rfl,rfl⟩⟩
 clear hs hb;obtain ⟨w7,⟨hs,hb⟩,⟨hp,rfl,rfl,rfl⟩ | ⟨k',hk,rfl,rfl,rfl⟩⟩:=hrel.ways z0
 ·clear hrel;go_wp2_with fail
  go_roundw
  case rel=>exact ⟨_,⟨hs,hb⟩,.inr ⟨rfl,rfl,rfl⟩⟩
  case measure=>simp [kOf]
 clear hrel;go_wp2_with fail
 clear Z z0 z1;rw [rounds_succ];go_wp2_with fail
 refine wp_loop_rounds 5 ?_;rw [rounds_succ];go_wp2_with fail
 obtain ⟨hi,lo,s,k,h,l,M,A,x,B,y⟩:=m6.out.out;have M:=aaX M;go_quiet (first | (go_at_call 192;refine Calls.quiet_of_same (M.out _)))
 simp only [bH];rename_i nq;have hd:=bO w7 w nq ⟨hs,hb⟩;generalize alJ w7 nq=w8 at*;clear hs hb;obtain ⟨hs,hb⟩:=hd;go_wp2_with fail
 clear A x B y;rw [rounds_succ];go_wp2_with fail
 obtain ⟨hi,lo,s,k,h,l,M,A,x,B,y⟩:=m7.out.out;have M:=aaX M;go_quiet (first | (go_at_call 192;refine Calls.quiet_of_same (M.out _)))
 simp only [bH];rename_i nq;have hd:=bO w8 w nq ⟨hs,hb⟩;generalize alJ w8 nq=w9 at*;clear hs hb;obtain ⟨hs,hb⟩:=hd;go_wp2_with fail
 clear A x B y;rw [rounds_succ];go_wp2_with fail
 obtain ⟨hi,lo,s,k,h,l,M,A,x,B,y⟩:=m8.out.out;have M:=aaX M;go_quiet (first | (go_at_call 192;refine Calls.quiet_of_same (M.out _)))
 simp only [bH];rename_i nq;have hd:=bO w9 w nq ⟨hs,hb⟩;generalize alJ w9 nq=w10 at*;clear hs hb;obtain ⟨hs,hb⟩:=hd;go_wp2_with fail
 clear A x B y;rw [rounds_succ];go_wp2_with fail
 obtain ⟨hi,lo,s,k,h,l,M,A,x,B,y⟩:=m9.out.out;have M:=aaX M;go_quiet (first | (go_at_call 192;refine Calls.quiet_of_same (M.out _)))
 simp only [bH];rename_i nq;have hd:=bO w10 w nq ⟨hs,hb⟩;generalize alJ w10 nq=w11 at*;clear hs hb;obtain ⟨hs,hb⟩:=hd;go_wp2_with fail
 clear A x B y;rw [rounds_succ];obtain ⟨z0,z1⟩:=g9.out;have Z:=FF c9 z0 z1;go_wp2_with fail
 go_loopw [7,13] (fun c k wr=>CRel w (fun w1 x=>(((w1.alloc (.cells #[.int .u64 a0,.int .u64 a1,.int .u64 a2,.int .u64 a3] 237)).alloc (.cells #[.int .u64 b0,.int .u64 b1,.int .u64 b2,.int .u64 b3] 237)).alloc (.cells #[.int .u64 0,.int .u64 0,.int .u64 0,.int .u64 0] 237)).alloc (.cells #[.int .u64 0,.int .u64 x,.int .u64 p9,.int .u64 p8,.int .u64 p7,.int .u64 p6] 263)) 1 c9 c k wr) (fun _ k _=>(kOf k+1).toNat)
 case atStart=>exact ⟨_,⟨hs,hb⟩,.inl ⟨rfl,rfl,rfl⟩⟩
 clear hs hb;obtain ⟨w12,⟨hs,hb⟩,⟨hp,rfl,rfl,rfl⟩ | ⟨k',hk,rfl,rfl,rfl⟩⟩:=hrel.ways z0
 ·clear hrel;go_wp2_with fail
  go_roundw
  case rel=>exact ⟨_,⟨hs,hb⟩,.inr ⟨rfl,rfl,rfl⟩⟩
  case measure=>simp [kOf]
 clear hrel;go_wp2_with fail
 clear Z z0 z1;rw [rounds_succ];go_wp2_with fail
 refine wp_loop_rounds 5 ?_;rw [rounds_succ];go_wp2_with fail
 obtain ⟨hi,lo,s,k,h,l,M,A,x,B,y⟩:=m10.out.out;have M:=aaX M;go_quiet (first | (go_at_call 192;refine Calls.quiet_of_same (M.out _)))
 simp only [bH];rename_i nq;have hd:=bO w12 w nq ⟨hs,hb⟩;generalize alJ w12 nq=w13 at*;clear hs hb;obtain ⟨hs,hb⟩:=hd;go_wp2_with fail
 clear A x B y;rw [rounds_succ];go_wp2_with fail
 obtain ⟨hi,lo,s,k,h,l,M,A,x,B,y⟩:=m11.out.out;have M:=aaX M;go_quiet (first | (go_at_call 192;refine Calls.quiet_of_same (M.out _)))
 simp only [bH];rename_i nq;have hd:=bO w13 w nq ⟨hs,hb⟩;generalize alJ w13 nq=w14 at*;clear hs hb;obtain ⟨hs,hb⟩:=hd;go_wp2_with fail
 clear A x B y;rw [rounds_succ];go_wp2_with fail
 obtain ⟨hi,lo,s,k,h,l,M,A,x,B,y⟩:=m12.out.out;have M:=aaX M;go_quiet (first | (go_at_call 192;refine Calls.quiet_of_same (M.out _)))
 simp only [bH];rename_i nq;have hd:=bO w14 w nq ⟨hs,hb⟩;generalize alJ w14 nq=w15 at*;clear hs hb;obtain ⟨hs,hb⟩:=hd;go_wp2_with fail
 clear A x B y;rw [rounds_succ];go_wp2_with fail
 obtain ⟨hi,lo,s,k,h,l,M,A,x,B,y⟩:=m13.out.out;have M:=aaX M;go_quiet (first | (go_at_call 192;refine Calls.quiet_of_same (M.out _)))
 simp only [bH];rename_i nq;have hd:=bO w15 w nq ⟨hs,hb⟩;generalize alJ w15 nq=w16 at*;clear hs hb;obtain ⟨hs,hb⟩:=hd;go_wp2_with fail
 clear A x B y;rw [rounds_succ];obtain ⟨z0,z1⟩:=g13.out;have Z:=FF c13 z0 z1;go_wp2_with fail
 go_loopw [7,13] (fun c k wr=>CRel w (fun w1 x=>(((w1.alloc (.cells #[.int .u64 a0,.int .u64 a1,.int .u64 a2,.int .u64 a3] 237)).alloc (.cells #[.int .u64 b0,.int .u64 b1,.int .u64 b2,.int .u64 b3] 237)).alloc (.cells #[.int .u64 0,.int .u64 0,.int .u64 0,.int .u64 0] 237)).alloc (.cells #[.int .u64 x,.int .u64 p13,.int .u64 p12,.int .u64 p11,.int .u64 p10,.int .u64 p6] 263)) 0 c13 c k wr) (fun _ k _=>(kOf k+1).toNat)
 case atStart=>exact ⟨_,⟨hs,hb⟩,.inl ⟨rfl,rfl,rfl⟩⟩
 clear hs hb;obtain ⟨w17,⟨hs,hb⟩,⟨hp,rfl,rfl,rfl⟩ | ⟨k',hk,rfl,rfl,rfl⟩⟩:=hrel.ways z0
 ·clear hrel;go_wp2_with fail
  go_roundw
  case rel=>exact ⟨_,⟨hs,hb⟩,.inr ⟨rfl,rfl,rfl⟩⟩
  case measure=>simp [kOf]
 clear hrel;have HA:=array_at;rcases hk with rfl | rfl
 ·go_wp2_with fail
  rw [rounds_succ];go_wp2_with fail
  simp [bodyPost,results,Tryz.results220,go_sem,hs];exact ⟨rfl,(((hb.alloc (by rw [hs];exact aaJ _) _).alloc (by simp [hs]) _).alloc (by simp [hs];omega) _).alloc (by simp [hs];omega) _⟩
 ·go_wp2_with fail
  rw [rounds_succ];go_wp2_with fail
  simp [bodyPost,results,Tryz.results220,go_sem,hs];exact ⟨rfl,(((hb.alloc (by rw [hs];exact aaJ _) _).alloc (by simp [hs]) _).alloc (by simp [hs];omega) _).alloc (by simp [hs];omega) _⟩
theorem SJ (a0 a1 a2 a3 b0 b1 b2 b3:Int) (ha0:bQ a0) (ha1:bQ a1) (ha2:bQ a2) (ha3:bQ a3) (hb0:bQ b0) (hb1:bQ b1) (hb2:bQ b2) (hb3:bQ b3):
  ∃s0 s1 s2 s3:Int,(bQ s0∧bQ s1∧bQ s2∧bQ s3)∧(s0*6277101735386680763835789423207666416102355444464034512896+s1*340282366920938463463374607431768211456+s2*18446744073709551616+s3)*115792089237316195423570985008687907853269984665640564039457584007913129639936≤(a0*6277101735386680763835789423207666416102355444464034512896+a1*340282366920938463463374607431768211456+a2*18446744073709551616+a3)*(b0*6277101735386680763835789423207666416102355444464034512896+b1*340282366920938463463374607431768211456+b2*18446744073709551616+b3)∧(a0*6277101735386680763835789423207666416102355444464034512896+a1*340282366920938463463374607431768211456+a2*18446744073709551616+a3)*(b0*6277101735386680763835789423207666416102355444464034512896+b1*340282366920938463463374607431768211456+b2*18446744073709551616+b3)<((s0*6277101735386680763835789423207666416102355444464034512896+s1*340282366920938463463374607431768211456+s2*18446744073709551616+s3)+2)*115792089237316195423570985008687907853269984665640564039457584007913129639936∧∀w,Calls aaZ 220 #[cO a0 a1 a2 a3,cO b0 b1 b2 b3] w (gC w (cO s0 s1 s2 s3)):=by
 have hz:bQ 0:=⟨by omega,by omega⟩;obtain ⟨p1,c1,u1,v1,e1,m1⟩:=mY a3 b1 0 0 ha3 hb1 hz hz;obtain ⟨p2,c2,u2,v2,e2,m2⟩:=mY a3 b0 0 c1 ha3 hb0 hz v1;obtain ⟨p3,c3,u3,v3,e3,m3⟩:=mY a2 b2 p1 0 ha2 hb2 u1 hz;obtain ⟨p4,c4,u4,v4,e4,m4⟩:=mY a2 b1 p2 c3 ha2 hb1 u2 v3;obtain ⟨p5,c5,u5,v5,e5,m5⟩:=mY a2 b0 c2 c4 ha2 hb0 v2 v4;obtain ⟨p6,c6,u6,v6,e6,m6⟩:=mY a1 b3 p3 0 ha1 hb3 u3 hz;obtain ⟨p7,c7,u7,v7,e7,m7⟩:=mY a1 b2 p4 c6 ha1 hb2 u4 v6;obtain ⟨p8,c8,u8,v8,e8,m8⟩:=mY a1 b1 p5 c7 ha1 hb1 u5 v7;obtain ⟨p9,c9,u9,v9,e9,m9⟩:=mY a1 b0 c5 c8 ha1 hb0 v5 v8;obtain ⟨p10,c10,u10,v10,e10,m10⟩:=mY a0 b3 p7 0 ha0 hb3 u7 hz;obtain ⟨p11,c11,u11,v11,e11,m11⟩:=mY a0 b2 p8 c10 ha0 hb2 u8 v10;obtain ⟨p12,c12,u12,v12,e12,m12⟩:=mY a0 b1 p9 c11 ha0 hb1 u9 v11;obtain ⟨p13,c13,u13,v13,e13,m13⟩:=mY a0 b0 c9 c12 ha0 hb0 v9 v12;have HM:=fun w=>nmul_walk a0 a1 a2 a3 b0 b1 b2 b3 p1 c1 p2 c2 p3 c3 p4 c4 p5 c5 p6 c6 p7 c7 p8 c8 p9 c9 p10 c10 p11 c11 p12 c12 p13 c13 m1 m2 m3 m4 m5 m6 m7 m8 m9 m10 m11 m12 m13 v2 v5 v9 v13 w;clear m1 m2 m3 m4 m5 m6 m7 m8 m9 m10 m11 m12 m13;refine ⟨c13,p13,p12,p11,⟨v13,u13,u12,u11⟩,?_,?_,HM⟩
 ·clear HM;have hex:(a0*6277101735386680763835789423207666416102355444464034512896+a1*340282366920938463463374607431768211456+a2*18446744073709551616+a3)*(b0*6277101735386680763835789423207666416102355444464034512896+b1*340282366920938463463374607431768211456+b2*18446744073709551616+b3)=a0*b0*39402006196394479212279040100143613805079739270465446667948293404245721771497210611414266254884915640806627990306816+a0*b1*2135987035920910082395021706169552114602704522356652769947041607822219725780640550022962086936576+a0*b2*115792089237316195423570985008687907853269984665640564039457584007913129639936+a0*b3*6277101735386680763835789423207666416102355444464034512896+a1*b0*2135987035920910082395021706169552114602704522356652769947041607822219725780640550022962086936576+a1*b1*115792089237316195423570985008687907853269984665640564039457584007913129639936+a1*b2*6277101735386680763835789423207666416102355444464034512896+a1*b3*340282366920938463463374607431768211456+a2*b0*115792089237316195423570985008687907853269984665640564039457584007913129639936+a2*b1*6277101735386680763835789423207666416102355444464034512896+a2*b2*340282366920938463463374607431768211456+a2*b3*18446744073709551616+a3*b0*6277101735386680763835789423207666416102355444464034512896+a3*b1*340282366920938463463374607431768211456+a3*b2*18446744073709551616+a3*b3*1:=by grind
  rw [hex];clear hex;have n23:0≤a2*b3:=aeJ ha2.1 hb3.1;have x23:a2*b3≤18446744073709551615*18446744073709551615:=anJ (by have:=ha2.2;omega) (by have:=hb3.2;omega) hb3.1 (by decide);have n32:0≤a3*b2:=aeJ ha3.1 hb2.1;have x32:a3*b2≤18446744073709551615*18446744073709551615:=anJ (by have:=ha3.2;omega) (by have:=hb2.2;omega) hb2.1 (by decide);have n33:0≤a3*b3:=aeJ ha3.1 hb3.1;have x33:a3*b3≤18446744073709551615*18446744073709551615:=anJ (by have:=ha3.2;omega) (by have:=hb3.2;omega) hb3.1 (by decide);obtain ⟨r4,R4⟩:=u10;obtain ⟨r5,R5⟩:=u6;clear ha0 ha1 ha2 ha3 hb0 hb1 hb2 hb3;generalize a0*b0=P00 at*;generalize a0*b1=P01 at*;generalize a0*b2=P02 at*;generalize a0*b3=P03 at*;generalize a1*b0=P10 at*;generalize a1*b1=P11 at*;generalize a1*b2=P12 at*;generalize a1*b3=P13 at*;generalize a2*b0=P20 at*;generalize a2*b1=P21 at*;generalize a2*b2=P22 at*;generalize a2*b3=P23 at*;generalize a3*b0=P30 at*;generalize a3*b1=P31 at*;generalize a3*b2=P32 at*;generalize a3*b3=P33 at*;clear hz;omega
 ·clear HM;have hex:(a0*6277101735386680763835789423207666416102355444464034512896+a1*340282366920938463463374607431768211456+a2*18446744073709551616+a3)*(b0*6277101735386680763835789423207666416102355444464034512896+b1*340282366920938463463374607431768211456+b2*18446744073709551616+b3)=a0*b0*39402006196394479212279040100143613805079739270465446667948293404245721771497210611414266254884915640806627990306816+a0*b1*2135987035920910082395021706169552114602704522356652769947041607822219725780640550022962086936576+a0*b2*115792089237316195423570985008687907853269984665640564039457584007913129639936+a0*b3*6277101735386680763835789423207666416102355444464034512896+a1*b0*2135987035920910082395021706169552114602704522356652769947041607822219725780640550022962086936576+a1*b1*115792089237316195423570985008687907853269984665640564039457584007913129639936+a1*b2*6277101735386680763835789423207666416102355444464034512896+a1*b3*340282366920938463463374607431768211456+a2*b0*115792089237316195423570985008687907853269984665640564039457584007913129639936+a2*b1*6277101735386680763835789423207666416102355444464034512896+a2*b2*340282366920938463463374607431768211456+a2*b3*18446744073709551616+a3*b0*6277101735386680763835789423207666416102355444464034512896+a3*b1*340282366920938463463374607431768211456+a3*b2*18446744073709551616+a3*b3*1:=by grind
  rw [hex];clear hex;have n23:0≤a2*b3:=aeJ ha2.1 hb3.1;have x23:a2*b3≤18446744073709551615*18446744073709551615:=anJ (by have:=ha2.2;omega) (by have:=hb3.2;omega) hb3.1 (by decide);have n32:0≤a3*b2:=aeJ ha3.1 hb2.1;have x32:a3*b2≤18446744073709551615*18446744073709551615:=anJ (by have:=ha3.2;omega) (by have:=hb2.2;omega) hb2.1 (by decide);have n33:0≤a3*b3:=aeJ ha3.1 hb3.1;have x33:a3*b3≤18446744073709551615*18446744073709551615:=anJ (by have:=ha3.2;omega) (by have:=hb3.2;omega) hb3.1 (by decide);obtain ⟨r4,R4⟩:=u10;obtain ⟨r5,R5⟩:=u6;clear ha0 ha1 ha2 ha3 hb0 hb1 hb2 hb3;generalize a0*b0=P00 at*;generalize a0*b1=P01 at*;generalize a0*b2=P02 at*;generalize a0*b3=P03 at*;generalize a1*b0=P10 at*;generalize a1*b1=P11 at*;generalize a1*b2=P12 at*;generalize a1*b3=P13 at*;generalize a2*b0=P20 at*;generalize a2*b1=P21 at*;generalize a2*b2=P22 at*;generalize a2*b3=P23 at*;generalize a3*b0=P30 at*;generalize a3*b1=P31 at*;generalize a3*b2=P32 at*;generalize a3*b3=P33 at*;clear hz;omega
end
end Go.Proofs.YtajpgkpdhcbngaaGreatDoor
