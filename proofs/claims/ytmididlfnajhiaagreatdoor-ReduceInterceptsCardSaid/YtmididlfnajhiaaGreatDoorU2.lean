/-
  The sine's plain law, first part: differences of the polynomials, their approximations in integers, and numbers side by side in one number. No program here. The sine's plain law, second part: every.
-/
import Derived.Test.YtmididlfnajhiaaGreatDoorChecked
import Derived.WalkKit
import Derived.Lib.Hide
import Derived.Below
import Derived.IntWalk
import Derived.Outline
import Derived.Shelf.Spec.BitsCarry
import Derived.Deep.RegionWith
import Derived.RegionTactic
import Derived.Shelf.Bits.Mul64
import Derived.LoopN
import Derived.WalkSpells
import Derived.StillTactics
import Derived.Shelf.Small.Bits
import Derived.Lib.ItoaNum
import Derived.RegionCalls
import Derived.Deep.QuietTactic
import Derived.BigQuiet
import Derived.WalkSmall
import Derived.Laws.Cover3
set_option maxRecDepth 100000
set_option maxHeartbeats 4000000
open Go.RowKit.Below renaming refl→acQ
open _root_.Int renaming ediv_nonneg→asQ,emod_lt_of_pos→ahJ,emod_nonneg→ajQ,eq_ofNat_of_zero_le→ajJ,lt_or_eq_of_le→apZ,mul_assoc→avQ,mul_comm→akQ,mul_le_mul→aiX,mul_nonneg→aeZ,natCast_mul→aiQ,tdiv_eq_ediv_of_nonneg→aiZ
open Go.Lib renaming bitLen→amQ,hid→aaQ
open _root_.Nat renaming add_mul→auX,beq→alZ,ble→awX,div_add_mod→aqZ,div_eq_of_lt→aiJ,eq_of_beq_eq_true→afQ,eq_zero_or_pos→agJ,land→atZ,le_refl→aaX,lt_of_le_of_lt→anZ,lt_or_ge→abZ,mod_lt→arQ,mul_le_mul→agQ,mul_one→baQ,sub_add_cancel→auJ,testBit_two_pow_mul_add→anJ,zero_add→anQ,zero_le→adX
open _root_.Rat renaming le_of_mul_le_mul_left→apJ,mul_le_mul_of_nonneg_left→aaJ,mul_le_mul_of_nonneg_right→abQ,mul_nonneg→aaZ,natCast_add→agX,natCast_mul→aeJ
open Go.World renaming drewN→amZ
open Go.IntKind (i64 u64)
namespace Go.Proofs.YtmididlfnajhiaaGreatDoor
namespace SM
theorem NO {u v a b:Rat} (hu:-a≤u∧u≤a) (hv:-b≤v∧v≤b):-(a*b)≤u*v∧u*v≤a*b:=by
 have ha:0≤a:=by grind
 have hb:0≤b:=by grind
 have h1:0≤(a-u)*(b+v):=aaZ (by grind) (by grind);have h2:0≤(a+u)*(b-v):=aaZ (by grind) (by grind);have h3:0≤(a-u)*(b-v):=aaZ (by grind) (by grind);have h4:0≤(a+u)*(b+v):=aaZ (by grind) (by grind);constructor<;>grind
def d1 (f:Nat→Rat) (n:Nat):Rat:=f (n+1)-f n
def d2 (f:Nat→Rat) (n:Nat):Rat:=f (n+2)-2*f (n+1)+f n
def d3 (f:Nat→Rat) (n:Nat):Rat:=f (n+3)-3*f (n+2)+3*f (n+1)-f n
def d4 (f:Nat→Rat) (n:Nat):Rat:=f (n+4)-4*f (n+3)+6*f (n+2)-4*f (n+1)+f n
theorem d1_step (f:Nat→Rat) (n:Nat):d1 f (n+1)=d1 f n+d2 f n:=by simp only [d1,d2];grind
theorem d2_step (f:Nat→Rat) (n:Nat):d2 f (n+1)=d2 f n+d3 f n:=by simp only [d2,d3];grind
theorem d3_step (f:Nat→Rat) (n:Nat):d3 f (n+1)=d3 f n+d4 f n:=by simp only [d3,d4];grind
structure Jet where
 b0:Rat
 b1:Rat
 b2:Rat
 b3:Rat
 b4:Rat
def aY (v b:Rat):Prop:=-b≤v∧v≤b
structure Has (N:Nat) (f:Nat→Rat) (j:Jet):Prop where
 h0:∀n,n≤N→aY (f n) j.b0
 h1:∀n,n+1≤N→aY (d1 f n) j.b1
 h2:∀n,n+2≤N→aY (d2 f n) j.b2
 h3:∀n,n+3≤N→aY (d3 f n) j.b3
 h4:∀n,n+4≤N→aY (d4 f n) j.b4
theorem aY.mul {u v a b:Rat} (hu:aY u a) (hv:aY v b):aY (u*v) (a*b):=NO hu hv
theorem aY.add {u v a b:Rat} (hu:aY u a) (hv:aY v b):aY (u+v) (a+b):=by unfold aY at*;grind
theorem aY.scale {v b c:Rat} (hv:aY v b) (hc:0≤c):aY (c*v) (c*b):=aY.mul (u:=c) (a:=c) ⟨by grind,by grind⟩ hv
theorem aY.eq {u v b:Rat} (hv:aY v b) (h:u=v):aY u b:=by rw [h];exact hv
theorem aY.mono {v b c:Rat} (hv:aY v b) (h:b≤c):aY v c:=by unfold aY at*;grind
def jmul (x y:Jet):Jet:=⟨x.b0*y.b0,x.b0*y.b1+x.b1*y.b0,x.b0*y.b2+2*(x.b1*y.b1)+x.b2*y.b0,
 x.b0*y.b3+3*(x.b1*y.b2)+3*(x.b2*y.b1)+x.b3*y.b0,
 x.b0*y.b4+4*(x.b1*y.b3)+6*(x.b2*y.b2)+4*(x.b3*y.b1)+x.b4*y.b0⟩
theorem Has.mul {N:Nat} {f g:Nat→Rat} {x y:Jet} (hf:Has N f x) (hg:Has N g y):Has N (fun n=>f n*g n) (jmul x y):=by
 refine ⟨fun n hn=>(hf.h0 n hn).mul (hg.h0 n hn),fun n hn=>?_,fun n hn=>?_,fun n hn=>?_,fun n hn=>?_⟩
 ·refine (((hf.h0 (n+1) (by omega)).mul (hg.h1 n (by omega))).add ((hf.h1 n (by omega)).mul (hg.h0 n (by omega)))).eq ?_;simp only [d1];grind
 ·refine ((((hf.h0 (n+2) (by omega)).mul (hg.h2 n (by omega))).add (((hf.h1 (n+1) (by omega)).mul (hg.h1 n (by omega))).scale (c:=2) (by grind))).add ((hf.h2 n (by omega)).mul (hg.h0 n (by omega)))).eq ?_;simp only [d1,d2];grind
 ·refine (((((hf.h0 (n+3) (by omega)).mul (hg.h3 n (by omega))).add (((hf.h1 (n+2) (by omega)).mul (hg.h2 n (by omega))).scale (c:=3) (by grind))).add (((hf.h2 (n+1) (by omega)).mul (hg.h1 n (by omega))).scale (c:=3) (by grind))).add ((hf.h3 n (by omega)).mul (hg.h0 n (by omega)))).eq ?_;simp only [d1,d2,d3];grind
 ·refine ((((((hf.h0 (n+4) (by omega)).mul (hg.h4 n (by omega))).add (((hf.h1 (n+3) (by omega)).mul (hg.h3 n (by omega))).scale (c:=4) (by grind))).add (((hf.h2 (n+2) (by omega)).mul (hg.h2 n (by omega))).scale (c:=6) (by grind))).add (((hf.h3 (n+1) (by omega)).mul (hg.h1 n (by omega))).scale (c:=4) (by grind))).add ((hf.h4 n (by omega)).mul (hg.h0 n (by omega)))).eq ?_;simp only [d1,d2,d3,d4];grind
def BN (x:Jet):Jet:=⟨1+x.b0,x.b1,x.b2,x.b3,x.b4⟩
theorem Has.less {N:Nat} {f:Nat→Rat} {x:Jet} (hf:Has N f x):Has N (fun n=>1-f n) (BN x):=by
 refine ⟨fun n hn=>?_,fun n hn=>?_,fun n hn=>?_,fun n hn=>?_,fun n hn=>?_⟩
 ·have:=hf.h0 n hn;unfold aY BN at*;grind
 ·have:=hf.h1 n hn;unfold aY BN at*;simp only [d1] at*;grind
 ·have:=hf.h2 n hn;unfold aY BN at*;simp only [d2] at*;grind
 ·have:=hf.h3 n hn;unfold aY BN at*;simp only [d3] at*;grind
 ·have:=hf.h4 n hn;unfold aY BN at*;simp only [d4] at*;grind
def jscale (c:Rat) (x:Jet):Jet:=⟨c*x.b0,c*x.b1,c*x.b2,c*x.b3,c*x.b4⟩
theorem Has.scale {N:Nat} {f:Nat→Rat} {x:Jet} {c:Rat} (hc:0≤c) (hf:Has N f x):Has N (fun n=>c*f n) (jscale c x):=by
 refine ⟨fun n hn=>(hf.h0 n hn).scale hc,fun n hn=>((hf.h1 n hn).scale hc).eq ?_,fun n hn=>((hf.h2 n hn).scale hc).eq ?_,fun n hn=>((hf.h3 n hn).scale hc).eq ?_,fun n hn=>((hf.h4 n hn).scale hc).eq ?_⟩
 ·simp only [d1];grind
 ·simp only [d2];grind
 ·simp only [d3];grind
 ·simp only [d4];grind
def wD (c:Rat) (N:Nat):Jet:=⟨c*N,c,0,0,0⟩
theorem has_line {c:Rat} (hc:0≤c) (N:Nat):Has N (fun n=>c*(n:Rat)) (wD c N):=by
 refine ⟨fun n hn=>?_,fun n _=>?_,fun n _=>?_,fun n _=>?_,fun n _=>?_⟩
 ·have h1:(n:Rat)≤(N:Rat):=by exact_mod_cast hn
  have h2:=aaJ h1 hc;have h3:0≤c*(n:Rat):=aaZ hc (by exact_mod_cast adX n);unfold aY wD;grind
 ·refine aY.eq (v:=c) ⟨by simp only [wD];grind,by simp only [wD];grind⟩ ?_;simp only [d1];push_cast;grind
 ·refine aY.eq (v:=0) ⟨by simp only [wD];grind,by simp only [wD];grind⟩ ?_;simp only [d2];push_cast;grind
 ·refine aY.eq (v:=0) ⟨by simp only [wD];grind,by simp only [wD];grind⟩ ?_;simp only [d3];push_cast;grind
 ·refine aY.eq (v:=0) ⟨by simp only [wD];grind,by simp only [wD];grind⟩ ?_;simp only [d4];push_cast;grind
theorem cY (a:Rat) (h:0≤a):0≤1/a:=by
 rw [Rat.div_def,Rat.one_mul];by_cases h0:a=0
 ·subst h0;simp
 ·have:0<a:=by grind
  have:=Rat.inv_pos.2 this;grind
def hR (odd:Nat) (Y:Rat):Nat→Rat→Rat
 | 0,h=>h
 | k+1,h=>hR odd Y k (1/(((2*k+1+odd)*(2*k+2+odd):Nat):Rat)*(Y*(1-h)))
def hJ (odd:Nat) (Y:Jet):Nat→Jet→Jet
 | 0,h=>h
 | k+1,h=>hJ odd Y k (jscale (1/(((2*k+1+odd)*(2*k+2+odd):Nat):Rat)) (jmul Y (BN h)))
theorem has_h (odd N:Nat) (Y:Nat→Rat) (y:Jet) (hY:Has N Y y):∀(k:Nat) (h:Nat→Rat) (x:Jet),Has N h x→Has N (fun n=>hR odd (Y n) k (h n)) (hJ odd y k x)
 | 0,h,x,hh=>hh
 | k+1,h,x,hh=>has_h odd N Y y hY k _ _ ((hY.mul hh.less).scale (cY _ (by exact_mod_cast adX _)))
def LS:Rat:=248902613312231085230521944622/79228162514264337593543950336
def th:Rat:=LS/10800000
def xR (n:Nat):Rat:=th*(n:Rat)
def tS (n:Nat):Rat:=xR n*(1-hR 1 (xR n*xR n) 10 0)
def tC (n:Nat):Rat:=1-hR 0 (xR n*xR n) 10 0
def NN:Nat:=2700100
def jx:Jet:=wD th NN
def jz:Jet:=⟨0,0,0,0,0⟩
def jS:Jet:=jmul jx (BN (hJ 1 (jmul jx jx) 10 jz))
def jC:Jet:=BN (hJ 0 (jmul jx jx) 10 jz)
theorem has_z (N:Nat):Has N (fun _=>0) jz:=by
 refine ⟨fun n _=>?_,fun n _=>?_,fun n _=>?_,fun n _=>?_,fun n _=>?_⟩<;>(simp only [d1,d2,d3,d4,jz,aY];grind)
theorem XK:Has NN xR jx:=has_line (by unfold th LS;grind) NN
theorem has_S:Has NN tS jS:=XK.mul (has_h 1 NN _ _ (XK.mul XK) 10 _ _ (has_z NN)).less
theorem has_C:Has NN tC jC:=(has_h 0 NN _ _ (XK.mul XK) 10 _ _ (has_z NN)).less
theorem jS4:77371252455336267181195264*jS.b4≤1:=by decide+kernel
theorem jC4:77371252455336267181195264*jC.b4≤1:=by decide+kernel
def S:Nat:=79228162514264337593543950336
def PI96:Nat:=248902613312231085230521944622
def hN (odd y:Nat) (k h:Nat):Nat:=Nat.rec (motive:=fun _=>Nat→Nat) (fun h=>h) (fun k ih h=>ih (((y/((2*k+1+odd)*(2*k+2+odd)))*(S-h))/S)) k h
def xN (n:Nat):Nat:=n*PI96/10800000
def aS (n:Nat):Nat:=(xN n*(S-hN 1 ((xN n*xN n)/S) 10 0))/81129638414606681695789005144064
def aC (n:Nat):Nat:=(S-hN 0 ((xN n*xN n)/S) 10 0)/1024
theorem mV (a d:Nat) (hd:0<d):(d:Rat)*((a/d:Nat):Rat)≤(a:Rat)∧(a:Rat)≤(d:Rat)*((a/d:Nat):Rat)+(d:Rat):=by
 have h:=aqZ a d;have h2:=arQ a hd;have e:(a:Rat)=(d:Rat)*((a/d:Nat):Rat)+((a%d:Nat):Rat):=by exact_mod_cast h.symm
 have e0:(0:Rat)≤((a%d:Nat):Rat):=by exact_mod_cast adX _
 have e1:((a%d:Nat):Rat)≤(d:Rat):=by exact_mod_cast Nat.le_of_lt h2
 constructor<;>grind
theorem hN_succ (odd y k h:Nat):hN odd y (k+1) h=hN odd y k (((y/((2*k+1+odd)*(2*k+2+odd)))*(S-h))/S):=rfl
def SR:Rat:=79228162514264337593543950336
theorem uV:((S:Nat):Rat)=SR:=rfl
theorem lin_up {SR DS p1 p2 p3 p4 p5 X:Rat} (h32:32≤SR) (hDS:2*SR≤DS) (w1:-(7/10*SR*8)≤p1∧p1≤7/10*SR*8) (w2:-(4*SR)≤p2∧p2≤4*SR) (w3:-(4*8)≤p3∧p3≤4*8)
  (w4:-DS≤p4∧p4≤DS) (w5:0≤p5) (w6:p5≤DS) (key:X=-p1+p2-p3+p4+p5):DS*(-8)≤X∧X≤DS*8:=by
 constructor<;>grind
theorem step_bd {y q h h' d:Nat} {Y H D:Rat} (hd:2≤d) (hD:(d:Rat)=D) (hq:q=y/d) (hh':h'=q*(S-h)/S)
  (hY:0≤SR*Y-(y:Rat)∧SR*Y-(y:Rat)≤4) (hY1:Y≤7/10) (hhS:h≤S) (hH:aY (SR*H-(h:Rat)) 8):
  h'≤S∧aY (SR*(1/D*(Y*(1-H)))-(h':Rat)) 8:=by
 have hS0:(0:Rat)<SR:=by unfold SR;grind
 have hS32:(32:Rat)≤SR:=by unfold SR;grind
 have hDp:2≤D:=by rw [←hD];exact_mod_cast hd
 have k1:=mV y d (by omega);rw [←hq,hD] at k1;have k2:=mV (q*(S-h)) S (by decide);rw [←hh',uV] at k2;have ec:((q*(S-h):Nat):Rat)=(q:Rat)*(SR-(h:Rat)):=by
  rw [←uV];have:((S-h:Nat):Rat)=(S:Rat)-(h:Rat):=by
   have e:=auJ hhS;have e2:((S-h:Nat):Rat)+(h:Rat)=(S:Rat):=by exact_mod_cast e
   grind
  push_cast
  rw [this]
 rw [ec] at k2;have hr0:(0:Rat)≤(h:Rat):=by exact_mod_cast adX h
 have hrS:(h:Rat)≤SR:=by rw [←uV];exact_mod_cast hhS
 have yr0:(0:Rat)≤(y:Rat):=by exact_mod_cast adX y
 have qr0:(0:Rat)≤(q:Rat):=by exact_mod_cast adX q
 have hDi:D*(1/D*(Y*(1-H)))=Y*(1-H):=by
  have:D≠0:=by grind
  grind
 have hYS0:SR*Y≤SR*(7/10):=aaJ hY1 (by grind);have hyS:y≤S:=by
  have:(y:Rat)≤(S:Rat):=by rw [uV];grind
  exact_mod_cast this
 have hqS:q≤S:=by rw [hq];exact Nat.le_trans (Nat.div_le_self _ _) hyS
 generalize hZ:1/D*(Y*(1-H))=Z at*;generalize (y:Rat)=yr at*;generalize (q:Rat)=qr at*;have hYS:SR*Y≤SR*(7/10):=aaJ hY1 (by grind);have w1:aY (yr*(SR*H-(h:Rat))) (7/10*SR*8):=aY.mul ⟨by grind,by grind⟩ hH;have w2:aY ((SR*Y-yr)*(SR-(h:Rat))) (4*SR):=aY.mul ⟨by grind,by grind⟩ ⟨by grind,by grind⟩;have w3:aY ((SR*Y-yr)*(SR*H-(h:Rat))) (4*8):=aY.mul ⟨by grind,by grind⟩ hH;have w4:aY ((yr-D*qr)*(SR-(h:Rat))) (D*SR):=aY.mul ⟨by grind,by grind⟩ ⟨by grind,by grind⟩;have w5:0≤D*(qr*(SR-(h:Rat))-SR*(h':Rat)):=aaZ (by grind) (by grind);have w6:D*(qr*(SR-(h:Rat))-SR*(h':Rat))≤D*SR:=aaJ (by grind) (by grind);have key:D*SR*(SR*Z-(h':Rat))=-(yr*(SR*H-(h:Rat)))+(SR*Y-yr)*(SR-(h:Rat))-(SR*Y-yr)*(SR*H-(h:Rat))+(yr-D*qr)*(SR-(h:Rat))+D*(qr*(SR-(h:Rat))-SR*(h':Rat)):=by
  have:D*SR*(SR*Z)=SR*SR*(D*Z):=by grind
  have e2:D*SR*(SR*Z-(h':Rat))=SR*SR*(D*Z)-D*SR*(h':Rat):=by grind
  rw [e2,hDi];grind
 have hDS:2*SR≤D*SR:=by
  have:=aaJ hDp (show 0≤SR by grind);grind
 have hDS0:0<D*SR:=by grind
 obtain ⟨lo,up⟩:=lin_up hS32 hDS w1 w2 w3 w4 w5 w6 key;refine ⟨?_,?_,?_⟩
 ·have:h'≤S:=by
   rw [hh'];apply Nat.div_le_of_le_mul;exact agQ hqS (Nat.sub_le _ _)
  exact this
 ·exact apJ lo hDS0
 ·exact apJ up hDS0
theorem hN_bd (odd y:Nat) (Y:Rat) (hY:0≤SR*Y-(y:Rat)∧SR*Y-(y:Rat)≤4) (hY1:Y≤7/10):
  ∀(k h:Nat) (H:Rat),h≤S→aY (SR*H-(h:Rat)) 8→hN odd y k h≤S∧aY (SR*hR odd Y k H-(hN odd y k h:Rat)) 8
 | 0,h,H,h1,h2=>⟨h1,h2⟩
 | k+1,h,H,h1,h2=>by
  have hd:2≤(2*k+1+odd)*(2*k+2+odd):=by
   have:1*2≤(2*k+1+odd)*(2*k+2+odd):=agQ (by omega) (by omega);omega
  obtain ⟨i1,i2⟩:=step_bd hd rfl rfl rfl hY hY1 h1 h2;rw [hN_succ];exact hN_bd odd y Y hY hY1 k _ _ i1 i2
theorem xN_bd (n:Nat):0≤SR*xR n-(xN n:Rat)∧SR*xR n-(xN n:Rat)≤1:=by
 have h:=mV (n*PI96) 10800000 (by decide);have e:SR*xR n=(n:Rat)*248902613312231085230521944622/10800000:=by
  unfold SR xR th LS;grind
 have e2:((n*PI96:Nat):Rat)=(n:Rat)*248902613312231085230521944622:=by
  have:(PI96:Rat)=248902613312231085230521944622:=rfl;rw [←this];push_cast;rfl
 rw [e2] at h;unfold xN;rw [e];have h3:(((10800000:Nat):Rat))=10800000:=rfl;rw [h3] at h;constructor<;>grind
theorem rX (n:Nat) (hn:n≤2700100):0≤xR n∧xR n≤4/5:=by
 have h0:(0:Rat)≤(n:Rat):=by exact_mod_cast adX n
 have h1:(n:Rat)≤2700100:=by exact_mod_cast hn
 unfold xR th LS;constructor<;>grind
theorem yN_bd (n:Nat) (hn:n≤2700100):(0≤SR*(xR n*xR n)-((xN n*xN n/S:Nat):Rat)∧SR*(xR n*xR n)-((xN n*xN n/S:Nat):Rat)≤4)∧xR n*xR n≤7/10:=by
 have hx:=xN_bd n;have hr:=rX n hn;have hd:=mV (xN n*xN n) S (by decide);rw [uV] at hd;have ec:((xN n*xN n:Nat):Rat)=(xN n:Rat)*(xN n:Rat):=by push_cast;rfl
 rw [ec] at hd;have hS32:(32:Rat)≤SR:=by unfold SR;grind
 have x0:(0:Rat)≤(xN n:Rat):=by exact_mod_cast adX _
 generalize ((xN n*xN n/S:Nat):Rat)=y at*;generalize (xN n:Rat)=X at*;generalize xR n=r at*;have p1:0≤(SR*r-X)*(SR*r+X):=aaZ (by grind) (by grind);have hSr:SR*r≤SR*(4/5):=aaJ hr.2 (by grind);have p2:0≤(1-(SR*r-X))*(SR*r+X):=aaZ (by grind) (by grind);have key:SR*(SR*(r*r))=(SR*r-X)*(SR*r+X)+X*X:=by grind
 have sr2:r*r≤7/10:=by
  have q1:0≤(4/5-r)*(4/5+r):=aaZ (by grind) (by grind);grind
 have hSp:(0:Rat)<SR:=by grind
 refine ⟨⟨?_,?_⟩,sr2⟩
 ·have:SR*y≤SR*(SR*(r*r)):=by grind
  have:=apJ this hSp;grind
 ·have e3:SR*(SR*(r*r))≤SR*(y+4):=by
   have:(1-(SR*r-X))*(SR*r+X)=(SR*r+X)-(SR*r-X)*(SR*r+X):=by grind
   grind
  have:=apJ e3 hSp;grind
def iA:Rat:=77371252455336267181195264
theorem OI (n:Nat) (hn:n≤2700100):aY (iA*tC n-(aC n:Rat)) 2:=by
 obtain ⟨h1,h2⟩:=yN_bd n hn;obtain ⟨i1,i2⟩:=hN_bd 0 (xN n*xN n/S) _ h1 h2 10 0 0 (adX _) ⟨by grind,by grind⟩;unfold tC aC;generalize hN 0 (xN n*xN n/S) 10 0=h at*;generalize hR 0 (xR n*xR n) 10 0=H at*;have hd:=mV (S-h) 1024 (by decide);have ec:((S-h:Nat):Rat)=SR-(h:Rat):=by
  have e:=auJ i1;have e2:((S-h:Nat):Rat)+(h:Rat)=(S:Rat):=by exact_mod_cast e
  rw [uV] at e2;grind
 rw [ec] at hd;have h3:(((1024:Nat):Rat))=1024:=rfl;rw [h3] at hd;have eG:SR=1024*iA:=by unfold SR iA;grind
 unfold aY at*;rw [eG] at i2 hd;constructor<;>grind
theorem EP (n:Nat) (hn:n≤2700100):aY (iA*tS n-(aS n:Rat)) 2:=by
 obtain ⟨h1,h2⟩:=yN_bd n hn;obtain ⟨i1,i2⟩:=hN_bd 1 (xN n*xN n/S) _ h1 h2 10 0 0 (adX _) ⟨by grind,by grind⟩;have hx:=xN_bd n;have hr:=rX n hn;unfold tS aS;generalize hN 1 (xN n*xN n/S) 10 0=h at*;generalize hR 1 (xR n*xR n) 10 0=H at*;have hd:=mV (xN n*(S-h)) 81129638414606681695789005144064 (by decide);have ec:((xN n*(S-h):Nat):Rat)=(xN n:Rat)*(SR-(h:Rat)):=by
  have e:=auJ i1;have e2:((S-h:Nat):Rat)+(h:Rat)=(S:Rat):=by exact_mod_cast e
  rw [uV] at e2;push_cast
  have:((S-h:Nat):Rat)=SR-(h:Rat):=by grind
  rw [this]
 rw [ec] at hd;have h3:(((81129638414606681695789005144064:Nat):Rat))=1024*SR:=by
  have:((81129638414606681695789005144064:Nat):Rat)=81129638414606681695789005144064:=rfl;rw [this];unfold SR;grind
 rw [h3] at hd;have hr0:(0:Rat)≤(h:Rat):=by exact_mod_cast adX h
 have hrS:(h:Rat)≤SR:=by rw [←uV];exact_mod_cast i1
 have x0:(0:Rat)≤(xN n:Rat):=by exact_mod_cast adX _
 have hS32:(32:Rat)≤SR:=by unfold SR;grind
 have eG:SR=1024*iA:=by unfold SR iA;grind
 generalize ((xN n*(S-h)/81129638414606681695789005144064:Nat):Rat)=a at*;generalize (xN n:Rat)=X at*;generalize xR n=r at*;generalize (h:Rat)=hh at*;have hSr:SR*r≤SR*(4/5):=aaJ hr.2 (by grind);have w1:aY ((SR*r-X)*(SR-hh)) (1*SR):=aY.mul ⟨by grind,by grind⟩ ⟨by grind,by grind⟩;have w2:aY ((SR*r)*(SR*H-hh)) (SR*(4/5)*8):=aY.mul ⟨by grind,by grind⟩ i2;have key:SR*(SR*(r*(1-H)))=X*(SR-hh)+(SR*r-X)*(SR-hh)-(SR*r)*(SR*H-hh):=by grind
 have key2:SR*(1024*(iA*(r*(1-H))))=SR*(SR*(r*(1-H))):=by rw [←Rat.mul_assoc 1024,←eG]
 rw [key] at key2;have hSp:(0:Rat)<SR*1024:=by grind
 generalize iA*(r*(1-H))=g at*;generalize X*(SR-hh)=P at*;generalize (SR*r-X)*(SR-hh)=P1 at*;generalize (SR*r)*(SR*H-hh)=P2 at*;unfold aY at*;constructor
 ·have:(SR*1024)*(-2)≤(SR*1024)*(g-a):=by grind
  exact apJ this hSp
 ·have:(SR*1024)*(g-a)≤(SR*1024)*2:=by grind
  exact apJ this hSp
def dL (f:Nat→Nat) (m:Nat):Nat:=Nat.rec (motive:=fun _=>Nat) 0 (fun i acc=>acc+f i*2^(96*i)) m
theorem gU (f:Nat→Nat):dL f 0=0:=rfl
theorem cR (f:Nat→Nat) (m:Nat):dL f (m+1)=dL f m+f m*2^(96*m):=rfl
theorem pN (f:Nat→Nat):∀m,(∀i,i<m→f i<2^96)→dL f m<2^(96*m)
 | 0,_=>by rw [gU];simp
 | m+1,h=>by
  have ih:=pN f m (fun i hi=>h i (by omega));have hm:=h m (by omega);rw [cR,show 96*(m+1)=96+96*m by omega,Nat.pow_add];have:(f m+1)*2^(96*m)≤2^96*2^(96*m):=Nat.mul_le_mul_right _ hm;rw [auX] at this;omega
theorem zS (k a b x y:Nat) (ha:a<2^k) (hb:b<2^k):(a+x*2^k)&&& (b+y*2^k)=(a&&& b)+(x&&& y)*2^k:=by
 have e:∀u z:Nat,u+z*2^k=2^k*z+u:=fun u z=>by rw [Nat.mul_comm,Nat.add_comm]
 have hab:a&&& b<2^k:=Nat.and_lt_two_pow _ hb;rw [e,e,e];apply Nat.eq_of_testBit_eq;intro j;rw [Nat.testBit_and,anJ _ ha,anJ _ hb,anJ _ hab];split<;>simp
theorem lI (f g:Nat→Nat):∀m,(∀i,i<m→f i<2^96)→(∀i,i<m→g i<2^96)→dL f m&&& dL g m=dL (fun i=>f i&&& g i) m
 | 0,_,_=>by rw [gU,gU,gU];rfl
 | m+1,hf,hg=>by
  rw [cR,cR,cR,zS _ _ _ _ _ (pN f m fun i hi=>hf i (by omega)) (pN g m fun i hi=>hg i (by omega)),lI f g m (fun i hi=>hf i (by omega)) (fun i hi=>hg i (by omega))]
theorem tG (f g:Nat→Nat):∀m,(∀i,i<m→f i<2^96)→(∀i,i<m→g i<2^96)→dL f m=dL g m→∀i,i<m→f i=g i
 | 0,_,_,_,i,hi=>by omega
 | m+1,hf,hg,h,i,hi=>by
  have h1:=pN f m fun i hi=>hf i (by omega);have h2:=pN g m fun i hi=>hg i (by omega);rw [cR,cR] at h;have hp:0<2^(96*m):=Nat.two_pow_pos _;have e1:f m=g m:=by
   have a1:(dL f m+f m*2^(96*m))/2^(96*m)=f m:=by
    rw [Nat.add_mul_div_right _ _ hp,aiJ h1,anQ]
   have a2:(dL g m+g m*2^(96*m))/2^(96*m)=g m:=by
    rw [Nat.add_mul_div_right _ _ hp,aiJ h2,anQ]
   rw [←a1,h,a2]
  rw [e1] at h;rcases abZ i m with hlt | hge
  ·exact tG f g m (fun i hi=>hf i (by omega)) (fun i hi=>hg i (by omega)) (by omega) i hlt
  ·have:i=m:=by omega
   rw [this];exact e1
theorem nE (f g:Nat→Nat):∀m,dL f m+dL g m=dL (fun i=>f i+g i) m
 | 0=>rfl
 | m+1=>by rw [cR,cR,cR,←nE f g m,auX];omega
theorem iE (c:Nat) (f:Nat→Nat):∀m,c*dL f m=dL (fun i=>c*f i) m
 | 0=>rfl
 | m+1=>by rw [cR,cR,←iE c f m,Nat.mul_add,Nat.mul_assoc]
def pk (f:Nat→Int) (m:Nat):Int:=Nat.rec (motive:=fun _=>Int) 0 (fun i acc=>acc+f i*(2:Int)^(96*i)) m
theorem pk_zero (f:Nat→Int):pk f 0=0:=rfl
theorem mM (f:Nat→Int) (m:Nat):pk f (m+1)=pk f m+f m*(2:Int)^(96*m):=rfl
theorem zY (f g:Nat→Int):∀m,pk f m+pk g m=pk (fun i=>f i+g i) m
 | 0=>rfl
 | m+1=>by rw [mM,mM,mM,←zY f g m];grind
theorem DX (c:Int) (f:Nat→Int):∀m,c*pk f m=pk (fun i=>c*f i) m
 | 0=>by rw [pk_zero,pk_zero,Int.mul_zero]
 | m+1=>by rw [mM,mM,←DX c f m];grind
theorem TG (f:Nat→Nat):∀m,pk (fun i=>(f i:Int)) m=(dL f m:Int)
 | 0=>rfl
 | m+1=>by rw [mM,cR,TG f m];push_cast;rfl
theorem ZQ (f g:Nat→Int):∀m,(∀i,i<m→f i=g i)→pk f m=pk g m
 | 0,_=>rfl
 | m+1,h=>by rw [mM,mM,ZQ f g m (fun i hi=>h i (by omega)),h m (by omega)]
theorem ZS (f:Nat→Int) (m:Nat) (h:∀i,i<m→0≤f i):(pk f m).toNat=dL (fun i=>(f i).toNat) m:=by
 have:pk f m=pk (fun i=>(((f i).toNat:Nat):Int)) m:=ZQ _ _ m (fun i hi=>by have:=h i hi;omega);rw [this,TG];rfl
def okV (r P w:Nat):Bool:=alZ (atZ ((atZ (P+w*r) ((2^56-1)*r))+(2^56-2*w)*r) (2^56*r)) (2^56*r)
def okD (r D:Nat):Bool:=alZ (atZ D (2^95*r)) (2^95*r)
theorem EV {x b:Nat} (h:x&&& 2^b=2^b):2^b≤x:=by
 have:x&&& 2^b≤x:=Nat.and_le_left;omega
theorem okV_lane {m w:Nat} {v:Nat→Nat} (hv:∀i,i<m→v i<2^95) (hw:2*w≤2^56) (h:okV (dL (fun _=>1) m) (dL v m) w=true):∀i,i<m→2*w≤(v i+w)%2^56:=by
 intro i hi;have hw2:w<2^56:=by omega
 have h':=afQ h;have c56:(2:Nat)^56<2^96:=by decide
 have c95:(2:Nat)^95+2^56<2^96:=by decide
 have c57:(2:Nat)^56+2^56<2^96:=by decide
 rw [iE,iE,iE,iE,nE] at h';have e1:=lI (fun i=>v i+w*1) (fun _=>(2^56-1)*1) m (fun i hi=>by have:=hv i hi;omega) (fun i _=>by omega);change atZ (atZ _ _+_) _=_ at h';rw [show atZ (dL (fun i=>v i+w*1) m) (dL (fun _=>(2^56-1)*1) m)=dL (fun i=>v i+w*1) m&&& dL (fun _=>(2^56-1)*1) m from rfl,e1,nE] at h';have lt2:∀i,i<m→(v i+w*1&&& (2^56-1)*1)<2^56:=fun i _=>by rw [baQ (2^56-1),Nat.and_two_pow_sub_one_eq_mod];exact arQ _ (by decide)
 have e2:=lI (fun i=>(v i+w*1&&& (2^56-1)*1)+(2^56-2*w)*1) (fun _=>2^56*1) m (fun i hi=>by have:=lt2 i hi;omega) (fun i _=>by omega);rw [show atZ (dL (fun i=>(v i+w*1&&& (2^56-1)*1)+(2^56-2*w)*1) m) (dL (fun _=>2^56*1) m)=dL (fun i=>(v i+w*1&&& (2^56-1)*1)+(2^56-2*w)*1) m&&& dL (fun _=>2^56*1) m from rfl,e2] at h';have h3:=tG _ _ m (fun i hi=>by
  show (_&&& 2^56*1)<2^96;exact anZ Nat.and_le_right (by omega)) (fun i _=>by omega) h' i hi
 rw [baQ (2^56)] at h3;have h4:=EV h3;rw [baQ (2^56-1),Nat.and_two_pow_sub_one_eq_mod,baQ,baQ] at h4;omega
theorem okD_lane {m:Nat} {d:Nat→Nat} (hd:∀i,i<m→d i<2^96) (h:okD (dL (fun _=>1) m) (dL d m)=true):∀i,i<m→2^95≤d i:=by
 intro i hi;have h':=afQ h;rw [iE] at h';have e1:=lI d (fun _=>2^95*1) m hd (fun i _=>by decide);rw [show atZ (dL d m) (dL (fun _=>2^95*1) m)=dL d m&&& dL (fun _=>2^95*1) m from rfl,e1] at h';have h3:=tG _ _ m (fun i hi=>anZ Nat.and_le_right (by decide)) (fun i _=>by decide) h' i hi;rw [baQ (2^95)] at h3;exact EV h3
def E0 (t:Nat×Nat×Nat×Nat):Nat×Nat×Nat×Nat:=(t.1+t.2.1,t.2.1+t.2.2.1,t.2.2.1+t.2.2.2,t.2.2.2+1)
def MRG:Nat:=1099511627776
def run (r w:Nat) (σ:Int) (k:Nat):Int→Int→Int→Int→Bool:=Nat.rec (motive:=fun _=>Int→Int→Int→Int→Bool) (fun _ _ _ _=>true)
 (fun _ ih v a b c=>(okV r v.toNat w&&okD r (σ*a+(2^95-1099511627776:Nat)*r).toNat)&&ih (v+a) (a+b) (b+c) c) k
def Fine (w:Nat) (σ:Int) (T:Nat→Rat) (n:Nat) (e0 e1:Nat):Prop:=
 (∃f:Nat,((f*2^56+w:Nat):Rat)≤iA*T n+(e0:Rat)∧iA*T n≤(((f+1)*2^56:Nat):Rat)-(w:Rat)+(e0:Rat))∧(MRG:Rat)≤(σ:Rat)*(iA*d1 T n)+(e1:Rat)
structure Near (T:Nat→Rat) (n:Nat) (v a b c:Int) (e:Nat×Nat×Nat×Nat):Prop where
 n0:aY (iA*T n-(v:Rat)) e.1
 n1:aY (iA*d1 T n-(a:Rat)) e.2.1
 n2:aY (iA*d2 T n-(b:Rat)) e.2.2.1
 n3:aY (iA*d3 T n-(c:Rat)) e.2.2.2
theorem Near.step {N:Nat} {T:Nat→Rat} {j:Jet} (hj:Has N T j) (h4:iA*j.b4≤1) {n:Nat} (hn:n+4≤N) {v a b c:Int} {e:Nat×Nat×Nat×Nat} (h:Near T n v a b c e):Near T (n+1) (v+a) (a+b) (b+c) c (E0 e):=by
 obtain ⟨q0,q1,q2,q3⟩:=h;have q4:=(hj.h4 n hn).scale (c:=iA) (by unfold iA;grind);have e1:T (n+1)=T n+d1 T n:=by unfold d1;grind
 refine ⟨?_,?_,?_,?_⟩
 ·rw [e1];unfold aY E0 at*;push_cast;generalize iA=g at*;constructor<;>grind
 ·rw [d1_step];unfold aY E0 at*;push_cast;generalize iA=g at*;constructor<;>grind
 ·rw [d2_step];unfold aY E0 at*;push_cast;generalize iA=g at*;constructor<;>grind
 ·rw [d3_step];unfold aY E0 at*;push_cast;generalize iA=g at*;constructor<;>grind
def allE (B:Nat):Nat→Nat×Nat×Nat×Nat→Bool
 | 0,_=>true
 | k+1,e=>awX e.1 B&&awX e.2.1 B&&allE B k (E0 e)
theorem run_ok {N m w B:Nat} {σ:Int} {T:Nat→Rat} {j:Jet} (n0:Nat→Nat) (hσ:σ=1∨σ=-1) (hj:Has N T j) (h4:iA*j.b4≤1) (hw:2*w≤2^56) (hB:B≤2^40)
  (hT0:∀n,1≤n→n≤N→(2^41:Nat)≤iA*T n∧iA*T n≤(2^90:Nat)) (hT1:∀n,n+1≤N→aY (iA*d1 T n) (2^90:Nat)):
  ∀(k t:Nat) (v a b c:Nat→Int) (e:Nat×Nat×Nat×Nat),1≤t→(∀i,i<m→n0 i+t+k+4≤N)→allE B k e=true→(∀i,i<m→Near T (n0 i+t) (v i) (a i) (b i) (c i) e)→
   run (dL (fun _=>1) m) w σ k (pk v m) (pk a m) (pk b m) (pk c m)=true→∀s,s<k→∀i,i<m→Fine w σ T (n0 i+(t+s)) B B
 | 0,_,_,_,_,_,_,_,_,_,_,_,s,hs,_,_=>by omega
 | k+1,t,v,a,b,c,e,ht,hN,hE,hnear,hrun,s,hs,i,hi=>by
  have hE':=hE;simp only [allE,Bool.and_eq_true,Nat.ble_eq] at hE';obtain ⟨⟨hE0,hE1⟩,hE2⟩:=hE';have hrun':((okV (dL (fun _=>1) m) (pk v m).toNat w&&okD (dL (fun _=>1) m) (σ*pk a m+(2^95-1099511627776:Nat)*(dL (fun _=>1) m:Nat)).toNat)&&run (dL (fun _=>1) m) w σ k (pk v m+pk a m) (pk a m+pk b m) (pk b m+pk c m) (pk c m))=true:=hrun;simp only [Bool.and_eq_true] at hrun';obtain ⟨⟨hV,hD⟩,hR⟩:=hrun';rw [zY,zY,zY] at hR;rcases agJ s with hs0 | hs0
  ·subst hs0;rw [Nat.add_zero];have hni:=hN i hi;have vb:∀i,i<m→0≤v i∧v i<2^95:=by
    intro i hi;have h1:=(hnear i hi).n0;obtain ⟨h2,h3⟩:=hT0 (n0 i+t) (by omega) (by have:=hN i hi;omega);have h4:((e.1:Nat):Rat)≤((2^40:Nat):Rat):=by exact_mod_cast (show e.1≤2^40 by omega)
    unfold aY at h1;have l1:((0:Int):Rat)≤(v i:Rat):=by
     generalize iA*T (n0 i+t)=g at*;have c1:((2^41:Nat):Rat)=2199023255552:=rfl;have c2:((2^40:Nat):Rat)=1099511627776:=rfl;rw [c1] at h2;rw [c2] at h4;have:((0:Int):Rat)=0:=rfl;grind
    have l2:(v i:Rat)<((2^95:Int):Rat):=by
     generalize iA*T (n0 i+t)=g at*;have c1:((2^90:Nat):Rat)=1237940039285380274899124224:=rfl;have c2:((2^40:Nat):Rat)=1099511627776:=rfl;have c3:((2^95:Int):Rat)=39614081257132168796771975168:=rfl;rw [c1] at h3;rw [c2] at h4;rw [c3];grind
    exact ⟨by exact_mod_cast l1,by exact_mod_cast l2⟩
   have ab:∀i,i<m→-(2^91)≤a i∧a i≤2^91:=by
    intro i hi;have h1:=(hnear i hi).n1;have h2:=hT1 (n0 i+t) (by have:=hN i hi;omega);have h4:((e.2.1:Nat):Rat)≤((2^40:Nat):Rat):=by exact_mod_cast (show e.2.1≤2^40 by omega)
    unfold aY at h1 h2;have c1:((2^90:Nat):Rat)=1237940039285380274899124224:=rfl;have c2:((2^40:Nat):Rat)=1099511627776:=rfl;have c3:((2^91:Int):Rat)=2475880078570760549798248448:=rfl;have c4:((-(2^91):Int):Rat)=-2475880078570760549798248448:=rfl;generalize iA*d1 T (n0 i+t)=g at*;rw [c1] at h2;rw [c2] at h4;have l1:((-(2^91):Int):Rat)≤(a i:Rat):=by rw [c4];grind
    have l2:(a i:Rat)≤((2^91:Int):Rat):=by rw [c3];grind
    exact ⟨by exact_mod_cast l1,by exact_mod_cast l2⟩
   have hn:=hnear i hi;rw [ZS v m (fun i hi=>(vb i hi).1)] at hV;have hVl:=okV_lane (fun i hi=>by have:=vb i hi;omega) hw hV i hi;have eD:σ*pk a m+(2^95-1099511627776:Nat)*(dL (fun _=>1) m:Nat)=pk (fun i=>σ*a i+(2^95-1099511627776:Nat)*1) m:=by
    rw [show ((dL (fun _=>1) m:Nat):Int)=pk (fun _=>1) m from (TG (fun _=>1) m).symm,DX,DX,zY]
   rw [eD,ZS _ m (fun i hi=>by have:=ab i hi;rcases hσ with rfl | rfl<;>omega)] at hD;have hDl:=okD_lane (fun i hi=>by have:=ab i hi;rcases hσ with rfl | rfl<;>omega) hD i hi;have hvi:=vb i hi;have hai:=ab i hi;refine ⟨⟨((v i).toNat+w)/2^56,?_⟩,?_⟩
   ·have hdm:=aqZ ((v i).toNat+w) (2^56);have hml:=arQ ((v i).toNat+w) (show 0<2^56 by decide);generalize ((v i).toNat+w)/2^56=f at*;have u1:f*2^56+w≤(v i).toNat:=by omega
    have u2:(v i).toNat+w≤(f+1)*2^56:=by omega
    have u3:(((v i).toNat:Nat):Rat)=(v i:Rat):=by
     have:(((v i).toNat:Nat):Int)=v i:=by omega
     exact_mod_cast this
    have r1:((f*2^56+w:Nat):Rat)≤(((v i).toNat:Nat):Rat):=by exact_mod_cast u1
    have r2:(((v i).toNat+w:Nat):Rat)≤(((f+1)*2^56:Nat):Rat):=by exact_mod_cast u2
    have r2':(((v i).toNat:Nat):Rat)+(w:Rat)≤(((f+1)*2^56:Nat):Rat):=by
     have:(((v i).toNat+w:Nat):Rat)=(((v i).toNat:Nat):Rat)+(w:Rat):=by push_cast;rfl
     rw [←this];exact r2
    rw [u3] at r1 r2';have hb:((e.1:Nat):Rat)≤(B:Rat):=by exact_mod_cast hE0
    have h1:=hn.n0;unfold aY at h1;generalize iA*T (n0 i+t)=g at*;generalize ((f*2^56+w:Nat):Rat)=x1 at*;generalize (((f+1)*2^56:Nat):Rat)=x2 at*;constructor<;>grind
   ·have h1:=hn.n1;have hb:((e.2.1:Nat):Rat)≤(B:Rat):=by exact_mod_cast hE1
    unfold aY at h1;generalize iA*d1 T (n0 i+t)=g at*;have hm:(MRG:Int)≤σ*a i:=by unfold MRG;omega
    have hmr:((MRG:Int):Rat)≤((σ*a i:Int):Rat):=by exact_mod_cast hm
    have hmr':(MRG:Rat)≤(σ:Rat)*(a i:Rat):=by
     have e1:((σ*a i:Int):Rat)=(σ:Rat)*(a i:Rat):=by push_cast;rfl
     rw [←e1];exact hmr
    rcases hσ with rfl | rfl
    ·have:((1:Int):Rat)=1:=rfl;rw [this] at hmr' ⊢;grind
    ·have:((-1:Int):Rat)=-1:=rfl;rw [this] at hmr' ⊢;grind
  ·have:=run_ok n0 hσ hj h4 hw hB hT0 hT1 k (t+1) _ _ _ _ (E0 e) (by omega) (fun i hi=>by have:=hN i hi;omega) hE2
    (fun i hi=>by rw [←Nat.add_assoc];exact (hnear i hi).step hj h4 (by have:=hN i hi;omega)) hR (s-1) (by omega) i hi
   rwa [show t+1+(s-1)=t+s by omega] at this
end SM
namespace SM
theorem LT (f g:Nat→Int):∀m,pk (fun i=>f i-g i) m=pk f m-pk g m
 | 0=>rfl
 | m+1=>by rw [mM,mM,mM,LT f g m];grind
def lanes (A:Nat→Nat) (j:Nat):Int:=(dL (fun i=>A (450*i+j)) 6000:Nat)
def WW:Nat:=20132659200
def start (A:Nat→Nat) (σ:Int):Bool:=
 run (dL (fun _=>1) 6000) WW σ 449 (lanes A 1) (lanes A 2-lanes A 1) (lanes A 3-2*lanes A 2+lanes A 1) (lanes A 4-3*lanes A 3+3*lanes A 2-lanes A 1)
theorem startS:start aS 1=true:=by decide+kernel
theorem startC:start aC (-1)=true:=by decide+kernel
def fst1 (A:Nat→Nat) (σ:Int) (ex:Bool) (i:Nat):Bool:=(ex||(awX (2*WW) ((A (450*i)+WW)%2^56)))&&decide (1099511627776≤σ*((A (450*i+1):Int)-A (450*i)))
def blk (A:Nat→Nat) (σ:Int) (ex:Nat→Bool) (m:Nat):Bool:=Nat.rec (motive:=fun _=>Bool) true (fun i acc=>fst1 A σ (ex i) i&&acc) m
theorem firstS:blk aS 1 (fun i=>alZ i 0||alZ i 4000) 6000=true:=by decide+kernel
theorem firstC:blk aC (-1) (fun i=>alZ i 0) 6000=true:=by decide+kernel
theorem blk_at {A:Nat→Nat} {σ:Int} {ex:Nat→Bool}:∀{m:Nat},blk A σ ex m=true→∀i,i<m→fst1 A σ (ex i) i=true
 | 0,_,i,hi=>by omega
 | m+1,h,i,hi=>by
  have h':(fst1 A σ (ex m) m&&blk A σ ex m)=true:=h;simp only [Bool.and_eq_true] at h';rcases abZ i m with hlt | hge
  ·exact blk_at h'.2 i hlt
  ·have:i=m:=by omega
   rw [this];exact h'.1
def BB:Nat:=2147483648
theorem near_start {A:Nat→Nat} {T:Nat→Rat} (hA:∀n,n≤2700100→aY (iA*T n-(A n:Rat)) 2) (n:Nat) (hn:n+3≤2700100):
  Near T n (A n) ((A (n+1):Int)-A n) ((A (n+2):Int)-2*A (n+1)+A n) ((A (n+3):Int)-3*A (n+2)+3*A (n+1)-A n) (2,4,8,16):=by
 have h0:=hA n (by omega);have h1:=hA (n+1) (by omega);have h2:=hA (n+2) (by omega);have h3:=hA (n+3) (by omega);unfold aY at*;refine ⟨?_,?_,?_,?_⟩
 ·show aY _ ((2:Nat):Rat);unfold aY;push_cast;generalize iA=g at*;constructor<;>grind
 ·show aY _ ((4:Nat):Rat);unfold aY d1;push_cast;generalize iA=g at*;constructor<;>grind
 ·show aY _ ((8:Nat):Rat);unfold aY d2;push_cast;generalize iA=g at*;constructor<;>grind
 ·show aY _ ((16:Nat):Rat);unfold aY d3;push_cast;generalize iA=g at*;constructor<;>grind
theorem errs:allE BB 449 (2,4,8,16)=true:=by decide+kernel
theorem BH {A:Nat→Nat} {T:Nat→Rat} {j:Jet} {σ:Int} {ex:Nat→Bool} (hσ:σ=1∨σ=-1) (hj:Has NN T j) (h4:iA*j.b4≤1) (hA:∀n,n≤2700100→aY (iA*T n-(A n:Rat)) 2)
  (hT0:∀n,1≤n→n≤NN→(2^41:Nat)≤iA*T n∧iA*T n≤(2^90:Nat)) (hT1:∀n,n+1≤NN→aY (iA*d1 T n) (2^90:Nat))
  (hs:start A σ=true) (hf:blk A σ ex 6000=true) (n:Nat) (hn:n<2700000):((n%450=0∧ex (n/450)=true)∨∃f:Nat,((f*2^56+WW:Nat):Rat)≤iA*T n+(BB:Rat)∧iA*T n≤(((f+1)*2^56:Nat):Rat)-(WW:Rat)+(BB:Rat))∧
   (1099511627776:Rat)≤(σ:Rat)*(iA*d1 T n)+(BB:Rat):=by
 have hi:n/450<6000:=by omega
 have hdm:=aqZ n 450;rcases agJ (n%450) with h0 | h0
 ·have hfi:=blk_at hf (n/450) hi;have en:450*(n/450)=n:=by omega
  unfold fst1 at hfi;rw [en] at hfi;simp only [Bool.and_eq_true,Bool.or_eq_true,Nat.ble_eq,decide_eq_true_eq] at hfi;obtain ⟨hw,hd⟩:=hfi;have hn0:=hA n (by omega);have hn1:=hA (n+1) (by omega);refine ⟨?_,?_⟩
  ·rcases hw with hw | hw
   ·exact .inl ⟨h0,hw⟩
   ·right;refine ⟨(A n+WW)/2^56,?_⟩;have hdm:=aqZ (A n+WW) (2^56);have hml:=arQ (A n+WW) (show 0<2^56 by decide);generalize (A n+WW)/2^56=f at*;have u1:f*2^56+WW≤A n:=by omega
    have u2:A n+WW≤(f+1)*2^56:=by omega
    have r1:((f*2^56+WW:Nat):Rat)≤(A n:Rat):=by exact_mod_cast u1
    have r2:((A n+WW:Nat):Rat)≤(((f+1)*2^56:Nat):Rat):=by exact_mod_cast u2
    have r2':(A n:Rat)+(WW:Rat)≤(((f+1)*2^56:Nat):Rat):=by
     have:((A n+WW:Nat):Rat)=(A n:Rat)+(WW:Rat):=agX _ _;rw [←this];exact r2
    have cB:(BB:Rat)=2147483648:=rfl;rw [cB];unfold aY at hn0;generalize ((f*2^56+WW:Nat):Rat)=x1 at*;generalize (((f+1)*2^56:Nat):Rat)=x2 at*;generalize (WW:Rat)=ww at*;constructor<;>grind
  ·have hdr:((1099511627776:Int):Rat)≤((σ*((A (n+1):Int)-A n):Int):Rat):=Rat.intCast_le_intCast.2 hd;have c1:((1099511627776:Int):Rat)=1099511627776:=rfl;have cB:(BB:Rat)=2147483648:=rfl;rw [c1] at hdr;rw [cB];unfold aY d1 at*;rcases hσ with rfl | rfl
   ·have e1:((1:Int):Rat)=1:=rfl;rw [e1];push_cast at hdr;generalize iA=g at*;grind
   ·have e1:((-1:Int):Rat)=-1:=rfl;rw [e1];push_cast at hdr;generalize iA=g at*;grind
 ·have hrun:run (dL (fun _=>1) 6000) WW σ 449 (pk (fun i=>(A (450*i+1):Int)) 6000) (pk (fun i=>(A (450*i+1+1):Int)-A (450*i+1)) 6000) (pk (fun i=>(A (450*i+1+2):Int)-2*A (450*i+1+1)+A (450*i+1)) 6000)
    (pk (fun i=>(A (450*i+1+3):Int)-3*A (450*i+1+2)+3*A (450*i+1+1)-A (450*i+1)) 6000)=true:=by
   have hs':=hs;unfold start at hs';have e:∀j,lanes A j=pk (fun i=>(A (450*i+j):Int)) 6000:=fun j=>(TG _ _).symm;rw [e 1,e 2,e 3,e 4,DX,DX,DX,←LT,←LT,←LT,zY,zY,←LT] at hs';exact hs'
  have:=run_ok (m:=6000) (fun i=>450*i) hσ hj h4 (w:=WW) (B:=BB) (by decide) (by decide) hT0 hT1 449 1 _ _ _ _ (2,4,8,16) (by omega) (fun i hi=>by unfold NN;omega) errs
   (fun i hi=>near_start hA (450*i+1) (by omega)) hrun (n%450-1) (by omega) (n/450) hi
  have en:450*(n/450)+(1+(n%450-1))=n:=by omega
  rw [en] at this;exact ⟨.inr this.1,this.2⟩
theorem iS {d:Nat} (hd:2≤d):1/(d:Rat)≤1/2:=by
 have h:(2:Rat)≤(d:Rat):=by exact_mod_cast hd
 have h0:(d:Rat)≠0:=by grind
 have e:(d:Rat)*(1/(d:Rat))=1:=by grind
 have i0:=cY (d:Rat) (by grind);generalize 1/(d:Rat)=i at*;have:2*i≤(d:Rat)*i:=by
  have:=abQ h i0;exact this
 grind
theorem hR_bd (odd:Nat) (Y:Rat) (hY:0≤Y∧Y≤1):∀(k:Nat) (h:Rat),0≤h∧h≤1→(0≤hR odd Y k h∧hR odd Y k h≤1)∧(1≤k→hR odd Y k h≤1/2*Y)
 | 0,h,hh=>⟨hh,fun h=>by omega⟩
 | k+1,h,hh=>by
  have hd:2≤(2*k+1+odd)*(2*k+2+odd):=by
   have:1*2≤(2*k+1+odd)*(2*k+2+odd):=agQ (by omega) (by omega);omega
  have i1:=iS hd;have i0:=cY (((2*k+1+odd)*(2*k+2+odd):Nat):Rat) (by exact_mod_cast adX _);have y0:0≤Y*(1-h):=aaZ hY.1 (by grind);have y1:Y*(1-h)≤Y:=by
   have:=aaZ hY.1 hh.1;grind
  have s0:0≤1/(((2*k+1+odd)*(2*k+2+odd):Nat):Rat)*(Y*(1-h)):=aaZ i0 y0;have s1:1/(((2*k+1+odd)*(2*k+2+odd):Nat):Rat)*(Y*(1-h))≤1/2*Y:=by
   have a1:=abQ i1 y0;have a2:=aaJ y1 (show (0:Rat)≤1/2 by grind);grind
  have ih:=hR_bd odd Y hY k _ ⟨s0,by grind⟩;refine ⟨ih.1,fun _=>?_⟩;rcases agJ k with h0 | h0
  ·subst h0;exact s1
  ·exact ih.2 h0
theorem FX (n:Nat) (hn:n≤2700100):0≤xR n*xR n∧xR n*xR n≤7/10:=by
 have h:=rX n hn;exact ⟨aaZ h.1 h.1,(yN_bd n hn).2⟩
theorem tC_bd (n:Nat) (hn:n≤2700100):1/2≤tC n∧tC n≤1:=by
 have h:=FX n hn;have:=hR_bd 0 (xR n*xR n) ⟨h.1,by grind⟩ 10 0 ⟨by grind,by grind⟩;have h2:=this.2 (by omega);unfold tC;constructor<;>grind
theorem tS_bd (n:Nat) (hn:n≤2700100):1/2*xR n≤tS n∧tS n≤xR n:=by
 have h:=FX n hn;have hx:=rX n hn;have:=hR_bd 1 (xR n*xR n) ⟨h.1,by grind⟩ 10 0 ⟨by grind,by grind⟩;have h2:=this.2 (by omega);unfold tS;generalize hR 1 (xR n*xR n) 10 0=H at*;have a1:0≤xR n*(1/2-H):=aaZ hx.1 (by grind);have a2:0≤xR n*H:=aaZ hx.1 this.1.1;constructor<;>grind
theorem hT0S:∀n,1≤n→n≤NN→(2^41:Nat)≤iA*tS n∧iA*tS n≤(2^90:Nat):=by
 intro n h1 h2;have hb:=tS_bd n h2;have hx:=rX n h2;have c1:((2^41:Nat):Rat)=2199023255552:=rfl;have c2:((2^90:Nat):Rat)=1237940039285380274899124224:=rfl;have hn1:(1:Rat)≤(n:Rat):=by exact_mod_cast h1
 have hlow:th≤xR n:=by
  unfold xR;have:=aaJ hn1 (show 0≤th by unfold th LS;grind);grind
 rw [c1,c2];unfold iA;have ht:(1/4000000:Rat)≤th:=by unfold th LS;grind
 constructor<;>grind
theorem hT0C:∀n,1≤n→n≤NN→(2^41:Nat)≤iA*tC n∧iA*tC n≤(2^90:Nat):=by
 intro n h1 h2;have hb:=tC_bd n h2;have c1:((2^41:Nat):Rat)=2199023255552:=rfl;have c2:((2^90:Nat):Rat)=1237940039285380274899124224:=rfl;rw [c1,c2];unfold iA;constructor<;>grind
theorem hT1S:∀n,n+1≤NN→aY (iA*d1 tS n) (2^90:Nat):=by
 intro n hn;have h0:=tS_bd n (by unfold NN at hn;omega);have h1:=tS_bd (n+1) hn;have x0:=rX n (by unfold NN at hn;omega);have x1:=rX (n+1) hn;have c2:((2^90:Nat):Rat)=1237940039285380274899124224:=rfl;rw [c2];unfold aY d1 iA;constructor<;>grind
theorem hT1C:∀n,n+1≤NN→aY (iA*d1 tC n) (2^90:Nat):=by
 intro n hn;have h0:=tC_bd n (by unfold NN at hn;omega);have h1:=tC_bd (n+1) hn;have c2:((2^90:Nat):Rat)=1237940039285380274899124224:=rfl;rw [c2];unfold aY d1 iA;constructor<;>grind
def Far (x:Rat):Prop:=∃f:Nat,(f:Rat)*72057594037927936+17000000000≤iA*x∧iA*x≤((f:Rat)+1)*72057594037927936-17000000000
theorem far_of {x:Rat} (h:∃f:Nat,((f*2^56+WW:Nat):Rat)≤iA*x+(BB:Rat)∧iA*x≤(((f+1)*2^56:Nat):Rat)-(WW:Rat)+(BB:Rat)):Far x:=by
 obtain ⟨f,h1,h2⟩:=h;refine ⟨f,?_⟩;have cW:(WW:Rat)=20132659200:=rfl;have cB:(BB:Rat)=2147483648:=rfl;have c56:((2^56:Nat):Rat)=72057594037927936:=rfl;have e1:((f*2^56+WW:Nat):Rat)=(f:Rat)*72057594037927936+20132659200:=by
  rw [agX,aeJ,c56,cW]
 have e2:(((f+1)*2^56:Nat):Rat)=((f:Rat)+1)*72057594037927936:=by
  rw [aeJ,c56,agX];rfl
 rw [e1,cB] at h1;rw [e2,cB,cW] at h2;generalize iA*x=g at*;constructor<;>grind
theorem farS (n:Nat) (hn:n<2700000) (h0:n≠0) (h1:n≠1800000):Far (tS n):=by
 rcases (BH (.inl rfl) has_S jS4 EP hT0S hT1S startS firstS n hn).1 with ⟨hm,he⟩ | h
 ·simp only [Bool.or_eq_true,Nat.beq_eq] at he;omega
 ·exact far_of h
theorem farC (n:Nat) (hn:n<2700000) (h0:n≠0):Far (tC n):=by
 rcases (BH (.inr rfl) has_C jC4 OI hT0C hT1C startC firstC n hn).1 with ⟨hm,he⟩ | h
 ·simp only [Nat.beq_eq] at he;omega
 ·exact far_of h
theorem upS (n:Nat) (hn:n<2700000):1000000000000≤iA*(tS (n+1)-tS n):=by
 have h:=(BH (.inl rfl) has_S jS4 EP hT0S hT1S startS firstS n hn).2;have cB:(BB:Rat)=2147483648:=rfl;have e1:((1:Int):Rat)=1:=rfl;rw [cB,e1] at h;unfold d1 at h;grind
theorem downC (n:Nat) (hn:n<2700000):1000000000000≤iA*(tC n-tC (n+1)):=by
 have h:=(BH (.inr rfl) has_C jC4 OI hT0C hT1C startC firstC n hn).2;have cB:(BB:Rat)=2147483648:=rfl;have e1:((-1:Int):Rat)=-1:=rfl;rw [cB,e1] at h;unfold d1 at h;grind
end SM
section
open Go.RowKit
def lM (x:Int) (w:World) (e:Ending) (w':World):Prop:=e=.returned (.int .i64 x)∧w=w'
theorem EK (n:Int):(0≤n.tmod 21600000→n.tmod 21600000=n%21600000)∧(n.tmod 21600000<0→n.tmod 21600000+21600000=n%21600000)∧-21600000<n.tmod 21600000∧n.tmod 21600000<21600000:=by
 have h1:=Int.tmod_lt_of_pos n (show (0:Int)<21600000 by omega);have h2:=Int.lt_tmod_of_pos n (show (0:Int)<21600000 by omega);have h3:=Int.mul_tdiv_add_tmod n 21600000;refine ⟨fun h=>?_,fun h=>?_,h2,h1⟩
 ·omega
 ·omega
theorem NC (n:Int) (w:World):Calls Tryz.prog 235 #[.int .i64 n] w (lM (n%21600000) w):=by
 obtain ⟨k1,k2,k3,k4⟩:=EK n;generalize hm:n.tmod 21600000=m at*;by_cases hneg:m<0
 ·have HF:=aaQ (show lM (n%21600000) w (.returned (.int .i64 (m+21600000))) w from ⟨by rw [k2 hneg],rfl⟩);clear k1 k2;go_enter Tryz.func235,Tryz.ntmps235;go_wp2;go_ret;exact HF.out
 ·have HF:=aaQ (show lM (n%21600000) w (.returned (.int .i64 m)) w from ⟨by rw [k1 (by omega)],rfl⟩);clear k1 k2;go_enter Tryz.func235,Tryz.ntmps235;go_wp2;go_ret;exact HF.out
end
section
open Go.RowKit
def subV (x y b:Int):Int:=(x+18446744073709551616-y-b)%18446744073709551616
def subB (x y b:Int):Int:=if x<y+b then 1 else 0
theorem sub64_run (x y b:Int) (hx:0≤x) (hy:0≤y∧y≤18446744073709551616) (hb:0≤b∧b≤1) (hyb:y+b≤x+18446744073709551616) (w:World):
  (callFunc 272 #[.int .u64 x,.int .u64 y,.int .u64 b]).run Tryz.prog w=.ok (.value (.tuple #[.int .u64 (subV x y b),.int .u64 (subB x y b)])) w:=by
 obtain ⟨X,rfl⟩:=ajJ hx;obtain ⟨Y,rfl⟩:=ajJ hy.1;obtain ⟨B,rfl⟩:=ajJ hb.1;rw [run_callFunc_extern Tryz.func272 (by kernel_rfl) (by kernel_rfl) (by kernel_rfl) (e:=sub64Entry) (by kernel_rfl),run_sub64 X Y B (by omega)];simp only [Result.andThen,subV,subB];have e1:(((X+18446744073709551616-Y-B)%18446744073709551616:Nat):Int)=((X:Int)+18446744073709551616-(Y:Int)-(B:Int))%18446744073709551616:=by omega
 have e2:((if X<Y+B then 1 else 0:Nat):Int)=if (X:Int)<(Y:Int)+(B:Int) then 1 else 0:=by
  by_cases h:X<Y+B
  ·rw [if_pos h,if_pos (by omega)];rfl
  ·rw [if_neg h,if_neg (by omega)];rfl
 rw [e1,e2]
theorem mU (x y c:Int) (hx:0≤x) (hy:0≤y) (hc:0≤c∧c≤1) (w:World):
  (callFunc 242 #[.int .u64 x,.int .u64 y,.int .u64 c]).run Tryz.prog w=.ok (.value (.tuple #[.int .u64 ((x+y+c)%18446744073709551616),.int .u64 ((x+y+c)/18446744073709551616)])) w:=by
 rw [run_callFunc_extern Tryz.func242 (by kernel_rfl) (by kernel_rfl) (by kernel_rfl) (e:=add64Entry) (by kernel_rfl),run_add64 x y c hx hy hc.1 hc.2];rfl
end
end Go.Proofs.YtmididlfnajhiaaGreatDoor
namespace Go.Proofs
open Go.Shelf
def Tryz.lays264_ren:Ren where
 f:=fun x=>match x with
  | 264=>241
  | n=>n
 t:=fun x=>match x with
  | 53=>165
  | 46=>162
  | n=>n
 g:=fun n=>n
theorem Tryz.lays264:Lays.n264 Tryz.prog Tryz.lays264_ren where
 mixed:=Eq.refl true
 f264:=Eq.trans Tryz.func241 (congrArg some (Eq.refl (Body.n264 Tryz.lays264_ren)))
 t46:=Tryz.underlying162
 a46:=Tryz.isAgg162
 z46:=Tryz.sizeOf162
 v46:=Tryz.zeroValue162
 t53:=Tryz.underlying165
 a53:=Tryz.isAgg165
 z53:=Tryz.sizeOf165
 v53:=Tryz.zeroValue165
end Go.Proofs
namespace Go.Proofs.YtmididlfnajhiaaGreatDoor
section
open Go.RowKit
def MulPost (x y:Int) (w:World) (e:Ending) (w':World):Prop:=e=.returned (.tuple #[.int .u64 (x*y/18446744073709551616),.int .u64 (x*y%18446744073709551616)])∧w=w'
theorem DU (x y:Int) (hx:0≤x∧x<18446744073709551616) (hy:0≤y∧y<18446744073709551616) (w:World):
  Calls Tryz.prog 241 #[.int .u64 x,.int .u64 y] w (MulPost x y w):=by
 obtain ⟨X,rfl⟩:=ajJ hx.1;obtain ⟨Y,rfl⟩:=ajJ hy.1;have h:=Any.bits_Mul64 Tryz.lays264 X Y (by omega) (by omega) w;refine Calls.mono h ?_;rintro e w' ⟨he,hw⟩;refine ⟨?_,hw.symm⟩;rw [he];simp
end
section
open Go.RowKit
def cN (a0 a1 a2 a3:Int):Value:=.agg #[.int .u64 a0,.int .u64 a1,.int .u64 a2,.int .u64 a3]
def bM (x:Int):Prop:=0≤x∧x<18446744073709551616
theorem nU (x y b:Int) (hx:bM x) (hy:bM y) (hb:0≤b∧b≤1):∃s c:Int,bM s∧(0≤c∧c≤1)∧s=x-y-b+18446744073709551616*c∧∀w,(callFunc 272 #[.int .u64 x,.int .u64 y,.int .u64 b]).run Tryz.prog w=.ok (.value (.tuple #[.int .u64 s,.int .u64 c])) w:=by
 obtain ⟨x1,x2⟩:=hx;obtain ⟨y1,y2⟩:=hy;refine ⟨subV x y b,subB x y b,?_,?_,?_,fun w=>sub64_run x y b x1 ⟨y1,by omega⟩ hb (by omega) w⟩
 ·unfold subV bM;omega
 ·unfold subB;split<;>omega
 ·unfold subV subB;split<;>omega
def fT (w:World) (v:Value) (e:Ending) (w':World):Prop:=e=.returned v∧Below w.heap.size w w'
theorem sub_ex (a0 a1 a2 a3 b0 b1 b2 b3:Int) (ha0:bM a0) (ha1:bM a1) (ha2:bM a2) (ha3:bM a3) (hb0:bM b0) (hb1:bM b1) (hb2:bM b2) (hb3:bM b3):
  ∃s0 s1 s2 s3 c:Int,(bM s0∧bM s1∧bM s2∧bM s3)∧(0≤c∧c≤1)∧
   s0*6277101735386680763835789423207666416102355444464034512896+s1*340282366920938463463374607431768211456+s2*18446744073709551616+s3=a0*6277101735386680763835789423207666416102355444464034512896+a1*340282366920938463463374607431768211456+a2*18446744073709551616+a3-(b0*6277101735386680763835789423207666416102355444464034512896+b1*340282366920938463463374607431768211456+b2*18446744073709551616+b3)+115792089237316195423570985008687907853269984665640564039457584007913129639936*c∧
   ∀w,Calls Tryz.prog 258 #[cN a0 a1 a2 a3,cN b0 b1 b2 b3] w (fT w (cN s0 s1 s2 s3)):=by
 obtain ⟨s3,c3,g3,d3,e3,E3⟩:=nU a3 b3 0 ha3 hb3 (by omega);obtain ⟨s2,c2,g2,d2,e2,E2⟩:=nU a2 b2 c3 ha2 hb2 d3;obtain ⟨s1,c1,g1,d1,e1,E1⟩:=nU a1 b1 c2 ha1 hb1 d2;obtain ⟨s0,c0,g0,d0,e0,E0⟩:=nU a0 b0 c1 ha0 hb0 d1;refine ⟨s0,s1,s2,s3,c0,⟨g0,g1,g2,g3⟩,d0,by omega,fun w=>?_⟩;clear g0 g1 g2 g3 d0 d1 d2 d3 e0 e1 e2 e3 ha0 ha1 ha2 ha3 hb0 hb1 hb2 hb3;have HP:=aaQ (show ∀c1 c2:Array Value,fT w (cN s0 s1 s2 s3) (.returned (cN s0 s1 s2 s3)) (((w.alloc (.cells c1 201)).alloc (.cells c2 201)).alloc (.cells #[.int .u64 s0,.int .u64 s1,.int .u64 s2,.int .u64 s3] 201)).drew.drew.drew.drew from fun c1 c2=>⟨rfl,((((((acQ _ _).alloc (aaX _) _).alloc (by simp) _).alloc (by simp;omega) _).drew).drew).drew.drew⟩);unfold cN at HP ⊢;go_enter Tryz.func258,Tryz.ntmps258;go_wp2;refine wp_loop_rounds 5 ?_;rw [rounds_succ];go_wp2;go_region
 go_wp2;rw [rounds_succ];go_wp2;go_region
 go_wp2;rw [rounds_succ];go_wp2;go_region
 go_wp2;rw [rounds_succ];go_wp2;go_region
 go_wp2;rw [rounds_succ];go_wp2;simp [bodyPost,results,Tryz.results258,go_sem];exact HP.out _ _
end
end Go.Proofs.YtmididlfnajhiaaGreatDoor
namespace Go.Proofs
open Go.Shelf
def Tryz.lays134_ren:Ren where
 f:=fun x=>match x with
  | 134=>273
  | 129=>225
  | n=>n
 t:=fun x=>match x with
  | 53=>165
  | 3=>3
  | 4=>4
  | 46=>162
  | 5=>5
  | 9=>9
  | n=>n
 g:=fun n=>n
theorem Tryz.lays134:Lays.n134 Tryz.prog Tryz.lays134_ren where
 mixed:=Eq.refl true
 f129:=Eq.trans Tryz.func225 (congrArg some (Eq.refl (Body.n129 Tryz.lays134_ren)))
 f134:=Eq.trans Tryz.func273 (congrArg some (Eq.refl (Body.n134 Tryz.lays134_ren)))
 t3:=Tryz.underlying3
 a3:=Tryz.isAgg3
 z3:=Tryz.sizeOf3
 v3:=Tryz.zeroValue3
 t4:=Tryz.underlying4
 a4:=Tryz.isAgg4
 z4:=Tryz.sizeOf4
 v4:=Tryz.zeroValue4
 t5:=Tryz.underlying5
 a5:=Tryz.isAgg5
 z5:=Tryz.sizeOf5
 v5:=Tryz.zeroValue5
 t9:=Tryz.underlying9
 a9:=Tryz.isAgg9
 z9:=Tryz.sizeOf9
 v9:=Tryz.zeroValue9
 t46:=Tryz.underlying162
 a46:=Tryz.isAgg162
 z46:=Tryz.sizeOf162
 v46:=Tryz.zeroValue162
 t53:=Tryz.underlying165
 a53:=Tryz.isAgg165
 z53:=Tryz.sizeOf165
 v53:=Tryz.zeroValue165
end Go.Proofs
namespace Go.Proofs.YtmididlfnajhiaaGreatDoor
section
open Go.RowKit
theorem div_plain (hi lo y:Int) (hy:0<y) (hh:0<hi) (hhy:hi<y) (hl:0≤lo) (hl2:lo<18446744073709551616)
  (T K:Int) (hT:0<T) (hTK:T*K=4294967296) (hyK:y<K) (hKy:K≤2*y):
  ∃Y v A B U W u1 q1 r1 N2 q0 r0 R:Int,
   Y=y*(T*4294967296)∧0≤Y∧Y<18446744073709551616∧Y=v*4294967296∧0<v∧v<4294967296∧
   A=hi*(T*4294967296)∧0≤A∧A<18446744073709551616∧B=lo/K∧0≤B∧B<T*4294967296∧U=A+B∧0≤U∧U<18446744073709551616∧
   W=(lo*(T*4294967296))%18446744073709551616∧W=u1*4294967296∧0≤u1∧u1<4294967296∧
   q1=U/v∧0≤q1∧q1<4294967296∧r1=U-q1*v∧0≤r1∧r1<v∧N2=r1*4294967296+u1∧N2<18446744073709551616∧U*4294967296+u1=q1*Y+N2∧
   q0=N2/v∧0≤q0∧q0<4294967296∧r0=N2-q0*v∧0≤r0∧r0<v∧N2*4294967296=q0*Y+r0*4294967296∧
   r0=R*T∧0≤R∧R<y∧hi*18446744073709551616+lo=(q1*4294967296+q0)*y+R:=by
 have hK:0<K:=by omega
 have hyT:y*T<4294967296:=by
  have:=Int.mul_lt_mul_of_pos_left hyK hT;rw [hTK,akQ] at this;exact this
 have hyT0:0<y*T:=Int.mul_pos hy hT;have hhT:(hi+1)*T≤y*T:=Int.mul_le_mul_of_nonneg_right (by omega) (by omega);have hhT0:0<hi*T:=Int.mul_pos hh hT;have hB0:0≤lo/K:=asQ hl (by omega);have hB:lo/K<T*4294967296:=Int.ediv_lt_of_lt_mul hK (by
  have:T*4294967296*K=18446744073709551616:=by rw [Int.mul_right_comm,hTK];rfl
  omega)
 have hm:=Int.mul_ediv_add_emod lo K;have hm0:=ajQ lo (show K≠0 by omega);have hm1:=ahJ lo hK;generalize hb:lo/K=b at*;generalize hmm:lo%K=m at*;have hu:m*T<4294967296:=by
  have:=Int.mul_lt_mul_of_pos_left hm1 hT;rw [hTK,akQ] at this;exact this
 have hu0:0≤m*T:=aeZ hm0 (by omega);have hloT:lo*T=b*4294967296+m*T:=by
  rw [←hm,←hTK];grind
 have hhT':hi*T+T≤y*T:=by rw [Int.add_mul] at hhT;omega
 have hU:hi*(T*4294967296)+b=hi*T*4294967296+b:=by rw [avQ]
 have hU2:hi*T*4294967296+b<y*T*4294967296:=by
  omega
 have hq:=Int.mul_ediv_add_emod (hi*T*4294967296+b) (y*T);have hr0:=ajQ (hi*T*4294967296+b) (show y*T≠0 by omega);have hr1:=ahJ (hi*T*4294967296+b) hyT0;have hq0:0≤(hi*T*4294967296+b)/(y*T):=asQ (by omega) (by omega);have hq1:(hi*T*4294967296+b)/(y*T)<4294967296:=Int.ediv_lt_of_lt_mul hyT0 (by omega);generalize hqq:(hi*T*4294967296+b)/(y*T)=q1 at*;generalize hrr:(hi*T*4294967296+b)%(y*T)=r1 at*;have hN:r1*4294967296+m*T<y*T*4294967296:=by omega
 have hs:=Int.mul_ediv_add_emod (r1*4294967296+m*T) (y*T);have hs0:=ajQ (r1*4294967296+m*T) (show y*T≠0 by omega);have hs1:=ahJ (r1*4294967296+m*T) hyT0;have ht0:0≤(r1*4294967296+m*T)/(y*T):=asQ (by omega) (by omega);have ht1:(r1*4294967296+m*T)/(y*T)<4294967296:=Int.ediv_lt_of_lt_mul hyT0 (by omega);generalize htt:(r1*4294967296+m*T)/(y*T)=q0 at*;generalize hss:(r1*4294967296+m*T)%(y*T)=r0 at*;have hR:r0=(hi*18446744073709551616+lo-(q1*4294967296+q0)*y)*T:=by grind
 have hR0:0≤hi*18446744073709551616+lo-(q1*4294967296+q0)*y:=by
  rcases Int.lt_or_le (hi*18446744073709551616+lo-(q1*4294967296+q0)*y) 0 with h | h
  ·have:=Int.mul_neg_of_neg_of_pos h hT;omega
  ·exact h
 have hR1:hi*18446744073709551616+lo-(q1*4294967296+q0)*y<y:=by
  have:(hi*18446744073709551616+lo-(q1*4294967296+q0)*y)*T<y*T:=by rw [←hR];exact hs1
  exact Int.lt_of_mul_lt_mul_right this (by omega)
 refine ⟨y*(T*4294967296),y*T,hi*(T*4294967296),b,hi*T*4294967296+b,m*T*4294967296,m*T,q1,r1,r1*4294967296+m*T,q0,r0,hi*18446744073709551616+lo-(q1*4294967296+q0)*y,rfl,?_,?_,?_,hyT0,hyT,rfl,?_,?_,rfl,hB0,hB,?_,by omega,by omega,?_,rfl,hu0,hu,hqq.symm,hq0,hq1,?_,hr0,hr1,rfl,by omega,?_,htt.symm,ht0,ht1,?_,hs0,hs1,?_,hR,hR0,hR1,by omega⟩
 ·rw [←avQ];omega
 ·rw [←avQ];omega
 ·rw [←avQ]
 ·rw [←avQ];omega
 ·rw [←avQ];omega
 ·rw [←avQ]
 ·rw [←avQ,hloT];omega
 ·grind
 ·grind
 ·grind
 ·grind
def JD (x:Int) (w:World) (e:Ending) (w':World):Prop:=e=.returned (.int .i64 x)∧w=w'
theorem zeros_any (x:Int) (h0:0≤x) (h1:x≤18446744073709551615) (w:World):Calls Tryz.prog 273 #[.int .u64 x] w (JD (64-(amQ x.toNat:Int)) w):=
 Calls.mono (Any.bits_LeadingZeros64 Tryz.lays134 x w h0 h1) fun _ _ h=>⟨h.1,h.2.symm⟩
def GV (q r:Int) (w:World) (e:Ending) (w':World):Prop:=e=.returned (.tuple #[.int .u64 q,.int .u64 r])∧(w'=w∨w'=w.drew)
theorem div64_walk (hi lo y S Y v A B U W u1 q1 r1 N2 q0 r0 Q R:Int) (hS:S=64-(amQ y.toNat:Int)) (hS1:32≤S) (hS2:S≤63) (hy:0<y) (hy2:y<4294967296) (hh:0<hi) (hhy:hi<y)
  (hv:0<v) (hq1:q1<4294967296) (hq0:q0<4294967296)
  (e1:u64.wrap (y*2^S.toNat)=Y) (e2:Y/4294967296=v) (e3:bits .and .u64 Y 4294967295=0)
  (e4:u64.wrap (hi*2^S.toNat)=A) (e5:lo/2^(64-S).toNat=B) (e6:bits .or .u64 A B=U)
  (e7:u64.wrap (lo*2^S.toNat)=W) (e8:W/4294967296=u1) (e9:bits .and .u64 W 4294967295=0)
  (e10:u64.wrap (U.tdiv v)=q1) (e11:u64.wrap (U-u64.wrap (q1*v))=r1)
  (g1:0≤u64.wrap (u64.wrap (4294967296*r1)+u1))
  (e12:u64.wrap (u64.wrap (u64.wrap (U*4294967296)+u1)-u64.wrap (q1*Y))=N2)
  (e13:u64.wrap (N2.tdiv v)=q0) (e14:u64.wrap (N2-u64.wrap (q0*v))=r0)
  (g2:0≤u64.wrap (u64.wrap (4294967296*r0)))
  (e15:u64.wrap (u64.wrap (q1*4294967296)+q0)=Q)
  (e16:u64.wrap (u64.wrap (u64.wrap (N2*4294967296))-u64.wrap (q0*Y))/2^S.toNat=R) (w:World):Calls Tryz.prog 261 #[.int .u64 hi,.int .u64 lo,.int .u64 y] w (GV Q R w):=by
 have HS:=aaQ hS;have HP:=aaQ (show GV Q R w (.returned (.tuple #[.int .u64 Q,.int .u64 R])) w from ⟨rfl,.inl rfl⟩);clear hS;go_enter Tryz.func261,Tryz.ntmps261;go_wp2_with fail
 refine (zeros_any y (by omega) (by omega) w).mono ?_;rw [←HS.out];rintro e w' ⟨rfl,rfl⟩;go_wp2;refine wp_loop_rounds 1 ?_;rw [rounds_succ];go_wp2;refine wp_loop_rounds 1 ?_;rw [rounds_succ];go_wp2;go_ret2
 exact HP.out
theorem ZA (a:Int) (h0:0≤a) (h1:a<18446744073709551616):bits .and .u64 a 4294967295=a%4294967296:=by
 obtain ⟨n,rfl⟩:=ajJ h0;rw [Mul64.maskN n (by omega)];omega
theorem or_int (a b:Int) (k:Nat) (ha0:0≤a) (ha1:a*2^k<18446744073709551616) (hb0:0≤b) (hb1:b<2^k) (hb2:b<18446744073709551616):bits .or .u64 (a*2^k) b=a*2^k+b:=by
 obtain ⟨m,rfl⟩:=ajJ ha0;obtain ⟨n,rfl⟩:=ajJ hb0;have hp:((2^k:Nat):Int)=2^k:=by simp
 have hn:n<2^k:=by rw [←hp] at hb1;omega
 have hm:m*2^k<18446744073709551616:=by rw [←hp,←aiQ] at ha1;omega
 have hn2:n<18446744073709551616:=by omega
 have h:=bits_or_u64_nat (m*2^k) n hm hn2;have e:m*2^k||| n=m*2^k+n:=by
  have:=Nat.shiftLeft_add_eq_or_of_lt hn m;rw [Nat.shiftLeft_eq] at this;exact this.symm
 rw [e] at h;have c:(((m*2^k:Nat)):Int)=(m:Int)*2^k:=by rw [aiQ,hp]
 have c2:(((m*2^k+n:Nat)):Int)=(m:Int)*2^k+(n:Int):=by rw [Int.natCast_add,aiQ,hp]
 rw [c,c2] at h;exact h
theorem cX (a:Int) (h0:0≤a) (h1:a<18446744073709551616):u64.wrap a=a:=by rw [IntKind.wrap_u64];omega
theorem powers (y:Int) (hy:0<y) (hy2:y<4294967296):∃(S T K:Int) (t:Nat),S=64-(amQ y.toNat:Int)∧32≤S∧S≤63∧(2:Int)^S.toNat=T*4294967296∧(2:Int)^(64-S).toNat=K∧0<T∧T*K=4294967296∧y<K∧K≤2*y∧T*4294967296=2^t:=by
 obtain ⟨n,rfl⟩:=ajJ (show 0≤y by omega);have hn:n≠0:=by omega
 obtain ⟨hp,h2,h1⟩:=Lib.bitLenAux_bounds 64 n (by omega) hn;change 1≤amQ n at hp;change 2^(amQ n-1)≤n at h2;change n<2^amQ n at h1;have hl:amQ n≤32:=Lib.bitLen_le n 32 (by omega) (by omega);rw [Int.toNat_natCast];generalize amQ n=L at*;obtain ⟨l,rfl⟩:∃l,L=l+1:=⟨L-1,by omega⟩;rw [Nat.add_sub_cancel] at h2;have e1:(64-((l+1:Nat):Int)).toNat=(31-l)+32:=by omega
 have e2:(64-(64-((l+1:Nat):Int))).toNat=l+1:=by omega
 have hK:((2^(l+1):Nat):Int)=2^(l+1):=by simp
 have hK2:((2^l:Nat):Int)=2^l:=by simp
 refine ⟨64-((l+1:Nat):Int),2^(31-l),2^(l+1),(31-l)+32,rfl,by omega,by omega,?_,by rw [e2],Int.pow_pos (by decide),?_,?_,?_,?_⟩
 ·rw [e1,Int.pow_add];rfl
 ·rw [←Int.pow_add,show 31-l+(l+1)=32 by omega];rfl
 ·rw [←hK];omega
 ·rw [Int.pow_succ,←hK2];omega
 ·rw [Int.pow_add];rfl
theorem lZ (hi lo y:Int) (hy:0<y) (hy2:y<4294967296) (hh:0≤hi) (hhy:hi<y) (hl:0≤lo) (hl2:lo<18446744073709551616):
  ∃q r:Int,0≤q∧q<18446744073709551616∧0≤r∧r<y∧hi*18446744073709551616+lo=q*y+r∧∀w,Calls Tryz.prog 261 #[.int .u64 hi,.int .u64 lo,.int .u64 y] w (GV q r w):=by
 rcases apZ hh with hh | rfl
 ·obtain ⟨S,T,K,t,hS,hS1,hS2,p1,p2,hT,hTK,hyK,hKy,ht⟩:=powers y hy hy2;obtain ⟨Y,v,A,B,U,W,u1,q1,r1,N2,q0,r0,R,a1,a2,a3,a4,a5,a6,b1,b2,b3,b4,b5,b6,b7,b8,b9,c1,c2,c3,c4,d1,d2,d3,d4,d5,d6,d7,d8,d9,f1,f2,f3,f4,f5,f6,f7,f8,g1,g2,g3⟩:=div_plain hi lo y hy hh hhy hl hl2 T K hT hTK hyK hKy;refine ⟨q1*4294967296+q0,R,by omega,by omega,g1,g2,g3,fun w=>?_⟩;have hNv:0≤N2:=by omega
  have hpv:0≤q1*v:=aeZ d2 (by omega);have hpv0:0≤q0*v:=aeZ f2 (by omega);refine div64_walk hi lo y S Y v A B U W u1 q1 r1 N2 q0 r0 _ R hS hS1 hS2 hy hy2 hh hhy a5 d3 f3 ?_ ?_ ?_ ?_ ?_ ?_ ?_ ?_ ?_ ?_ ?_ ?_ ?_ ?_ ?_ ?_ ?_ ?_ w
  ·rw [p1,←a1,cX _ a2 a3]
  ·omega
  ·rw [ZA _ a2 a3];omega
  ·rw [p1,←b1,cX _ b2 b3]
  ·rw [p2,b4]
  ·rw [b7,b1,ht];rw [ht] at b1 b6;exact or_int hi B t (by omega) (by omega) b5 b6 (by omega)
  ·rw [p1,IntKind.wrap_u64,←c1]
  ·omega
  ·rw [ZA _ (by omega) (by omega)];omega
  ·rw [aiZ b8,←d1,cX _ d2 (by omega)]
  ·rw [cX (q1*v) hpv (by omega),←d4,cX _ d5 (by omega)]
  ·rw [IntKind.wrap_u64];omega
  ·generalize q1*Y=P at*;simp only [IntKind.wrap_u64];omega
  ·rw [aiZ hNv,←f1,cX _ f2 (by omega)]
  ·rw [cX (q0*v) hpv0 (by omega),←f4,cX _ f5 (by omega)]
  ·rw [IntKind.wrap_u64];omega
  ·simp only [IntKind.wrap_u64];omega
  ·have e:u64.wrap (u64.wrap (u64.wrap (N2*4294967296))-u64.wrap (q0*Y))=r0*4294967296:=by
    generalize q0*Y=P at*;simp only [IntKind.wrap_u64];omega
   rw [e,p1,f8,avQ];exact Int.mul_ediv_cancel _ (by omega)
 ·have hq0:=asQ hl (show 0≤y by omega);have hq1:lo/y<18446744073709551616:=Int.ediv_lt_of_lt_mul hy (by
   have:=Int.mul_le_mul_of_nonneg_left (show (1:Int)≤y by omega) (show (0:Int)≤18446744073709551616 by omega);omega)
  have hr0:=ajQ lo (show y≠0 by omega);have hr1:=ahJ lo hy;have hm:=Int.mul_ediv_add_emod lo y;refine ⟨lo/y,lo%y,hq0,hq1,hr0,hr1,by rw [akQ (lo/y)];omega,fun w=>?_⟩;have k1:u64.wrap (lo.tdiv y)=lo/y:=by rw [aiZ hl,cX _ hq0 hq1]
  have k2:u64.wrap (lo.tmod y)=lo%y:=by rw [Int.tmod_eq_emod_of_nonneg hl,cX _ hr0 (by omega)]
  have k3:lo.tmod y=lo%y:=Int.tmod_eq_emod_of_nonneg hl;have HP:=aaQ (show GV (lo/y) (lo%y) w (.returned (.tuple #[.int .u64 (lo/y),.int .u64 (lo%y)])) w.drew from ⟨rfl,.inr rfl⟩);clear hm hq0 hq1 hr0 hr1;go_enter Tryz.func261,Tryz.ntmps261;go_wp2;go_region
  go_wp2;go_ret2
  exact HP.out
end
section
open Go.RowKit
theorem wO (w w':World) (A R:Obj) (h:w'=(w.alloc A).alloc R∨w'=((w.alloc A).alloc R).drew):∃w1:World,w'=(w1.alloc A).alloc R∧w1.heap.size=w.heap.size∧Below w.heap.size w w1:=by
 rcases h with rfl | rfl
 ·exact ⟨w,rfl,rfl,acQ _ _⟩
 ·exact ⟨w.drew,rfl,rfl,(acQ _ _).drew⟩
theorem ndiv_ex (a0 a1 a2 a3 t d:Int) (ha0:bM a0) (ha1:bM a1) (ha2:bM a2) (ha3:bM a3) (hd:0<d) (hd2:d<4294967296) (ht0:0≤t) (ht:t<d):
  ∃s0 s1 s2 s3 r:Int,(bM s0∧bM s1∧bM s2∧bM s3)∧0≤r∧r<d∧
   t*115792089237316195423570985008687907853269984665640564039457584007913129639936+(a0*6277101735386680763835789423207666416102355444464034512896+a1*340282366920938463463374607431768211456+a2*18446744073709551616+a3)=(s0*6277101735386680763835789423207666416102355444464034512896+s1*340282366920938463463374607431768211456+s2*18446744073709551616+s3)*d+r∧
   ∀w,Calls Tryz.prog 271 #[cN a0 a1 a2 a3,.int .u64 t,.int .u64 d] w (fT w (cN s0 s1 s2 s3)):=by
 obtain ⟨s0,r0,g0,g0',d0,d0',e0,E0⟩:=lZ t a0 d hd hd2 ht0 ht ha0.1 ha0.2;obtain ⟨s1,r1,g1,g1',d1,d1',e1,E1⟩:=lZ r0 a1 d hd hd2 d0 d0' ha1.1 ha1.2;obtain ⟨s2,r2,g2,g2',d2,d2',e2,E2⟩:=lZ r1 a2 d hd hd2 d1 d1' ha2.1 ha2.2;obtain ⟨s3,r3,g3,g3',d3,d3',e3,E3⟩:=lZ r2 a3 d hd hd2 d2 d2' ha3.1 ha3.2;refine ⟨s0,s1,s2,s3,r3,⟨⟨g0,g0'⟩,⟨g1,g1'⟩,⟨g2,g2'⟩,⟨g3,g3'⟩⟩,d3,d3',by grind,fun w=>?_⟩;clear g0 g0' g1 g1' g2 g2' g3 g3' d0 d0' d1 d1' d2 d2' d3 d3' e0 e1 e2 e3 ha0 ha1 ha2 ha3 ht ht0 hd hd2;have E0:=aaQ E0;have E1:=aaQ E1;have E2:=aaQ E2;have E3:=aaQ E3;unfold cN;go_enter Tryz.func271,Tryz.ntmps271;go_wp2;refine wp_loop_rounds 5 ?_;rw [rounds_succ];go_wp2_with fail
 refine (E0.out _).mono ?_;rintro e w' ⟨rfl,hw⟩;obtain ⟨w1,rfl,hs1,hb1⟩:=wO _ _ _ _ hw;clear hw;go_wp2_with fail
 rw [rounds_succ];go_wp2_with fail
 refine (E1.out _).mono ?_;rintro e w' ⟨rfl,hw⟩;obtain ⟨w2,rfl,hs2,hb2⟩:=wO _ _ _ _ hw;clear hw;rw [hs1] at hb2 hs2;go_wp2_with fail
 rw [rounds_succ];go_wp2_with fail
 refine (E2.out _).mono ?_;rintro e w' ⟨rfl,hw⟩;obtain ⟨w3,rfl,hs3,hb3⟩:=wO _ _ _ _ hw;clear hw;rw [hs2] at hb3 hs3;go_wp2_with fail
 rw [rounds_succ];go_wp2_with fail
 refine (E3.out _).mono ?_;rintro e w' ⟨rfl,hw⟩;obtain ⟨w4,rfl,hs4,hb4⟩:=wO _ _ _ _ hw;clear hw;rw [hs3] at hb4 hs4;go_wp2_with fail
 rw [rounds_succ];go_wp2_with fail
 have hB:=(((hb1.trans hb2).trans hb3).trans hb4);simp [bodyPost,results,Tryz.results271,go_sem,hs4];exact ⟨rfl,(hB.alloc (by rw [hs4];exact aaX _) _).alloc (by simp [hs4]) _⟩
end
section
open Go.RowKit
structure Mac (a b o c s c':Int):Prop where
 out:∃hi lo s1 k1 h1 k2:Int,(∀w,Calls Tryz.prog 241 #[.int .u64 a,.int .u64 b] w fun e w'=>e=.returned (.tuple #[.int .u64 hi,.int .u64 lo])∧w'=w)∧
  (∀w,(callFunc 242 #[.int .u64 o,.int .u64 lo,.int .u64 0]).run Tryz.prog w=.ok (.value (.tuple #[.int .u64 s1,.int .u64 k1])) w)∧u64.wrap (hi+k1)=h1∧
  (∀w,(callFunc 242 #[.int .u64 s1,.int .u64 c,.int .u64 0]).run Tryz.prog w=.ok (.value (.tuple #[.int .u64 s,.int .u64 k2])) w)∧u64.wrap (h1+k2)=c'
theorem nA (a b o c:Int) (ha:bM a) (hb:bM b) (ho:bM o) (hc:bM c):∃s c':Int,bM s∧bM c'∧o+a*b+c=s+18446744073709551616*c'∧Mac a b o c s c':=by
 obtain ⟨a0,a1⟩:=ha;obtain ⟨b0,b1⟩:=hb;obtain ⟨o0,o1⟩:=ho;obtain ⟨c0,c1⟩:=hc;have hp0:0≤a*b:=aeZ a0 b0;have hp1:a*b≤18446744073709551615*18446744073709551615:=aiX (by omega) (by omega) b0 (by decide);have hM:∀w,Calls Tryz.prog 241 #[.int .u64 a,.int .u64 b] w fun e w'=>e=.returned (.tuple #[.int .u64 (a*b/18446744073709551616),.int .u64 (a*b%18446744073709551616)])∧w'=w:=fun w=>(DU a b ⟨a0,a1⟩ ⟨b0,b1⟩ w).mono fun _ _ h=>⟨h.1,h.2.symm⟩;generalize hP:a*b=P at*;refine ⟨((o+P%18446744073709551616)%18446744073709551616+c)%18446744073709551616,P/18446744073709551616+(o+P%18446744073709551616)/18446744073709551616+((o+P%18446744073709551616)%18446744073709551616+c)/18446744073709551616,⟨by omega,by omega⟩,⟨by omega,by omega⟩,by omega,
  ⟨P/18446744073709551616,P%18446744073709551616,(o+P%18446744073709551616)%18446744073709551616,(o+P%18446744073709551616)/18446744073709551616,P/18446744073709551616+(o+P%18446744073709551616)/18446744073709551616,((o+P%18446744073709551616)%18446744073709551616+c)/18446744073709551616,hM,fun w=>?_,?_,fun w=>?_,?_⟩⟩
 ·have:=mU o (P%18446744073709551616) 0 o0 (by omega) (by omega) w;simpa using this
 ·exact cX _ (by omega) (by omega)
 ·have:=mU ((o+P%18446744073709551616)%18446744073709551616) c 0 (by omega) c0 (by omega) w;simpa using this
 ·exact cX _ (by omega) (by omega)
theorem bD (w:World) (o:Obj) (n:Nat):(w.alloc o).drewN n=(w.drewN n).alloc o:=rfl
def CRel (w:World) (W:World→Int→World) (i C:Int) (c k:Value) (wr:World):Prop:=
 ∃w1:World,(w1.heap.size=w.heap.size∧Below w.heap.size w w1)∧((k=.int .i64 i∧c=.int .u64 C∧wr=W w1 0)∨(k=.int .i64 (i-1)∧c=.int .u64 0∧wr=W w1 C))
theorem CRel.ways {w:World} {W:World→Int→World} {i C:Int} {c k:Value} {wr:World} (h:CRel w W i C c k wr) (hC:0≤C):
  ∃w1:World,(w1.heap.size=w.heap.size∧Below w.heap.size w w1)∧((0<C∧k=.int .i64 i∧c=.int .u64 C∧wr=W w1 0)∨(∃k':Int,(k'=i∨k'=i-1)∧k=.int .i64 k'∧c=.int .u64 0∧wr=W w1 C)):=by
 obtain ⟨w1,hw,⟨h1,h2,h3⟩ | ⟨h1,h2,h3⟩⟩:=h
 ·rcases apZ hC with h | h
  ·exact ⟨w1,hw,.inl ⟨h,h1,h2,h3⟩⟩
  ·subst h;exact ⟨w1,hw,.inr ⟨i,.inl rfl,h1,h2,h3⟩⟩
 ·exact ⟨w1,hw,.inr ⟨i-1,.inr rfl,h1,h2,h3⟩⟩
theorem bI (w w0:World) (n:Nat) (h:w.heap.size=w0.heap.size∧Below w0.heap.size w0 w):(w.drewN n).heap.size=w0.heap.size∧Below w0.heap.size w0 (w.drewN n):=⟨h.1,below_drewN h.2 n⟩
def kOf:Value→Int | .int _ x=>x | _=>0
theorem GX (x:Int) (hx:0≤x) (h:x<18446744073709551616) (w:World):(callFunc 242 #[.int .u64 0,.int .u64 x,.int .u64 0]).run Tryz.prog w=.ok (.value (.tuple #[.int .u64 x,.int .u64 0])) w:=by
 have:=mU 0 x 0 (by omega) hx (by omega) w;rw [this];have e1:(0+x+0)%18446744073709551616=x:=by omega
 have e2:(0+x+0)/18446744073709551616=0:=by omega
 rw [e1,e2]
theorem array_at (a:Option Addr) (w:World):(Instr.arrayAt 201 (.slice a 4 6)).run Tryz.prog w=.ok (.pointer a) w:=run_arrayAt w 201 165 4 a 4 6 (by kernel_rfl) (by decide)
theorem nmul_walk (a0 a1 a2 a3 b0 b1 b2 b3 p1 c1 p2 c2 p3 c3 p4 c4 p5 c5 p6 c6 p7 c7 p8 c8 p9 c9 p10 c10 p11 c11 p12 c12 p13 c13:Int) (m1:Mac a3 b1 0 0 p1 c1) (m2:Mac a3 b0 0 c1 p2 c2) (m3:Mac a2 b2 p1 0 p3 c3) (m4:Mac a2 b1 p2 c3 p4 c4) (m5:Mac a2 b0 c2 c4 p5 c5) (m6:Mac a1 b3 p3 0 p6 c6) (m7:Mac a1 b2 p4 c6 p7 c7) (m8:Mac a1 b1 p5 c7 p8 c8) (m9:Mac a1 b0 c5 c8 p9 c9) (m10:Mac a0 b3 p7 0 p10 c10) (m11:Mac a0 b2 p8 c10 p11 c11) (m12:Mac a0 b1 p9 c11 p12 c12) (m13:Mac a0 b0 c9 c12 p13 c13) (g2:bM c2) (g5:bM c5) (g9:bM c9) (g13:bM c13) (w:World):Calls Tryz.prog 259 #[cN a0 a1 a2 a3,cN b0 b1 b2 b3] w (fT w (cN c13 p13 p12 p11)):=by
 have m1:=aaQ m1;have m2:=aaQ m2;have m3:=aaQ m3;have m4:=aaQ m4;have m5:=aaQ m5;have m6:=aaQ m6;have m7:=aaQ m7;have m8:=aaQ m8;have m9:=aaQ m9;have m10:=aaQ m10;have m11:=aaQ m11;have m12:=aaQ m12;have m13:=aaQ m13;have g2:=aaQ g2;have g5:=aaQ g5;have g9:=aaQ g9;have g13:=aaQ g13;unfold cN;go_enter Tryz.func259,Tryz.ntmps259;go_wp2;refine wp_loop_rounds 5 ?_;rw [rounds_succ];go_wp2_with fail
 refine wp_loop_rounds 5 ?_;rw [rounds_succ];go_wp2_with fail
 rw [rounds_succ];go_wp2_with fail
 rw [rounds_succ];go_wp2_with fail
 obtain ⟨hi,lo,s,k,h,l,M,A,x,B,y⟩:=m1.out.out;have M:=aaQ M;go_quiet (first | (go_at_call 241;refine Calls.quiet_of_same (M.out _)))
 simp only [bD];rename_i nq;have hd:=bI w w nq ⟨rfl,acQ _ _⟩;generalize amZ w nq=w1 at*;obtain ⟨hs,hb⟩:=hd;go_wp2_with fail
 clear A x B y;rw [rounds_succ];go_wp2_with fail
 obtain ⟨hi,lo,s,k,h,l,M,A,x,B,y⟩:=m2.out.out;have M:=aaQ M;go_quiet (first | (go_at_call 241;refine Calls.quiet_of_same (M.out _)))
 simp only [bD];rename_i nq;have hd:=bI w1 w nq ⟨hs,hb⟩;generalize amZ w1 nq=w2 at*;clear hs hb;obtain ⟨hs,hb⟩:=hd;go_wp2_with fail
 clear A x B y;rw [rounds_succ];obtain ⟨z0,z1⟩:=g2.out;have Z:=GX c2 z0 z1;go_wp2_with fail
 go_loopw [7,13] (fun c k wr=>CRel w (fun w1 x=>(((w1.alloc (.cells #[.int .u64 a0,.int .u64 a1,.int .u64 a2,.int .u64 a3] 201)).alloc (.cells #[.int .u64 b0,.int .u64 b1,.int .u64 b2,.int .u64 b3] 201)).alloc (.cells #[.int .u64 0,.int .u64 0,.int .u64 0,.int .u64 0] 201)).alloc (.cells #[.int .u64 0,.int .u64 0,.int .u64 0,.int .u64 x,.int .u64 p2,.int .u64 p1] 213)) 3 c2 c k wr) (fun _ k _=>(kOf k+1).toNat)
 case atStart=>exact ⟨_,⟨hs,hb⟩,.inl ⟨rfl,rfl,rfl⟩⟩
 clear hs hb;obtain ⟨w3,⟨hs,hb⟩,⟨hp,rfl,rfl,rfl⟩ | ⟨k',hk,rfl,rfl,rfl⟩⟩:=hrel.ways z0
 ·clear hrel;go_wp2_with fail
  go_roundw
  case rel=>exact ⟨_,⟨hs,hb⟩,.inr ⟨rfl,rfl,rfl⟩⟩
  case measure=>simp [kOf]
 clear hrel;go_wp2_with fail
 clear Z z0 z1;rw [rounds_succ];go_wp2_with fail
 refine wp_loop_rounds 5 ?_;rw [rounds_succ];go_wp2_with fail
 rw [rounds_succ];go_wp2_with fail
 obtain ⟨hi,lo,s,k,h,l,M,A,x,B,y⟩:=m3.out.out;have M:=aaQ M;go_quiet (first | (go_at_call 241;refine Calls.quiet_of_same (M.out _)))
 simp only [bD];rename_i nq;have hd:=bI w3 w nq ⟨hs,hb⟩;generalize amZ w3 nq=w4 at*;clear hs hb;obtain ⟨hs,hb⟩:=hd;go_wp2_with fail
 clear A x B y;rw [rounds_succ];go_wp2_with fail
 obtain ⟨hi,lo,s,k,h,l,M,A,x,B,y⟩:=m4.out.out;have M:=aaQ M;go_quiet (first | (go_at_call 241;refine Calls.quiet_of_same (M.out _)))
 simp only [bD];rename_i nq;have hd:=bI w4 w nq ⟨hs,hb⟩;generalize amZ w4 nq=w5 at*;clear hs hb;obtain ⟨hs,hb⟩:=hd;go_wp2_with fail
 clear A x B y;rw [rounds_succ];go_wp2_with fail
 obtain ⟨hi,lo,s,k,h,l,M,A,x,B,y⟩:=m5.out.out;have M:=aaQ M;go_quiet (first | (go_at_call 241;refine Calls.quiet_of_same (M.out _)))
 simp only [bD];rename_i nq;have hd:=bI w5 w nq ⟨hs,hb⟩;generalize amZ w5 nq=w6 at*;clear hs hb;obtain ⟨hs,hb⟩:=hd;go_wp2_with fail
 clear A x B y;rw [rounds_succ];obtain ⟨z0,z1⟩:=g5.out;have Z:=GX c5 z0 z1;go_wp2_with fail
 go_loopw [7,13] (fun c k wr=>CRel w (fun w1 x=>(((w1.alloc (.cells #[.int .u64 a0,.int .u64 a1,.int .u64 a2,.int .u64 a3] 201)).alloc (.cells #[.int .u64 b0,.int .u64 b1,.int .u64 b2,.int .u64 b3] 201)).alloc (.cells #[.int .u64 0,.int .u64 0,.int .u64 0,.int .u64 0] 201)).alloc (.cells #[.int .u64 0,.int .u64 0,.int .u64 x,.int .u64 p5,.int .u64 p4,.int .u64 p3] 213)) 2 c5 c k wr) (fun _ k _=>(kOf k+1).toNat)
 case atStart=>exact ⟨_,⟨hs,hb⟩,.inl ⟨rfl,rfl,rfl⟩⟩
 clear hs hb;obtain ⟨w7,⟨hs,hb⟩,⟨hp,rfl,rfl,rfl⟩ | ⟨k',hk,rfl,rfl,rfl⟩⟩:=hrel.ways z0
 ·clear hrel;go_wp2_with fail
  go_roundw
  case rel=>exact ⟨_,⟨hs,hb⟩,.inr ⟨rfl,rfl,rfl⟩⟩
  case measure=>simp [kOf]
 clear hrel;go_wp2_with fail
 clear Z z0 z1;rw [rounds_succ];go_wp2_with fail
 refine wp_loop_rounds 5 ?_;rw [rounds_succ];go_wp2_with fail
 obtain ⟨hi,lo,s,k,h,l,M,A,x,B,y⟩:=m6.out.out;have M:=aaQ M;go_quiet (first | (go_at_call 241;refine Calls.quiet_of_same (M.out _)))
 simp only [bD];rename_i nq;have hd:=bI w7 w nq ⟨hs,hb⟩;generalize amZ w7 nq=w8 at*;clear hs hb;obtain ⟨hs,hb⟩:=hd;go_wp2_with fail
 clear A x B y;rw [rounds_succ];go_wp2_with fail
 obtain ⟨hi,lo,s,k,h,l,M,A,x,B,y⟩:=m7.out.out;have M:=aaQ M;go_quiet (first | (go_at_call 241;refine Calls.quiet_of_same (M.out _)))
 simp only [bD];rename_i nq;have hd:=bI w8 w nq ⟨hs,hb⟩;generalize amZ w8 nq=w9 at*;clear hs hb;obtain ⟨hs,hb⟩:=hd;go_wp2_with fail
 clear A x B y;rw [rounds_succ];go_wp2_with fail
 obtain ⟨hi,lo,s,k,h,l,M,A,x,B,y⟩:=m8.out.out;have M:=aaQ M;go_quiet (first | (go_at_call 241;refine Calls.quiet_of_same (M.out _)))
 simp only [bD];rename_i nq;have hd:=bI w9 w nq ⟨hs,hb⟩;generalize amZ w9 nq=w10 at*;clear hs hb;obtain ⟨hs,hb⟩:=hd;go_wp2_with fail
 clear A x B y;rw [rounds_succ];go_wp2_with fail
 obtain ⟨hi,lo,s,k,h,l,M,A,x,B,y⟩:=m9.out.out;have M:=aaQ M;go_quiet (first | (go_at_call 241;refine Calls.quiet_of_same (M.out _)))
 simp only [bD];rename_i nq;have hd:=bI w10 w nq ⟨hs,hb⟩;generalize amZ w10 nq=w11 at*;clear hs hb;obtain ⟨hs,hb⟩:=hd;go_wp2_with fail
 clear A x B y;rw [rounds_succ];obtain ⟨z0,z1⟩:=g9.out;have Z:=GX c9 z0 z1;go_wp2_with fail
 go_loopw [7,13] (fun c k wr=>CRel w (fun w1 x=>(((w1.alloc (.cells #[.int .u64 a0,.int .u64 a1,.int .u64 a2,.int .u64 a3] 201)).alloc (.cells #[.int .u64 b0,.int .u64 b1,.int .u64 b2,.int .u64 b3] 201)).alloc (.cells #[.int .u64 0,.int .u64 0,.int .u64 0,.int .u64 0] 201)).alloc (.cells #[.int .u64 0,.int .u64 x,.int .u64 p9,.int .u64 p8,.int .u64 p7,.int .u64 p6] 213)) 1 c9 c k wr) (fun _ k _=>(kOf k+1).toNat)
 case atStart=>exact ⟨_,⟨hs,hb⟩,.inl ⟨rfl,rfl,rfl⟩⟩
 clear hs hb;obtain ⟨w12,⟨hs,hb⟩,⟨hp,rfl,rfl,rfl⟩ | ⟨k',hk,rfl,rfl,rfl⟩⟩:=hrel.ways z0
 ·clear hrel;go_wp2_with fail
  go_roundw
  case rel=>exact ⟨_,⟨hs,hb⟩,.inr ⟨rfl,rfl,rfl⟩⟩
  case measure=>simp [kOf]
 clear hrel;go_wp2_with fail
 clear Z z0 z1;rw [rounds_succ];go_wp2_with fail
 refine wp_loop_rounds 5 ?_;rw [rounds_succ];go_wp2_with fail
 obtain ⟨hi,lo,s,k,h,l,M,A,x,B,y⟩:=m10.out.out;have M:=aaQ M;go_quiet (first | (go_at_call 241;refine Calls.quiet_of_same (M.out _)))
 simp only [bD];rename_i nq;have hd:=bI w12 w nq ⟨hs,hb⟩;generalize amZ w12 nq=w13 at*;clear hs hb;obtain ⟨hs,hb⟩:=hd;go_wp2_with fail
 clear A x B y;rw [rounds_succ];go_wp2_with fail
 obtain ⟨hi,lo,s,k,h,l,M,A,x,B,y⟩:=m11.out.out;have M:=aaQ M;go_quiet (first | (go_at_call 241;refine Calls.quiet_of_same (M.out _)))
 simp only [bD];rename_i nq;have hd:=bI w13 w nq ⟨hs,hb⟩;generalize amZ w13 nq=w14 at*;clear hs hb;obtain ⟨hs,hb⟩:=hd;go_wp2_with fail
 clear A x B y;rw [rounds_succ];go_wp2_with fail
 obtain ⟨hi,lo,s,k,h,l,M,A,x,B,y⟩:=m12.out.out;have M:=aaQ M;go_quiet (first | (go_at_call 241;refine Calls.quiet_of_same (M.out _)))
 simp only [bD];rename_i nq;have hd:=bI w14 w nq ⟨hs,hb⟩;generalize amZ w14 nq=w15 at*;clear hs hb;obtain ⟨hs,hb⟩:=hd;go_wp2_with fail
 clear A x B y;rw [rounds_succ];go_wp2_with fail
 obtain ⟨hi,lo,s,k,h,l,M,A,x,B,y⟩:=m13.out.out;have M:=aaQ M;go_quiet (first | (go_at_call 241;refine Calls.quiet_of_same (M.out _)))
 simp only [bD];rename_i nq;have hd:=bI w15 w nq ⟨hs,hb⟩;generalize amZ w15 nq=w16 at*;clear hs hb;obtain ⟨hs,hb⟩:=hd;go_wp2_with fail
 clear A x B y;rw [rounds_succ];obtain ⟨z0,z1⟩:=g13.out;have Z:=GX c13 z0 z1;go_wp2_with fail
 go_loopw [7,13] (fun c k wr=>CRel w (fun w1 x=>(((w1.alloc (.cells #[.int .u64 a0,.int .u64 a1,.int .u64 a2,.int .u64 a3] 201)).alloc (.cells #[.int .u64 b0,.int .u64 b1,.int .u64 b2,.int .u64 b3] 201)).alloc (.cells #[.int .u64 0,.int .u64 0,.int .u64 0,.int .u64 0] 201)).alloc (.cells #[.int .u64 x,.int .u64 p13,.int .u64 p12,.int .u64 p11,.int .u64 p10,.int .u64 p6] 213)) 0 c13 c k wr) (fun _ k _=>(kOf k+1).toNat)
 case atStart=>exact ⟨_,⟨hs,hb⟩,.inl ⟨rfl,rfl,rfl⟩⟩
 clear hs hb;obtain ⟨w17,⟨hs,hb⟩,⟨hp,rfl,rfl,rfl⟩ | ⟨k',hk,rfl,rfl,rfl⟩⟩:=hrel.ways z0
 ·clear hrel;go_wp2_with fail
  go_roundw
  case rel=>exact ⟨_,⟨hs,hb⟩,.inr ⟨rfl,rfl,rfl⟩⟩
  case measure=>simp [kOf]
 clear hrel;have HA:=array_at;rcases hk with rfl | rfl
 ·go_wp2_with fail
  rw [rounds_succ];go_wp2_with fail
  simp [bodyPost,results,Tryz.results259,go_sem,hs];exact ⟨rfl,(((hb.alloc (by rw [hs];exact aaX _) _).alloc (by simp [hs]) _).alloc (by simp [hs];omega) _).alloc (by simp [hs];omega) _⟩
 ·go_wp2_with fail
  rw [rounds_succ];go_wp2_with fail
  simp [bodyPost,results,Tryz.results259,go_sem,hs];exact ⟨rfl,(((hb.alloc (by rw [hs];exact aaX _) _).alloc (by simp [hs]) _).alloc (by simp [hs];omega) _).alloc (by simp [hs];omega) _⟩
theorem SW (a0 a1 a2 a3 b0 b1 b2 b3:Int) (ha0:bM a0) (ha1:bM a1) (ha2:bM a2) (ha3:bM a3) (hb0:bM b0) (hb1:bM b1) (hb2:bM b2) (hb3:bM b3):
  ∃s0 s1 s2 s3:Int,(bM s0∧bM s1∧bM s2∧bM s3)∧(s0*6277101735386680763835789423207666416102355444464034512896+s1*340282366920938463463374607431768211456+s2*18446744073709551616+s3)*115792089237316195423570985008687907853269984665640564039457584007913129639936≤(a0*6277101735386680763835789423207666416102355444464034512896+a1*340282366920938463463374607431768211456+a2*18446744073709551616+a3)*(b0*6277101735386680763835789423207666416102355444464034512896+b1*340282366920938463463374607431768211456+b2*18446744073709551616+b3)∧(a0*6277101735386680763835789423207666416102355444464034512896+a1*340282366920938463463374607431768211456+a2*18446744073709551616+a3)*(b0*6277101735386680763835789423207666416102355444464034512896+b1*340282366920938463463374607431768211456+b2*18446744073709551616+b3)<((s0*6277101735386680763835789423207666416102355444464034512896+s1*340282366920938463463374607431768211456+s2*18446744073709551616+s3)+2)*115792089237316195423570985008687907853269984665640564039457584007913129639936∧∀w,Calls Tryz.prog 259 #[cN a0 a1 a2 a3,cN b0 b1 b2 b3] w (fT w (cN s0 s1 s2 s3)):=by
 have hz:bM 0:=⟨by omega,by omega⟩;obtain ⟨p1,c1,u1,v1,e1,m1⟩:=nA a3 b1 0 0 ha3 hb1 hz hz;obtain ⟨p2,c2,u2,v2,e2,m2⟩:=nA a3 b0 0 c1 ha3 hb0 hz v1;obtain ⟨p3,c3,u3,v3,e3,m3⟩:=nA a2 b2 p1 0 ha2 hb2 u1 hz;obtain ⟨p4,c4,u4,v4,e4,m4⟩:=nA a2 b1 p2 c3 ha2 hb1 u2 v3;obtain ⟨p5,c5,u5,v5,e5,m5⟩:=nA a2 b0 c2 c4 ha2 hb0 v2 v4;obtain ⟨p6,c6,u6,v6,e6,m6⟩:=nA a1 b3 p3 0 ha1 hb3 u3 hz;obtain ⟨p7,c7,u7,v7,e7,m7⟩:=nA a1 b2 p4 c6 ha1 hb2 u4 v6;obtain ⟨p8,c8,u8,v8,e8,m8⟩:=nA a1 b1 p5 c7 ha1 hb1 u5 v7;obtain ⟨p9,c9,u9,v9,e9,m9⟩:=nA a1 b0 c5 c8 ha1 hb0 v5 v8;obtain ⟨p10,c10,u10,v10,e10,m10⟩:=nA a0 b3 p7 0 ha0 hb3 u7 hz;obtain ⟨p11,c11,u11,v11,e11,m11⟩:=nA a0 b2 p8 c10 ha0 hb2 u8 v10;obtain ⟨p12,c12,u12,v12,e12,m12⟩:=nA a0 b1 p9 c11 ha0 hb1 u9 v11;obtain ⟨p13,c13,u13,v13,e13,m13⟩:=nA a0 b0 c9 c12 ha0 hb0 v9 v12;have HM:=fun w=>nmul_walk a0 a1 a2 a3 b0 b1 b2 b3 p1 c1 p2 c2 p3 c3 p4 c4 p5 c5 p6 c6 p7 c7 p8 c8 p9 c9 p10 c10 p11 c11 p12 c12 p13 c13 m1 m2 m3 m4 m5 m6 m7 m8 m9 m10 m11 m12 m13 v2 v5 v9 v13 w;clear m1 m2 m3 m4 m5 m6 m7 m8 m9 m10 m11 m12 m13;refine ⟨c13,p13,p12,p11,⟨v13,u13,u12,u11⟩,?_,?_,HM⟩
 ·clear HM;have hex:(a0*6277101735386680763835789423207666416102355444464034512896+a1*340282366920938463463374607431768211456+a2*18446744073709551616+a3)*(b0*6277101735386680763835789423207666416102355444464034512896+b1*340282366920938463463374607431768211456+b2*18446744073709551616+b3)=a0*b0*39402006196394479212279040100143613805079739270465446667948293404245721771497210611414266254884915640806627990306816+a0*b1*2135987035920910082395021706169552114602704522356652769947041607822219725780640550022962086936576+a0*b2*115792089237316195423570985008687907853269984665640564039457584007913129639936+a0*b3*6277101735386680763835789423207666416102355444464034512896+a1*b0*2135987035920910082395021706169552114602704522356652769947041607822219725780640550022962086936576+a1*b1*115792089237316195423570985008687907853269984665640564039457584007913129639936+a1*b2*6277101735386680763835789423207666416102355444464034512896+a1*b3*340282366920938463463374607431768211456+a2*b0*115792089237316195423570985008687907853269984665640564039457584007913129639936+a2*b1*6277101735386680763835789423207666416102355444464034512896+a2*b2*340282366920938463463374607431768211456+a2*b3*18446744073709551616+a3*b0*6277101735386680763835789423207666416102355444464034512896+a3*b1*340282366920938463463374607431768211456+a3*b2*18446744073709551616+a3*b3*1:=by grind
  rw [hex];clear hex;have n23:0≤a2*b3:=aeZ ha2.1 hb3.1;have x23:a2*b3≤18446744073709551615*18446744073709551615:=aiX (by have:=ha2.2;omega) (by have:=hb3.2;omega) hb3.1 (by decide);have n32:0≤a3*b2:=aeZ ha3.1 hb2.1;have x32:a3*b2≤18446744073709551615*18446744073709551615:=aiX (by have:=ha3.2;omega) (by have:=hb2.2;omega) hb2.1 (by decide);have n33:0≤a3*b3:=aeZ ha3.1 hb3.1;have x33:a3*b3≤18446744073709551615*18446744073709551615:=aiX (by have:=ha3.2;omega) (by have:=hb3.2;omega) hb3.1 (by decide);obtain ⟨r4,R4⟩:=u10;obtain ⟨r5,R5⟩:=u6;clear ha0 ha1 ha2 ha3 hb0 hb1 hb2 hb3;generalize a0*b0=P00 at*;generalize a0*b1=P01 at*;generalize a0*b2=P02 at*;generalize a0*b3=P03 at*;generalize a1*b0=P10 at*;generalize a1*b1=P11 at*;generalize a1*b2=P12 at*;generalize a1*b3=P13 at*;generalize a2*b0=P20 at*;generalize a2*b1=P21 at*;generalize a2*b2=P22 at*;generalize a2*b3=P23 at*;generalize a3*b0=P30 at*;generalize a3*b1=P31 at*;generalize a3*b2=P32 at*;generalize a3*b3=P33 at*;clear hz;omega
 ·clear HM;have hex:(a0*6277101735386680763835789423207666416102355444464034512896+a1*340282366920938463463374607431768211456+a2*18446744073709551616+a3)*(b0*6277101735386680763835789423207666416102355444464034512896+b1*340282366920938463463374607431768211456+b2*18446744073709551616+b3)=a0*b0*39402006196394479212279040100143613805079739270465446667948293404245721771497210611414266254884915640806627990306816+a0*b1*2135987035920910082395021706169552114602704522356652769947041607822219725780640550022962086936576+a0*b2*115792089237316195423570985008687907853269984665640564039457584007913129639936+a0*b3*6277101735386680763835789423207666416102355444464034512896+a1*b0*2135987035920910082395021706169552114602704522356652769947041607822219725780640550022962086936576+a1*b1*115792089237316195423570985008687907853269984665640564039457584007913129639936+a1*b2*6277101735386680763835789423207666416102355444464034512896+a1*b3*340282366920938463463374607431768211456+a2*b0*115792089237316195423570985008687907853269984665640564039457584007913129639936+a2*b1*6277101735386680763835789423207666416102355444464034512896+a2*b2*340282366920938463463374607431768211456+a2*b3*18446744073709551616+a3*b0*6277101735386680763835789423207666416102355444464034512896+a3*b1*340282366920938463463374607431768211456+a3*b2*18446744073709551616+a3*b3*1:=by grind
  rw [hex];clear hex;have n23:0≤a2*b3:=aeZ ha2.1 hb3.1;have x23:a2*b3≤18446744073709551615*18446744073709551615:=aiX (by have:=ha2.2;omega) (by have:=hb3.2;omega) hb3.1 (by decide);have n32:0≤a3*b2:=aeZ ha3.1 hb2.1;have x32:a3*b2≤18446744073709551615*18446744073709551615:=aiX (by have:=ha3.2;omega) (by have:=hb2.2;omega) hb2.1 (by decide);have n33:0≤a3*b3:=aeZ ha3.1 hb3.1;have x33:a3*b3≤18446744073709551615*18446744073709551615:=aiX (by have:=ha3.2;omega) (by have:=hb3.2;omega) hb3.1 (by decide);obtain ⟨r4,R4⟩:=u10;obtain ⟨r5,R5⟩:=u6;clear ha0 ha1 ha2 ha3 hb0 hb1 hb2 hb3;generalize a0*b0=P00 at*;generalize a0*b1=P01 at*;generalize a0*b2=P02 at*;generalize a0*b3=P03 at*;generalize a1*b0=P10 at*;generalize a1*b1=P11 at*;generalize a1*b2=P12 at*;generalize a1*b3=P13 at*;generalize a2*b0=P20 at*;generalize a2*b1=P21 at*;generalize a2*b2=P22 at*;generalize a2*b3=P23 at*;generalize a3*b0=P30 at*;generalize a3*b1=P31 at*;generalize a3*b2=P32 at*;generalize a3*b3=P33 at*;clear hz;omega
end
end Go.Proofs.YtmididlfnajhiaaGreatDoor
