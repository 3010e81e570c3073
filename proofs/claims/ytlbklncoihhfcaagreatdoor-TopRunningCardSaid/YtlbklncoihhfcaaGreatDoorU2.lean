/-
  The sine's plain law, first part: differences of the polynomials, their approximations in integers, and numbers side by side in one number. No program here. The sine's plain law, second part: every.
-/
import Derived.Test.YtlbklncoihhfcaaGreatDoorChecked
import Derived.WalkKit
import Derived.Lib.Hide
import Derived.Below
import Derived.IntWalk
import Derived.Outline
import Derived.Shelf.Spec.BitsCarry
import Derived.Deep.RegionWith
import Derived.RegionTactic
import Derived.Shelf.Bits.Mul64
import Derived.LoopN
import Derived.WalkSpells
import Derived.StillTactics
import Derived.Shelf.Small.Bits
import Derived.Lib.ItoaNum
import Derived.RegionCalls
import Derived.Deep.QuietTactic
import Derived.BigQuiet
import Derived.WalkSmall
import Derived.Laws.Cover3
set_option maxRecDepth 100000
set_option maxHeartbeats 4000000
open Go.RowKit.Below renaming refl→zD
open _root_.Int renaming emod_lt_of_pos→qQ,emod_nonneg→yC,eq_ofNat_of_zero_le→zY,mul_assoc→xV,mul_comm→aiJ,mul_le_mul→yZ,mul_nonneg→zX,natCast_mul→yU,tdiv_eq_ediv_of_nonneg→qW
open Go.Lib renaming bitLen→ajX,hid→zA
open _root_.Nat renaming add_mul→xI,beq→yD,ble→adJ,div_add_mod→xQ,eq_of_beq_eq_true→zQ,eq_zero_or_pos→yF,land→ahQ,le_refl→zC,lt_of_le_of_lt→yJ,lt_or_ge→qJ,mod_lt→yX,mul_le_mul→qM,mul_one→xF,rec→akX,zero_add→qP,zero_le→zO
open _root_.Rat renaming le_of_mul_le_mul_left→yM,mul_le_mul_of_nonneg_left→qA,mul_nonneg→zN,natCast_add→xD
open Go.Proofs.Tryz renaming prog→zB
open Go.World renaming drewN→qE
open Go.IntKind (i64 u64)
open Go.Value renaming int→jI
open Go.IntKind renaming u64→jU
open Go.Obj renaming cells→jC
namespace Go.Proofs.YtlbklncoihhfcaaGreatDoor
namespace SM
theorem aGL{u v a b:Rat}(i:-a<=u/\u<=a)(j:-b<=v/\v<=b):-(a*b)<=u*v/\u*v<=a*b:=by
 have g:0<=a:=by grind
 have h:0<=b:=by grind
 have c:0<=(a-u)*(b+v):=zN (by grind) (by grind);have d:0<=(a+u)*(b-v):=zN (by grind) (by grind);have e:0<=(a-u)*(b-v):=zN (by grind) (by grind);have f:0<=(a+u)*(b+v):=zN (by grind) (by grind);constructor<;>grind
def d1(f:Nat->Rat)(n:Nat):Rat:=f (n+1)-f n
def d2(f:Nat->Rat)(n:Nat):Rat:=f (n+2)-2*f (n+1)+f n
def d3(f:Nat->Rat)(n:Nat):Rat:=f (n+3)-3*f (n+2)+3*f (n+1)-f n
def d4(f:Nat->Rat)(n:Nat):Rat:=f (n+4)-4*f (n+3)+6*f (n+2)-4*f (n+1)+f n
theorem j6(f:Nat->Rat)(n:Nat):d1 f (n+1)=d1 f n+d2 f n:=by simp only[d1,d2];grind
theorem j7(f:Nat->Rat)(n:Nat):d2 f (n+1)=d2 f n+d3 f n:=by simp only[d2,d3];grind
theorem j8(f:Nat->Rat)(n:Nat):d3 f (n+1)=d3 f n+d4 f n:=by simp only[d3,d4];grind
structure Jet where
 b0:Rat
 b1:Rat
 b2:Rat
 b3:Rat
 b4:Rat
def bY(v b:Rat):Prop:=-b<=v/\v<=b
structure oI (N:Nat) (f:Nat->Rat) (j:Jet):Prop where
 h0:∀n,n<=N->bY (f n) j.b0
 h1:∀n,n+1<=N->bY (d1 f n) j.b1
 h2:∀n,n+2<=N->bY (d2 f n) j.b2
 h3:∀n,n+3<=N->bY (d3 f n) j.b3
 h4:∀n,n+4<=N->bY (d4 f n) j.b4
theorem bY.mul{u v a b:Rat}(c:bY u a)(d:bY v b):bY (u*v) (a*b):=aGL c d
theorem bY.add{u v a b:Rat}(c:bY u a)(d:bY v b):bY (u+v) (a+b):=by unfold bY at*;grind
theorem bY.scale{v b c:Rat}(d:bY v b)(e:0<=c):bY (c*v) (c*b):=bY.mul (u:=c) (a:=c) ⟨by grind,by grind⟩ d
theorem bY.eq{u v b:Rat}(a:bY v b)(h:u=v):bY u b:=by rw[h];exact a
theorem bY.mono{v b c:Rat}(a:bY v b)(h:b<=c):bY v c:=by unfold bY at*;grind
def Xo(x y:Jet):Jet:=⟨x.b0*y.b0,x.b0*y.b1+x.b1*y.b0,x.b0*y.b2+2*(x.b1*y.b1)+x.b2*y.b0,
 x.b0*y.b3+3*(x.b1*y.b2)+3*(x.b2*y.b1)+x.b3*y.b0,
 x.b0*y.b4+4*(x.b1*y.b3)+6*(x.b2*y.b2)+4*(x.b3*y.b1)+x.b4*y.b0⟩
theorem oI.mul{N:Nat}{f g:Nat->Rat}{x y:Jet}(a:oI N f x)(b:oI N g y):oI N (fun n=>f n*g n) (Xo x y):=by
 refine⟨fun n d=>(a.h0 n d).mul (b.h0 n d),fun n d=>?_,fun n d=>?_,fun n d=>?_,fun n d=>?_⟩
 ·refine(((a.h0 (n+1) (by omega)).mul (b.h1 n (by omega))).add ((a.h1 n (by omega)).mul (b.h0 n (by omega)))).eq ?_;simp only[d1];grind
 ·refine((((a.h0 (n+2) (by omega)).mul (b.h2 n (by omega))).add (((a.h1 (n+1) (by omega)).mul (b.h1 n (by omega))).scale (c:=2) (by grind))).add ((a.h2 n (by omega)).mul (b.h0 n (by omega)))).eq ?_;simp only[d1,d2];grind
 ·refine(((((a.h0 (n+3) (by omega)).mul (b.h3 n (by omega))).add (((a.h1 (n+2) (by omega)).mul (b.h2 n (by omega))).scale (c:=3) (by grind))).add (((a.h2 (n+1) (by omega)).mul (b.h1 n (by omega))).scale (c:=3) (by grind))).add ((a.h3 n (by omega)).mul (b.h0 n (by omega)))).eq ?_;simp only[d1,d2,d3];grind
 ·refine((((((a.h0 (n+4) (by omega)).mul (b.h4 n (by omega))).add (((a.h1 (n+3) (by omega)).mul (b.h3 n (by omega))).scale (c:=4) (by grind))).add (((a.h2 (n+2) (by omega)).mul (b.h2 n (by omega))).scale (c:=6) (by grind))).add (((a.h3 (n+1) (by omega)).mul (b.h1 n (by omega))).scale (c:=4) (by grind))).add ((a.h4 n (by omega)).mul (b.h0 n (by omega)))).eq ?_;simp only[d1,d2,d3,d4];grind
def BG(x:Jet):Jet:=⟨1+x.b0,x.b1,x.b2,x.b3,x.b4⟩
theorem oI.less{N:Nat}{f:Nat->Rat}{x:Jet}(b:oI N f x):oI N (fun n=>1-f n) (BG x):=by
 refine⟨fun n a=>?_,fun n a=>?_,fun n a=>?_,fun n a=>?_,fun n a=>?_⟩
 ·have:=b.h0 n a;unfold bY BG at*;grind
 ·have:=b.h1 n a;unfold bY BG at*;simp only[d1]at*;grind
 ·have:=b.h2 n a;unfold bY BG at*;simp only[d2]at*;grind
 ·have:=b.h3 n a;unfold bY BG at*;simp only[d3]at*;grind
 ·have:=b.h4 n a;unfold bY BG at*;simp only[d4]at*;grind
def Xp(c:Rat)(x:Jet):Jet:=⟨c*x.b0,c*x.b1,c*x.b2,c*x.b3,c*x.b4⟩
theorem oI.scale{N:Nat}{f:Nat->Rat}{x:Jet}{c:Rat}(b:0<=c)(d:oI N f x):oI N (fun n=>c*f n) (Xp c x):=by
 refine⟨fun n a=>(d.h0 n a).scale b,fun n a=>((d.h1 n a).scale b).eq ?_,fun n a=>((d.h2 n a).scale b).eq ?_,fun n a=>((d.h3 n a).scale b).eq ?_,fun n a=>((d.h4 n a).scale b).eq ?_⟩
 ·simp only[d1];grind
 ·simp only[d2];grind
 ·simp only[d3];grind
 ·simp only[d4];grind
def tM(c:Rat)(N:Nat):Jet:=⟨c*N,c,0,0,0⟩
theorem Xh{c:Rat}(a:0<=c)(N:Nat):oI N (fun n=>c*(n:Rat)) (tM c N):=by
 refine⟨fun n d=>?_,fun n _=>?_,fun n _=>?_,fun n _=>?_,fun n _=>?_⟩
 ·have b:(n:Rat)<=(N:Rat):=by exact_mod_cast d
  have e:=qA b a;have f:0<=c*(n:Rat):=zN a (by exact_mod_cast zO n);unfold bY tM;grind
 ·refine bY.eq (v:=c) ⟨by simp only[tM];grind,by simp only[tM];grind⟩ ?_;simp only[d1];push_cast;grind
 ·refine bY.eq (v:=0) ⟨by simp only[tM];grind,by simp only[tM];grind⟩ ?_;simp only[d2];push_cast;grind
 ·refine bY.eq (v:=0) ⟨by simp only[tM];grind,by simp only[tM];grind⟩ ?_;simp only[d3];push_cast;grind
 ·refine bY.eq (v:=0) ⟨by simp only[tM];grind,by simp only[tM];grind⟩ ?_;simp only[d4];push_cast;grind
theorem lO(a:Rat)(h:0<=a):0<=1/a:=by
 rw[Rat.div_def,Rat.one_mul];by_cases b:a=0
 ·subst b;simp
 ·have:0<a:=by grind
  have:=Rat.inv_pos.2 this;grind
def hR(odd:Nat)(Y:Rat):Nat->Rat->Rat
 | 0,h=>h
 |k+1,h=>hR odd Y k (1/(((2*k+1+odd)*(2*k+2+odd):Nat):Rat)*(Y*(1-h)))
def hJ(odd:Nat)(Y:Jet):Nat->Jet->Jet
 | 0,h=>h
 |k+1,h=>hJ odd Y k (Xp (1/(((2*k+1+odd)*(2*k+2+odd):Nat):Rat)) (Xo Y (BG h)))
theorem Xg(a N:Nat)(Y:Nat->Rat)(y:Jet)(c:oI N Y y):∀(k:Nat) (h:Nat->Rat) (x:Jet),oI N h x->oI N (fun n=>hR a (Y n) k (h n)) (hJ a y k x)
 | 0,h,x,b=>b
 |k+1,h,x,b=>Xg a N Y y c k _ _ ((c.mul b.less).scale (lO _ (by exact_mod_cast zO _)))
def Gc:Rat:=248902613312231085230521944622/79228162514264337593543950336
def th:Rat:=Gc/10800000
def xR(n:Nat):Rat:=th*(n:Rat)
def tS(n:Nat):Rat:=xR n*(1-hR 1 (xR n*xR n) 10 0)
def tC(n:Nat):Rat:=1-hR 0 (xR n*xR n) 10 0
def NN:Nat:=2700100
def jx:Jet:=tM th NN
def jz:Jet:=⟨0,0,0,0,0⟩
def jS:Jet:=Xo jx (BG (hJ 1 (Xo jx jx) 10 jz))
def jC:Jet:=BG (hJ 0 (Xo jx jx) 10 jz)
theorem aBP(N:Nat):oI N (fun _=>0) jz:=by
 refine⟨fun n _=>?_,fun n _=>?_,fun n _=>?_,fun n _=>?_,fun n _=>?_⟩<;>(simp only[d1,d2,d3,d4,jz,bY];grind)
theorem XT:oI NN xR jx:=Xh (by unfold th Gc;grind) NN
theorem aBO:oI NN tS jS:=XT.mul (Xg 1 NN _ _ (XT.mul XT) 10 _ _ (aBP NN)).less
theorem aBN:oI NN tC jC:=(Xg 0 NN _ _ (XT.mul XT) 10 _ _ (aBP NN)).less
theorem jS4:77371252455336267181195264*jS.b4<=1:=by decide+kernel
theorem jC4:77371252455336267181195264*jC.b4<=1:=by decide+kernel
def S:Nat:=79228162514264337593543950336
def R8:Nat:=248902613312231085230521944622
def hN(odd y:Nat)(k h:Nat):Nat:=akX (motive:=fun _=>Nat->Nat) (fun h=>h) (fun k ih h=>ih (((y/((2*k+1+odd)*(2*k+2+odd)))*(S-h))/S)) k h
def xN(n:Nat):Nat:=n*R8/10800000
def aS(n:Nat):Nat:=(xN n*(S-hN 1 ((xN n*xN n)/S) 10 0))/81129638414606681695789005144064
def aC(n:Nat):Nat:=(S-hN 0 ((xN n*xN n)/S) 10 0)/1024
theorem DY(a d:Nat)(c:0<d):(d:Rat)*((a/d:Nat):Rat)<=(a:Rat)/\(a:Rat)<=(d:Rat)*((a/d:Nat):Rat)+(d:Rat):=by
 have h:=xQ a d;have b:=yX a c;have e:(a:Rat)=(d:Rat)*((a/d:Nat):Rat)+((a%d:Nat):Rat):=by exact_mod_cast h.symm
 have e0:(0:Rat)<=((a%d:Nat):Rat):=by exact_mod_cast zO _
 have e1:((a%d:Nat):Rat)<=(d:Rat):=by exact_mod_cast Nat.le_of_lt b
 constructor<;>grind
theorem aAb(a y k h:Nat):hN a y (k+1) h=hN a y k (((y/((2*k+1+a)*(2*k+2+a)))*(S-h))/S):=rfl
def SR:Rat:=79228162514264337593543950336
theorem sQ:((S:Nat):Rat)=SR:=rfl
theorem aDo{SR a b c d e f X:Rat}(g:32<=SR)(h:2*SR<=a)(w1:-(7/10*SR*8)<=b/\b<=7/10*SR*8)(j:-(4*SR)<=c/\c<=4*SR)(k:-(4*8)<=d/\d<=4*8)
  (l:-a<=e/\e<=a)(m:0<=f)(n:f<=a)(i:X=-b+c-d+e+f):a*(-8)<=X/\X<=a*8:=by
 constructor<;>grind
theorem aBl{y q h a d:Nat}{Y H D:Rat}(A:2<=d)(r:(d:Rat)=D)(u:q=y/d)(i:a=q*(S-h)/S)
  (R:0<=SR*Y-(y:Rat)/\SR*Y-(y:Rat)<=4)(g:Y<=7/10)(j:h<=S)(s:bY (SR*H-(h:Rat)) 8):
  a<=S/\bY (SR*(1/D*(Y*(1-H)))-(a:Rat)) 8:=by
 have x:(0:Rat)<SR:=by unfold SR;grind
 have f:(32:Rat)<=SR:=by unfold SR;grind
 have m:2<=D:=by rw[<-r];exact_mod_cast A
 have G:=DY y d (by omega);rw[<-u,r]at G;have v:=DY (q*(S-h)) S (by decide);rw[<-i,sQ]at v;have w:((q*(S-h):Nat):Rat)=(q:Rat)*(SR-(h:Rat)):=by
  rw[<-sQ];have:((S-h:Nat):Rat)=(S:Rat)-(h:Rat):=by
   have e:=Nat.sub_add_cancel j;have e2:((S-h:Nat):Rat)+(h:Rat)=(S:Rat):=by exact_mod_cast e
   grind
  push_cast
  rw[this]
 rw[w]at v;have B:(0:Rat)<=(h:Rat):=by exact_mod_cast zO h
 have E:(h:Rat)<=SR:=by rw[<-sQ];exact_mod_cast j
 have Q:(0:Rat)<=(y:Rat):=by exact_mod_cast zO y
 have I:(0:Rat)<=(q:Rat):=by exact_mod_cast zO q
 have l:D*(1/D*(Y*(1-H)))=Y*(1-H):=by
  have:D≠0:=by grind
  grind
 have t:SR*Y<=SR*(7/10):=qA g (by grind);have o:y<=S:=by
  have:(y:Rat)<=(S:Rat):=by rw[sQ];grind
  exact_mod_cast this
 have n:q<=S:=by rw[u];exact Nat.le_trans (Nat.div_le_self _ _) o
 generalize U:1/D*(Y*(1-H))=Z at*;generalize (y:Rat)=c at*;generalize (q:Rat)=qr at*;have z:SR*Y<=SR*(7/10):=qA g (by grind);have J:bY (c*(SR*H-(h:Rat))) (7/10*SR*8):=bY.mul ⟨by grind,by grind⟩ s;have K:bY ((SR*Y-c)*(SR-(h:Rat))) (4*SR):=bY.mul ⟨by grind,by grind⟩ ⟨by grind,by grind⟩;have L:bY ((SR*Y-c)*(SR*H-(h:Rat))) (4*8):=bY.mul ⟨by grind,by grind⟩ s;have M:bY ((c-D*qr)*(SR-(h:Rat))) (D*SR):=bY.mul ⟨by grind,by grind⟩ ⟨by grind,by grind⟩;have N:0<=D*(qr*(SR-(h:Rat))-SR*(a:Rat)):=zN (by grind) (by grind);have O:D*(qr*(SR-(h:Rat))-SR*(a:Rat))<=D*SR:=qA (by grind) (by grind);have p:D*SR*(SR*Z-(a:Rat))=-(c*(SR*H-(h:Rat)))+(SR*Y-c)*(SR-(h:Rat))-(SR*Y-c)*(SR*H-(h:Rat))+(c-D*qr)*(SR-(h:Rat))+D*(qr*(SR-(h:Rat))-SR*(a:Rat)):=by
  have:D*SR*(SR*Z)=SR*SR*(D*Z):=by grind
  have e2:D*SR*(SR*Z-(a:Rat))=SR*SR*(D*Z)-D*SR*(a:Rat):=by grind
  rw[e2,l];grind
 have k:2*SR<=D*SR:=by
  have:=qA m (show 0<=SR by grind);grind
 have b:0<D*SR:=by grind
 obtain⟨lo,up⟩:=aDo f k J K L M N O p;refine⟨?_,?_,?_⟩
 ·have:a<=S:=by
   rw[i];apply Nat.div_le_of_le_mul;exact qM n (Nat.sub_le _ _)
  exact this
 ·exact yM lo b
 ·exact yM up b
theorem Xe(a y:Nat)(Y:Rat)(e:0<=SR*Y-(y:Rat)/\SR*Y-(y:Rat)<=4)(b:Y<=7/10):
  ∀(k h:Nat) (H:Rat),h<=S->bY (SR*H-(h:Rat)) 8->hN a y k h<=S/\bY (SR*hR a Y k H-(hN a y k h:Rat)) 8
 | 0,h,H,c,d=>⟨c,d⟩
 |k+1,h,H,c,d=>by
  have f:2<=(2*k+1+a)*(2*k+2+a):=by
   have:1*2<=(2*k+1+a)*(2*k+2+a):=qM (by omega) (by omega);omega
  obtain⟨g,i⟩:=aBl f rfl rfl rfl e b c d;rw[aAb];exact Xe a y Y e b k _ _ g i
theorem aCg(n:Nat):0<=SR*xR n-(xN n:Rat)/\SR*xR n-(xN n:Rat)<=1:=by
 have h:=DY (n*R8) 10800000 (by decide);have e:SR*xR n=(n:Rat)*248902613312231085230521944622/10800000:=by
  unfold SR xR th Gc;grind
 have e2:((n*R8:Nat):Rat)=(n:Rat)*248902613312231085230521944622:=by
  have:(R8:Rat)=248902613312231085230521944622:=rfl;rw[<-this];push_cast;rfl
 rw[e2]at h;unfold xN;rw[e];have a:(((10800000:Nat):Rat))=10800000:=rfl;rw[a]at h;constructor<;>grind
theorem DE(n:Nat)(a:n<=2700100):0<=xR n/\xR n<=4/5:=by
 have b:(0:Rat)<=(n:Rat):=by exact_mod_cast zO n
 have c:(n:Rat)<=2700100:=by exact_mod_cast a
 unfold xR th Gc;constructor<;>grind
theorem O5(n:Nat)(h:n<=2700100):(0<=SR*(xR n*xR n)-((xN n*xN n/S:Nat):Rat)/\SR*(xR n*xR n)-((xN n*xN n/S:Nat):Rat)<=4)/\xR n*xR n<=7/10:=by
 have k:=aCg n;have i:=DE n h;have d:=DY (xN n*xN n) S (by decide);rw[sQ]at d;have f:((xN n*xN n:Nat):Rat)=(xN n:Rat)*(xN n:Rat):=by push_cast;rfl
 rw[f]at d;have c:(32:Rat)<=SR:=by unfold SR;grind
 have p:(0:Rat)<=(xN n:Rat):=by exact_mod_cast zO _
 generalize ((xN n*xN n/S:Nat):Rat)=y at*;generalize (xN n:Rat)=X at*;generalize xR n=r at*;have l:0<=(SR*r-X)*(SR*r+X):=zN (by grind) (by grind);have g:SR*r<=SR*(4/5):=qA i.2 (by grind);have m:0<=(1-(SR*r-X))*(SR*r+X):=zN (by grind) (by grind);have j:SR*(SR*(r*r))=(SR*r-X)*(SR*r+X)+X*X:=by grind
 have b:r*r<=7/10:=by
  have o:0<=(4/5-r)*(4/5+r):=zN (by grind) (by grind);grind
 have a:(0:Rat)<SR:=by grind
 refine⟨⟨?_,?_⟩,b⟩
 ·have:SR*y<=SR*(SR*(r*r)):=by grind
  have:=yM this a;grind
 ·have e:SR*(SR*(r*r))<=SR*(y+4):=by
   have:(1-(SR*r-X))*(SR*r+X)=(SR*r+X)-(SR*r-X)*(SR*r+X):=by grind
   grind
  have:=yM e a;grind
def fF:Rat:=77371252455336267181195264
theorem UM(n:Nat)(g:n<=2700100):bY (fF*tC n-(aC n:Rat)) 2:=by
 obtain⟨c,d⟩:=O5 n g;obtain⟨i,j⟩:=Xe 0 (xN n*xN n/S) _ c d 10 0 0 (zO _) ⟨by grind,by grind⟩;unfold tC aC;generalize hN 0 (xN n*xN n/S) 10 0=h at*;generalize hR 0 (xR n*xR n) 10 0=H at*;have a:=DY (S-h) 1024 (by decide);have b:((S-h:Nat):Rat)=SR-(h:Rat):=by
  have e:=Nat.sub_add_cancel i;have e2:((S-h:Nat):Rat)+(h:Rat)=(S:Rat):=by exact_mod_cast e
  rw[sQ]at e2;grind
 rw[b]at a;have f:(((1024:Nat):Rat))=1024:=rfl;rw[f]at a;have eG:SR=1024*fF:=by unfold SR fF;grind
 unfold bY at*;rw[eG]at j a;constructor<;>grind
theorem JD(n:Nat)(k:n<=2700100):bY (fF*tS n-(aS n:Rat)) 2:=by
 obtain⟨o,p⟩:=O5 n k;obtain⟨l,w⟩:=Xe 1 (xN n*xN n/S) _ o p 10 0 0 (zO _) ⟨by grind,by grind⟩;have z:=aCg n;have t:=DE n k;unfold tS aS;generalize hN 1 (xN n*xN n/S) 10 0=h at*;generalize hR 1 (xR n*xR n) 10 0=H at*;have j:=DY (xN n*(S-h)) 81129638414606681695789005144064 (by decide);have m:((xN n*(S-h):Nat):Rat)=(xN n:Rat)*(SR-(h:Rat)):=by
  have e:=Nat.sub_add_cancel l;have e2:((S-h:Nat):Rat)+(h:Rat)=(S:Rat):=by exact_mod_cast e
  rw[sQ]at e2;push_cast
  have:((S-h:Nat):Rat)=SR-(h:Rat):=by grind
  rw[this]
 rw[m]at j;have q:(((81129638414606681695789005144064:Nat):Rat))=1024*SR:=by
  have:((81129638414606681695789005144064:Nat):Rat)=81129638414606681695789005144064:=rfl;rw[this];unfold SR;grind
 rw[q]at j;have u:(0:Rat)<=(h:Rat):=by exact_mod_cast zO h
 have v:(h:Rat)<=SR:=by rw[<-sQ];exact_mod_cast l
 have D:(0:Rat)<=(xN n:Rat):=by exact_mod_cast zO _
 have i:(32:Rat)<=SR:=by unfold SR;grind
 have eG:SR=1024*fF:=by unfold SR fF;grind
 generalize ((xN n*(S-h)/81129638414606681695789005144064:Nat):Rat)=a at*;generalize (xN n:Rat)=X at*;generalize xR n=r at*;generalize (h:Rat)=b at*;have s:SR*r<=SR*(4/5):=qA t.2 (by grind);have A:bY ((SR*r-X)*(SR-b)) (1*SR):=bY.mul ⟨by grind,by grind⟩ ⟨by grind,by grind⟩;have B:bY ((SR*r)*(SR*H-b)) (SR*(4/5)*8):=bY.mul ⟨by grind,by grind⟩ w;have f:SR*(SR*(r*(1-H)))=X*(SR-b)+(SR*r-X)*(SR-b)-(SR*r)*(SR*H-b):=by grind
 have d:SR*(1024*(fF*(r*(1-H))))=SR*(SR*(r*(1-H))):=by rw[<-Rat.mul_assoc 1024,<-eG]
 rw[f]at d;have c:(0:Rat)<SR*1024:=by grind
 generalize fF*(r*(1-H))=g at*;generalize X*(SR-b)=P at*;generalize (SR*r-X)*(SR-b)=x at*;generalize (SR*r)*(SR*H-b)=y at*;unfold bY at*;constructor
 ·have:(SR*1024)*(-2)<=(SR*1024)*(g-a):=by grind
  exact yM this c
 ·have:(SR*1024)*(g-a)<=(SR*1024)*2:=by grind
  exact yM this c
def oC(f:Nat->Nat)(m:Nat):Nat:=akX (motive:=fun _=>Nat) 0 (fun i acc=>acc+f i*2^(96*i)) m
theorem BW(f:Nat->Nat):oC f 0=0:=rfl
theorem fQ(f:Nat->Nat)(m:Nat):oC f (m+1)=oC f m+f m*2^(96*m):=rfl
theorem MD(f:Nat->Nat):∀m,(∀i,i<m->f i<2^96)->oC f m<2^(96*m)
 | 0,_=>by rw[BW];simp
 |m+1,h=>by
  have b:=MD f m (fun i hi=>h i (by omega));have a:=h m (by omega);rw[fQ,show 96*(m+1)=96+96*m by omega,Nat.pow_add];have:(f m+1)*2^(96*m)<=2^96*2^(96*m):=Nat.mul_le_mul_right _ a;rw[xI]at this;omega
theorem Fk(k a b x y:Nat)(f:a<2^k)(d:b<2^k):(a+x*2^k)&&& (b+y*2^k)=(a&&& b)+(x&&& y)*2^k:=by
 have e:∀u z:Nat,u+z*2^k=2^k*z+u:=fun u z=>by rw[Nat.mul_comm,Nat.add_comm]
 have c:a&&& b<2^k:=Nat.and_lt_two_pow _ d;rw[e,e,e];apply Nat.eq_of_testBit_eq;intro j;rw[Nat.testBit_and,Nat.testBit_two_pow_mul_add _ f,Nat.testBit_two_pow_mul_add _ d,Nat.testBit_two_pow_mul_add _ c];split<;>simp
theorem BO(f g:Nat->Nat):∀m,(∀i,i<m->f i<2^96)->(∀i,i<m->g i<2^96)->oC f m&&& oC g m=oC (fun i=>f i&&& g i) m
 | 0,_,_=>by rw[BW,BW,BW];rfl
 |m+1,a,b=>by
  rw[fQ,fQ,fQ,Fk _ _ _ _ _ (MD f m fun i hi=>a i (by omega)) (MD g m fun i hi=>b i (by omega)),BO f g m (fun i hi=>a i (by omega)) (fun i hi=>b i (by omega))]
theorem TV(f g:Nat->Nat):∀m,(∀i,i<m->f i<2^96)->(∀i,i<m->g i<2^96)->oC f m=oC g m->∀i,i<m->f i=g i
 | 0,_,_,_,i,hi=>by omega
 |m+1,b,c,h,i,hi=>by
  have k:=MD f m fun i hi=>b i (by omega);have l:=MD g m fun i hi=>c i (by omega);rw[fQ,fQ]at h;have d:0<2^(96*m):=Nat.two_pow_pos _;have e1:f m=g m:=by
   have e:(oC f m+f m*2^(96*m))/2^(96*m)=f m:=by
    rw[Nat.add_mul_div_right _ _ d,Nat.div_eq_of_lt k,qP]
   have j:(oC g m+g m*2^(96*m))/2^(96*m)=g m:=by
    rw[Nat.add_mul_div_right _ _ d,Nat.div_eq_of_lt l,qP]
   rw[<-e,h,j]
  rw[e1]at h;rcases qJ i m with a|hge
  ·exact TV f g m (fun i hi=>b i (by omega)) (fun i hi=>c i (by omega)) (by omega) i a
  ·have:i=m:=by omega
   rw[this];exact e1
theorem TU(f g:Nat->Nat):∀m,oC f m+oC g m=oC (fun i=>f i+g i) m
 | 0=>rfl
 |m+1=>by rw[fQ,fQ,fQ,<-TU f g m,xI];omega
theorem uR(c:Nat)(f:Nat->Nat):∀m,c*oC f m=oC (fun i=>c*f i) m
 | 0=>rfl
 |m+1=>by rw[fQ,fQ,<-uR c f m,Nat.mul_add,Nat.mul_assoc]
def pk(f:Nat->Int)(m:Nat):Int:=akX (motive:=fun _=>Int) 0 (fun i acc=>acc+f i*(2:Int)^(96*i)) m
theorem Mq(f:Nat->Int):pk f 0=0:=rfl
theorem iV(f:Nat->Int)(m:Nat):pk f (m+1)=pk f m+f m*(2:Int)^(96*m):=rfl
theorem AA(f g:Nat->Int):∀m,pk f m+pk g m=pk (fun i=>f i+g i) m
 | 0=>rfl
 |m+1=>by rw[iV,iV,iV,<-AA f g m];grind
theorem EN(c:Int)(f:Nat->Int):∀m,c*pk f m=pk (fun i=>c*f i) m
 | 0=>by rw[Mq,Mq,Int.mul_zero]
 |m+1=>by rw[iV,iV,<-EN c f m];grind
theorem TW(f:Nat->Nat):∀m,pk (fun i=>(f i:Int)) m=(oC f m:Int)
 | 0=>rfl
 |m+1=>by rw[iV,fQ,TW f m];push_cast;rfl
theorem ZF(f g:Nat->Int):∀m,(∀i,i<m->f i=g i)->pk f m=pk g m
 | 0,_=>rfl
 |m+1,h=>by rw[iV,iV,ZF f g m (fun i hi=>h i (by omega)),h m (by omega)]
theorem ZG(f:Nat->Int)(m:Nat)(h:∀i,i<m->0<=f i):(pk f m).toNat=oC (fun i=>(f i).toNat) m:=by
 have:pk f m=pk (fun i=>(((f i).toNat:Nat):Int)) m:=ZF _ _ m (fun i hi=>by have:=h i hi;omega);rw[this,TW];rfl
def okV(r P w:Nat):Bool:=yD (ahQ ((ahQ (P+w*r) ((2^56-1)*r))+(2^56-2*w)*r) (2^56*r)) (2^56*r)
def okD(r D:Nat):Bool:=yD (ahQ D (2^95*r)) (2^95*r)
theorem FE{x b:Nat}(h:x&&& 2^b=2^b):2^b<=x:=by
 have:x&&& 2^b<=x:=Nat.and_le_left;omega
theorem Zb{m w:Nat}{v:Nat->Nat}(j:∀i,i<m->v i<2^95)(l:2*w<=2^56)(h:okV (oC (fun _=>1) m) (oC v m) w=true):∀i,i<m->2*w<=(v i+w)%2^56:=by
 intro i hi;have k:w<2^56:=by omega
 have a:=zQ h;have d:(2:Nat)^56<2^96:=by decide
 have f:(2:Nat)^95+2^56<2^96:=by decide
 have e:(2:Nat)^56+2^56<2^96:=by decide
 rw[uR,uR,uR,uR,TU]at a;have e1:=BO (fun i=>v i+w*1) (fun _=>(2^56-1)*1) m (fun i hi=>by have:=j i hi;omega) (fun i _=>by omega);change ahQ (ahQ _ _+_) _=_ at a;rw[show ahQ (oC (fun i=>v i+w*1) m) (oC (fun _=>(2^56-1)*1) m)=oC (fun i=>v i+w*1) m&&& oC (fun _=>(2^56-1)*1) m from rfl,e1,TU]at a;have b:∀i,i<m->(v i+w*1&&& (2^56-1)*1)<2^56:=fun i _=>by rw[xF (2^56-1),Nat.and_two_pow_sub_one_eq_mod];exact yX _ (by decide)
 have e2:=BO (fun i=>(v i+w*1&&& (2^56-1)*1)+(2^56-2*w)*1) (fun _=>2^56*1) m (fun i hi=>by have:=b i hi;omega) (fun i _=>by omega);rw[show ahQ (oC (fun i=>(v i+w*1&&& (2^56-1)*1)+(2^56-2*w)*1) m) (oC (fun _=>2^56*1) m)=oC (fun i=>(v i+w*1&&& (2^56-1)*1)+(2^56-2*w)*1) m&&& oC (fun _=>2^56*1) m from rfl,e2]at a;have c:=TV _ _ m (fun i hi=>by
  show(_&&& 2^56*1)<2^96;exact yJ Nat.and_le_right (by omega)) (fun i _=>by omega) a i hi
 rw[xF (2^56)]at c;have g:=FE c;rw[xF (2^56-1),Nat.and_two_pow_sub_one_eq_mod,xF,xF]at g;omega
theorem Yz{m:Nat}{d:Nat->Nat}(c:∀i,i<m->d i<2^96)(h:okD (oC (fun _=>1) m) (oC d m)=true):∀i,i<m->2^95<=d i:=by
 intro i hi;have a:=zQ h;rw[uR]at a;have e1:=BO d (fun _=>2^95*1) m c (fun i _=>by decide);rw[show ahQ (oC d m) (oC (fun _=>2^95*1) m)=oC d m&&& oC (fun _=>2^95*1) m from rfl,e1]at a;have b:=TV _ _ m (fun i hi=>yJ Nat.and_le_right (by decide)) (fun i _=>by decide) a i hi;rw[xF (2^95)]at b;exact FE b
def E0(t:Nat×Nat×Nat×Nat):Nat×Nat×Nat×Nat:=(t.1+t.2.1,t.2.1+t.2.2.1,t.2.2.1+t.2.2.2,t.2.2.2+1)
def MRG:Nat:=1099511627776
def run(r w:Nat)(σ:Int)(k:Nat):Int->Int->Int->Int->Bool:=akX (motive:=fun _=>Int->Int->Int->Int->Bool) (fun _ _ _ _=>true)
 (fun _ ih v a b c=>(okV r v.toNat w&&okD r (σ*a+(2^95-1099511627776:Nat)*r).toNat)&&ih (v+a) (a+b) (b+c) c) k
def aGp(w:Nat)(σ:Int)(T:Nat->Rat)(n:Nat)(e0 e1:Nat):Prop:=
 (∃f:Nat,((f*2^56+w:Nat):Rat)<=fF*T n+(e0:Rat)/\fF*T n<=(((f+1)*2^56:Nat):Rat)-(w:Rat)+(e0:Rat))/\(MRG:Rat)<=(σ:Rat)*(fF*d1 T n)+(e1:Rat)
structure Near (T:Nat->Rat) (n:Nat) (v a b c:Int) (e:Nat×Nat×Nat×Nat):Prop where
 n0:bY (fF*T n-(v:Rat)) e.1
 n1:bY (fF*d1 T n-(a:Rat)) e.2.1
 n2:bY (fF*d2 T n-(b:Rat)) e.2.2.1
 n3:bY (fF*d3 T n-(c:Rat)) e.2.2.2
theorem Near.step{N:Nat}{T:Nat->Rat}{j:Jet}(d:oI N T j)(i:fF*j.b4<=1){n:Nat}(f:n+4<=N){v a b c:Int}{e:Nat×Nat×Nat×Nat}(h:Near T n v a b c e):Near T (n+1) (v+a) (a+b) (b+c) c (E0 e):=by
 obtain⟨k,l,m,o⟩:=h;have p:=(d.h4 n f).scale (c:=fF) (by unfold fF;grind);have e1:T (n+1)=T n+d1 T n:=by unfold d1;grind
 refine⟨?_,?_,?_,?_⟩
 ·rw[e1];unfold bY E0 at*;push_cast;generalize fF=g at*;constructor<;>grind
 ·rw[j6];unfold bY E0 at*;push_cast;generalize fF=g at*;constructor<;>grind
 ·rw[j7];unfold bY E0 at*;push_cast;generalize fF=g at*;constructor<;>grind
 ·rw[j8];unfold bY E0 at*;push_cast;generalize fF=g at*;constructor<;>grind
def T5(B:Nat):Nat->Nat×Nat×Nat×Nat->Bool
 | 0,_=>true
 |k+1,e=>adJ e.1 B&&adJ e.2.1 B&&T5 B k (E0 e)
theorem F6{N m w B:Nat}{σ:Int}{T:Nat->Rat}{j:Jet}(l:Nat->Nat)(D:σ=1\/σ=-1)(V:oI N T j)(q:fF*j.b4<=1)(Y:2*w<=2^56)(hB:B<=2^40)
  (x:∀n,1<=n->n<=N->(2^41:Nat)<=fF*T n/\fF*T n<=(2^90:Nat))(y:∀n,n+1<=N->bY (fF*d1 T n) (2^90:Nat)):
  ∀(k t:Nat) (v a b c:Nat->Int) (e:Nat×Nat×Nat×Nat),1<=t->(∀i,i<m->l i+t+k+4<=N)->T5 B k e=true->(∀i,i<m->Near T (l i+t) (v i) (a i) (b i) (c i) e)->
   run (oC (fun _=>1) m) w σ k (pk v m) (pk a m) (pk b m) (pk c m)=true->∀s,s<k->∀i,i<m->aGp w σ T (l i+(t+s)) B B
 | 0,_,_,_,_,_,_,_,_,_,_,_,s,hs,_,_=>by omega
 |k+1,t,v,a,b,c,e,ht,hN,hE,d,z,s,hs,i,hi=>by
  have u:=hE;simp only[T5,Bool.and_eq_true,Nat.ble_eq]at u;obtain⟨⟨H,I⟩,J⟩:=u;have h:((okV (oC (fun _=>1) m) (pk v m).toNat w&&okD (oC (fun _=>1) m) (σ*pk a m+(2^95-1099511627776:Nat)*(oC (fun _=>1) m:Nat)).toNat)&&run (oC (fun _=>1) m) w σ k (pk v m+pk a m) (pk a m+pk b m) (pk b m+pk c m) (pk c m))=true:=z;simp only[Bool.and_eq_true]at h;obtain⟨⟨U,R⟩,hR⟩:=h;rw[AA,AA,AA]at hR;rcases yF s with hs0|hs0
  ·subst hs0;rw[Nat.add_zero];have a5:=hN i hi;have Q:∀i,i<m->0<=v i/\v i<2^95:=by
    intro i hi;have p:=(d i hi).n0;obtain⟨A,h3⟩:=x (l i+t) (by omega) (by have:=hN i hi;omega);have q:((e.1:Nat):Rat)<=((2^40:Nat):Rat):=by exact_mod_cast (show e.1<=2^40 by omega)
    unfold bY at p;have L:((0:Int):Rat)<=(v i:Rat):=by
     generalize fF*T (l i+t)=g at*;have c1:((2^41:Nat):Rat)=2199023255552:=rfl;have r:((2^40:Nat):Rat)=1099511627776:=rfl;rw[c1]at A;rw[r]at q;have:((0:Int):Rat)=0:=rfl;grind
    have M:(v i:Rat)<((2^95:Int):Rat):=by
     generalize fF*T (l i+t)=g at*;have c1:((2^90:Nat):Rat)=1237940039285380274899124224:=rfl;have r:((2^40:Nat):Rat)=1099511627776:=rfl;have G:((2^95:Int):Rat)=39614081257132168796771975168:=rfl;rw[c1]at h3;rw[r]at q;rw[G];grind
    exact⟨by exact_mod_cast L,by exact_mod_cast M⟩
   have E:∀i,i<m->-(2^91)<=a i/\a i<=2^91:=by
    intro i hi;have p:=(d i hi).n1;have A:=y (l i+t) (by have:=hN i hi;omega);have q:((e.2.1:Nat):Rat)<=((2^40:Nat):Rat):=by exact_mod_cast (show e.2.1<=2^40 by omega)
    unfold bY at p A;have c1:((2^90:Nat):Rat)=1237940039285380274899124224:=rfl;have r:((2^40:Nat):Rat)=1099511627776:=rfl;have G:((2^91:Int):Rat)=2475880078570760549798248448:=rfl;have Z:((-(2^91):Int):Rat)=-2475880078570760549798248448:=rfl;generalize fF*d1 T (l i+t)=g at*;rw[c1]at A;rw[r]at q;have L:((-(2^91):Int):Rat)<=(a i:Rat):=by rw[Z];grind
    have M:(a i:Rat)<=((2^91:Int):Rat):=by rw[G];grind
    exact⟨by exact_mod_cast L,by exact_mod_cast M⟩
   have X:=d i hi;rw[ZG v m (fun i hi=>(Q i hi).1)]at U;have a1:=Zb (fun i hi=>by have:=Q i hi;omega) Y U i hi;have eD:σ*pk a m+(2^95-1099511627776:Nat)*(oC (fun _=>1) m:Nat)=pk (fun i=>σ*a i+(2^95-1099511627776:Nat)*1) m:=by
    rw[show((oC (fun _=>1) m:Nat):Int)=pk (fun _=>1) m from(TW (fun _=>1) m).symm,EN,EN,AA]
   rw[eD,ZG _ m (fun i hi=>by have:=E i hi;rcases D with rfl|rfl<;>omega)]at R;have a0:=Yz (fun i hi=>by have:=E i hi;rcases D with rfl|rfl<;>omega) R i hi;have a6:=Q i hi;have a2:=E i hi;refine⟨⟨((v i).toNat+w)/2^56,?_⟩,?_⟩
   ·have a3:=xQ ((v i).toNat+w) (2^56);have a4:=yX ((v i).toNat+w) (show 0<2^56 by decide);generalize ((v i).toNat+w)/2^56=f at*;have u1:f*2^56+w<=(v i).toNat:=by omega
    have u2:(v i).toNat+w<=(f+1)*2^56:=by omega
    have u3:(((v i).toNat:Nat):Rat)=(v i:Rat):=by
     have:(((v i).toNat:Nat):Int)=v i:=by omega
     exact_mod_cast this
    have r1:((f*2^56+w:Nat):Rat)<=(((v i).toNat:Nat):Rat):=by exact_mod_cast u1
    have r2:(((v i).toNat+w:Nat):Rat)<=(((f+1)*2^56:Nat):Rat):=by exact_mod_cast u2
    have O:(((v i).toNat:Nat):Rat)+(w:Rat)<=(((f+1)*2^56:Nat):Rat):=by
     have:(((v i).toNat+w:Nat):Rat)=(((v i).toNat:Nat):Rat)+(w:Rat):=by push_cast;rfl
     rw[<-this];exact r2
    rw[u3]at r1 O;have hb:((e.1:Nat):Rat)<=(B:Rat):=by exact_mod_cast H
    have p:=X.n0;unfold bY at p;generalize fF*T (l i+t)=g at*;generalize ((f*2^56+w:Nat):Rat)=x1 at*;generalize (((f+1)*2^56:Nat):Rat)=x2 at*;constructor<;>grind
   ·have p:=X.n1;have hb:((e.2.1:Nat):Rat)<=(B:Rat):=by exact_mod_cast I
    unfold bY at p;generalize fF*d1 T (l i+t)=g at*;have hm:(MRG:Int)<=σ*a i:=by unfold MRG;omega
    have K:((MRG:Int):Rat)<=((σ*a i:Int):Rat):=by exact_mod_cast hm
    have o:(MRG:Rat)<=(σ:Rat)*(a i:Rat):=by
     have e1:((σ*a i:Int):Rat)=(σ:Rat)*(a i:Rat):=by push_cast;rfl
     rw[<-e1];exact K
    rcases D with rfl|rfl
    ·have:((1:Int):Rat)=1:=rfl;rw[this]at o ⊢;grind
    ·have:((-1:Int):Rat)=-1:=rfl;rw[this]at o ⊢;grind
  ·have:=F6 l D V q Y hB x y k (t+1) _ _ _ _ (E0 e) (by omega) (fun i hi=>by have:=hN i hi;omega) J
    (fun i hi=>by rw[<-Nat.add_assoc];exact(d i hi).step V q (by have:=hN i hi;omega)) hR (s-1) (by omega) i hi
   rwa[show t+1+(s-1)=t+s by omega]at this
end SM
namespace SM
theorem ME(f g:Nat->Int):∀m,pk (fun i=>f i-g i) m=pk f m-pk g m
 | 0=>rfl
 |m+1=>by rw[iV,iV,iV,ME f g m];grind
def tN(A:Nat->Nat)(j:Nat):Int:=(oC (fun i=>A (450*i+j)) 6000:Nat)
def WW:Nat:=20132659200
def Ng(A:Nat->Nat)(σ:Int):Bool:=
 run (oC (fun _=>1) 6000) WW σ 449 (tN A 1) (tN A 2-tN A 1) (tN A 3-2*tN A 2+tN A 1) (tN A 4-3*tN A 3+3*tN A 2-tN A 1)
theorem G8:Ng aS 1=true:=by decide+kernel
theorem G7:Ng aC (-1)=true:=by decide+kernel
def aA2(A:Nat->Nat)(σ:Int)(ex:Bool)(i:Nat):Bool:=(ex||(adJ (2*WW) ((A (450*i)+WW)%2^56)))&&decide (1099511627776<=σ*((A (450*i+1):Int)-A (450*i)))
def blk(A:Nat->Nat)(σ:Int)(ex:Nat->Bool)(m:Nat):Bool:=akX (motive:=fun _=>Bool) true (fun i acc=>aA2 A σ (ex i) i&&acc) m
theorem Wm:blk aS 1 (fun i=>yD i 0||yD i 4000) 6000=true:=by decide+kernel
theorem Wl:blk aC (-1) (fun i=>yD i 0) 6000=true:=by decide+kernel
theorem Ua{A:Nat->Nat}{σ:Int}{ex:Nat->Bool}:∀{m:Nat},blk A σ ex m=true->∀i,i<m->aA2 A σ (ex i) i=true
 | 0,_,i,hi=>by omega
 |m+1,h,i,hi=>by
  have a:(aA2 A σ (ex m) m&&blk A σ ex m)=true:=h;simp only[Bool.and_eq_true]at a;rcases qJ i m with b|hge
  ·exact Ua a.2 i b
  ·have:i=m:=by omega
   rw[this];exact a.1
def BB:Nat:=2147483648
theorem Fw{A:Nat->Nat}{T:Nat->Rat}(a:∀n,n<=2700100->bY (fF*T n-(A n:Rat)) 2)(n:Nat)(f:n+3<=2700100):
  Near T n (A n) ((A (n+1):Int)-A n) ((A (n+2):Int)-2*A (n+1)+A n) ((A (n+3):Int)-3*A (n+2)+3*A (n+1)-A n) (2,4,8,16):=by
 have b:=a n (by omega);have c:=a (n+1) (by omega);have d:=a (n+2) (by omega);have e:=a (n+3) (by omega);unfold bY at*;refine⟨?_,?_,?_,?_⟩
 ·show bY _ ((2:Nat):Rat);unfold bY;push_cast;generalize fF=g at*;constructor<;>grind
 ·show bY _ ((4:Nat):Rat);unfold bY d1;push_cast;generalize fF=g at*;constructor<;>grind
 ·show bY _ ((8:Nat):Rat);unfold bY d2;push_cast;generalize fF=g at*;constructor<;>grind
 ·show bY _ ((16:Nat):Rat);unfold bY d3;push_cast;generalize fF=g at*;constructor<;>grind
theorem aGv:T5 BB 449 (2,4,8,16)=true:=by decide+kernel
theorem BD{A:Nat->Nat}{T:Nat->Rat}{j:Jet}{σ:Int}{ex:Nat->Bool}(s:σ=1\/σ=-1)(x:oI NN T j)(t:fF*j.b4<=1)(l:∀n,n<=2700100->bY (fF*T n-(A n:Rat)) 2)
  (o:∀n,1<=n->n<=NN->(2^41:Nat)<=fF*T n/\fF*T n<=(2^90:Nat))(p:∀n,n+1<=NN->bY (fF*d1 T n) (2^90:Nat))
  (D:Ng A σ=true)(v:blk A σ ex 6000=true)(n:Nat)(H:n<2700000):((n%450=0/\ex (n/450)=true)\/∃f:Nat,((f*2^56+WW:Nat):Rat)<=fF*T n+(BB:Rat)/\fF*T n<=(((f+1)*2^56:Nat):Rat)-(WW:Rat)+(BB:Rat))/\
   (1099511627776:Rat)<=(σ:Rat)*(fF*d1 T n)+(BB:Rat):=by
 have hi:n/450<6000:=by omega
 have q:=xQ n 450;rcases yF (n%450)with h0|h0
 ·have a:=Ua v (n/450) hi;have k:450*(n/450)=n:=by omega
  unfold aA2 at a;rw[k]at a;simp only[Bool.and_eq_true,Bool.or_eq_true,Nat.ble_eq,decide_eq_true_eq]at a;obtain⟨hw,u⟩:=a;have r:=l n (by omega);have z:=l (n+1) (by omega);refine⟨?_,?_⟩
  ·rcases hw with hw|hw
   ·exact .inl ⟨h0,hw⟩
   ·right;refine⟨(A n+WW)/2^56,?_⟩;have q:=xQ (A n+WW) (2^56);have y:=yX (A n+WW) (show 0<2^56 by decide);generalize (A n+WW)/2^56=f at*;have u1:f*2^56+WW<=A n:=by omega
    have u2:A n+WW<=(f+1)*2^56:=by omega
    have I:((f*2^56+WW:Nat):Rat)<=(A n:Rat):=by exact_mod_cast u1
    have E:((A n+WW:Nat):Rat)<=(((f+1)*2^56:Nat):Rat):=by exact_mod_cast u2
    have G:(A n:Rat)+(WW:Rat)<=(((f+1)*2^56:Nat):Rat):=by
     have:((A n+WW:Nat):Rat)=(A n:Rat)+(WW:Rat):=xD _ _;rw[<-this];exact E
    have h:(BB:Rat)=2147483648:=rfl;rw[h];unfold bY at r;generalize ((f*2^56+WW:Nat):Rat)=K at*;generalize (((f+1)*2^56:Nat):Rat)=L at*;generalize (WW:Rat)=J at*;constructor<;>grind
  ·have b:((1099511627776:Int):Rat)<=((σ*((A (n+1):Int)-A n):Int):Rat):=Rat.intCast_le_intCast.2 u;have c1:((1099511627776:Int):Rat)=1099511627776:=rfl;have h:(BB:Rat)=2147483648:=rfl;rw[c1]at b;rw[h];unfold bY d1 at*;rcases s with rfl|rfl
   ·have e1:((1:Int):Rat)=1:=rfl;rw[e1];push_cast at b;generalize fF=g at*;grind
   ·have e1:((-1:Int):Rat)=-1:=rfl;rw[e1];push_cast at b;generalize fF=g at*;grind
 ·have d:run (oC (fun _=>1) 6000) WW σ 449 (pk (fun i=>(A (450*i+1):Int)) 6000) (pk (fun i=>(A (450*i+1+1):Int)-A (450*i+1)) 6000) (pk (fun i=>(A (450*i+1+2):Int)-2*A (450*i+1+1)+A (450*i+1)) 6000)
    (pk (fun i=>(A (450*i+1+3):Int)-3*A (450*i+1+2)+3*A (450*i+1+1)-A (450*i+1)) 6000)=true:=by
   have c:=D;unfold Ng at c;have e:∀j,tN A j=pk (fun i=>(A (450*i+j):Int)) 6000:=fun j=>(TW _ _).symm;rw[e 1,e 2,e 3,e 4,EN,EN,EN,<-ME,<-ME,<-ME,AA,AA,<-ME]at c;exact c
  have:=F6 (m:=6000) (fun i=>450*i) s x t (w:=WW) (B:=BB) (by decide) (by decide) o p 449 1 _ _ _ _ (2,4,8,16) (by omega) (fun i hi=>by unfold NN;omega) aGv
   (fun i hi=>Fw l (450*i+1) (by omega)) d (n%450-1) (by omega) (n/450) hi
  have k:450*(n/450)+(1+(n%450-1))=n:=by omega
  rw[k]at this;exact⟨.inr this.1,this.2⟩
theorem FM{d:Nat}(a:2<=d):1/(d:Rat)<=1/2:=by
 have h:(2:Rat)<=(d:Rat):=by exact_mod_cast a
 have c:(d:Rat)≠0:=by grind
 have e:(d:Rat)*(1/(d:Rat))=1:=by grind
 have b:=lO (d:Rat) (by grind);generalize 1/(d:Rat)=i at*;have:2*i<=(d:Rat)*i:=by
  have:=Rat.mul_le_mul_of_nonneg_right h b;exact this
 grind
theorem Xf(a:Nat)(Y:Rat)(b:0<=Y/\Y<=1):∀(k:Nat) (h:Rat),0<=h/\h<=1->(0<=hR a Y k h/\hR a Y k h<=1)/\(1<=k->hR a Y k h<=1/2*Y)
 | 0,h,c=>⟨c,fun h=>by omega⟩
 |k+1,h,c=>by
  have f:2<=(2*k+1+a)*(2*k+2+a):=by
   have:1*2<=(2*k+1+a)*(2*k+2+a):=qM (by omega) (by omega);omega
  have i:=FM f;have g:=lO (((2*k+1+a)*(2*k+2+a):Nat):Rat) (by exact_mod_cast zO _);have e:0<=Y*(1-h):=zN b.1 (by grind);have l:Y*(1-h)<=Y:=by
   have:=zN b.1 c.1;grind
  have j:0<=1/(((2*k+1+a)*(2*k+2+a):Nat):Rat)*(Y*(1-h)):=zN g e;have s1:1/(((2*k+1+a)*(2*k+2+a):Nat):Rat)*(Y*(1-h))<=1/2*Y:=by
   have m:=Rat.mul_le_mul_of_nonneg_right i e;have n:=qA l (show(0:Rat)<=1/2 by grind);grind
  have d:=Xf a Y b k _ ⟨j,by grind⟩;refine⟨d.1,fun _=>?_⟩;rcases yF k with h0|h0
  ·subst h0;exact s1
  ·exact d.2 h0
theorem Nf(n:Nat)(a:n<=2700100):0<=xR n*xR n/\xR n*xR n<=7/10:=by
 have h:=DE n a;exact⟨zN h.1 h.1,(O5 n a).2⟩
theorem I4(n:Nat)(a:n<=2700100):1/2<=tC n/\tC n<=1:=by
 have h:=Nf n a;have:=Xf 0 (xR n*xR n) ⟨h.1,by grind⟩ 10 0 ⟨by grind,by grind⟩;have b:=this.2 (by omega);unfold tC;constructor<;>grind
theorem I5(n:Nat)(a:n<=2700100):1/2*xR n<=tS n/\tS n<=xR n:=by
 have h:=Nf n a;have b:=DE n a;have:=Xf 1 (xR n*xR n) ⟨h.1,by grind⟩ 10 0 ⟨by grind,by grind⟩;have e:=this.2 (by omega);unfold tS;generalize hR 1 (xR n*xR n) 10 0=H at*;have c:0<=xR n*(1/2-H):=zN b.1 (by grind);have d:0<=xR n*H:=zN b.1 this.1.1;constructor<;>grind
theorem aER:∀n,1<=n->n<=NN->(2^41:Nat)<=fF*tS n/\fF*tS n<=(2^90:Nat):=by
 intro n e b;have f:=I5 n b;have h:=DE n b;have c1:((2^41:Nat):Rat)=2199023255552:=rfl;have d:((2^90:Nat):Rat)=1237940039285380274899124224:=rfl;have a:(1:Rat)<=(n:Rat):=by exact_mod_cast e
 have c:th<=xR n:=by
  unfold xR;have:=qA a (show 0<=th by unfold th Gc;grind);grind
 rw[c1,d];unfold fF;have g:(1/4000000:Rat)<=th:=by unfold th Gc;grind
 constructor<;>grind
theorem aEQ:∀n,1<=n->n<=NN->(2^41:Nat)<=fF*tC n/\fF*tC n<=(2^90:Nat):=by
 intro n c b;have d:=I4 n b;have c1:((2^41:Nat):Rat)=2199023255552:=rfl;have a:((2^90:Nat):Rat)=1237940039285380274899124224:=rfl;rw[c1,a];unfold fF;constructor<;>grind
theorem aET:∀n,n+1<=NN->bY (fF*d1 tS n) (2^90:Nat):=by
 intro n a;have c:=I5 n (by unfold NN at a;omega);have d:=I5 (n+1) a;have e:=DE n (by unfold NN at a;omega);have f:=DE (n+1) a;have b:((2^90:Nat):Rat)=1237940039285380274899124224:=rfl;rw[b];unfold bY d1 fF;constructor<;>grind
theorem aES:∀n,n+1<=NN->bY (fF*d1 tC n) (2^90:Nat):=by
 intro n a;have c:=I4 n (by unfold NN at a;omega);have d:=I4 (n+1) a;have b:((2^90:Nat):Rat)=1237940039285380274899124224:=rfl;rw[b];unfold bY d1 fF;constructor<;>grind
def Far(x:Rat):Prop:=∃f:Nat,(f:Rat)*72057594037927936+17000000000<=fF*x/\fF*x<=((f:Rat)+1)*72057594037927936-17000000000
theorem Ep{x:Rat}(h:∃f:Nat,((f*2^56+WW:Nat):Rat)<=fF*x+(BB:Rat)/\fF*x<=(((f+1)*2^56:Nat):Rat)-(WW:Rat)+(BB:Rat)):Far x:=by
 obtain⟨f,d,e⟩:=h;refine⟨f,?_⟩;have c:(WW:Rat)=20132659200:=rfl;have b:(BB:Rat)=2147483648:=rfl;have a:((2^56:Nat):Rat)=72057594037927936:=rfl;have e1:((f*2^56+WW:Nat):Rat)=(f:Rat)*72057594037927936+20132659200:=by
  rw[xD,Rat.natCast_mul,a,c]
 have e2:(((f+1)*2^56:Nat):Rat)=((f:Rat)+1)*72057594037927936:=by
  rw[Rat.natCast_mul,a,xD];rfl
 rw[e1,b]at d;rw[e2,b,c]at e;generalize fF*x=g at*;constructor<;>grind
theorem aGy(n:Nat)(b:n<2700000)(c:n≠0)(d:n≠1800000):Far (tS n):=by
 rcases(BD (.inl rfl) aBO jS4 JD aER aET G8 Wm n b).1 with⟨e,a⟩|h
 ·simp only[Bool.or_eq_true,Nat.beq_eq]at a;omega
 ·exact Ep h
theorem aGx(n:Nat)(b:n<2700000)(c:n≠0):Far (tC n):=by
 rcases(BD (.inr rfl) aBN jC4 UM aEQ aES G7 Wl n b).1 with⟨d,a⟩|h
 ·simp only[Nat.beq_eq]at a;omega
 ·exact Ep h
theorem upS(n:Nat)(b:n<2700000):1000000000000<=fF*(tS (n+1)-tS n):=by
 have h:=(BD (.inl rfl) aBO jS4 JD aER aET G8 Wm n b).2;have a:(BB:Rat)=2147483648:=rfl;have e1:((1:Int):Rat)=1:=rfl;rw[a,e1]at h;unfold d1 at h;grind
theorem aEJ(n:Nat)(b:n<2700000):1000000000000<=fF*(tC n-tC (n+1)):=by
 have h:=(BD (.inr rfl) aBN jC4 UM aEQ aES G7 Wl n b).2;have a:(BB:Rat)=2147483648:=rfl;have e1:((-1:Int):Rat)=-1:=rfl;rw[a,e1]at h;unfold d1 at h;grind
end SM
section
open Go.RowKit
def RE(x:Int)(w:World)(e:Ending)(w':World):Prop:=e=.returned (jI .i64 x)/\w=w'
theorem QN(n:Int):(0<=n.tmod 21600000->n.tmod 21600000=n%21600000)/\(n.tmod 21600000<0->n.tmod 21600000+21600000=n%21600000)/\-21600000<n.tmod 21600000/\n.tmod 21600000<21600000:=by
 have a:=Int.tmod_lt_of_pos n (show(0:Int)<21600000 by omega);have b:=Int.lt_tmod_of_pos n (show(0:Int)<21600000 by omega);have c:=Int.mul_tdiv_add_tmod n 21600000;refine⟨fun h=>?_,fun h=>?_,b,a⟩
 ·omega
 ·omega
theorem NU(n:Int)(w:World):Calls zB 173 #[jI .i64 n] w (RE (n%21600000) w):=by
 obtain⟨c,d,f,g⟩:=QN n;generalize e:n.tmod 21600000=m at*;by_cases a:m<0
 ·have b:=zA (show RE (n%21600000) w (.returned (jI .i64 (m+21600000))) w from⟨by rw[d a],rfl⟩);clear c d;go_enter Tryz.func173,Tryz.ntmps173;go_wp2;go_ret;exact b.out
 ·have b:=zA (show RE (n%21600000) w (.returned (jI .i64 m)) w from⟨by rw[c (by omega)],rfl⟩);clear c d;go_enter Tryz.func173,Tryz.ntmps173;go_wp2;go_ret;exact b.out
end
section
open Go.RowKit
def I3(x y b:Int):Int:=(x+18446744073709551616-y-b)%18446744073709551616
def I2(x y b:Int):Int:=if x<y+b then 1 else 0
theorem Rl(x y b:Int)(c:0<=x)(d:0<=y/\y<=18446744073709551616)(a:0<=b/\b<=1)(f:y+b<=x+18446744073709551616)(w:World):
  (callFunc 242 #[jI jU x,jI jU y,jI jU b]).run zB w=.ok (.value (.tuple #[jI jU (I3 x y b),jI jU (I2 x y b)])) w:=by
 obtain⟨X,rfl⟩:=zY c;obtain⟨Y,rfl⟩:=zY d.1;obtain⟨B,rfl⟩:=zY a.1;rw[run_callFunc_extern Tryz.func242 (by kernel_rfl) (by kernel_rfl) (by kernel_rfl) (e:=sub64Entry) (by kernel_rfl),run_sub64 X Y B (by omega)];simp only[Result.andThen,I3,I2];have e1:(((X+18446744073709551616-Y-B)%18446744073709551616:Nat):Int)=((X:Int)+18446744073709551616-(Y:Int)-(B:Int))%18446744073709551616:=by omega
 have e2:((if X<Y+B then 1 else 0:Nat):Int)=if (X:Int)<(Y:Int)+(B:Int) then 1 else 0:=by
  by_cases h:X<Y+B
  ·rw[if_pos h,if_pos (by omega)];rfl
  ·rw[if_neg h,if_neg (by omega)];rfl
 rw[e1,e2]
theorem kI(x y c:Int)(b:0<=x)(d:0<=y)(a:0<=c/\c<=1)(w:World):
  (callFunc 241 #[jI jU x,jI jU y,jI jU c]).run zB w=.ok (.value (.tuple #[jI jU ((x+y+c)%18446744073709551616),jI jU ((x+y+c)/18446744073709551616)])) w:=by
 rw[run_callFunc_extern Tryz.func241 (by kernel_rfl) (by kernel_rfl) (by kernel_rfl) (e:=add64Entry) (by kernel_rfl),run_add64 x y c b d a.1 a.2];rfl
end
end Go.Proofs.YtlbklncoihhfcaaGreatDoor
namespace Go.Proofs
open Go.Shelf
def Tryz.lays264_ren:Ren where
 f:=fun x=>match x with
  | 264=>236
  |n=>n
 t:=fun x=>match x with
  | 53=>209
  | 46=>155
  |n=>n
 g:=fun n=>n
theorem Tryz.lays264:Lays.n264 zB Tryz.lays264_ren where
 mixed:=Eq.refl true
 f264:=Eq.trans Tryz.func236 (congrArg some (Eq.refl (Body.n264 Tryz.lays264_ren)))
 t46:=Tryz.underlying155
 a46:=Tryz.isAgg155
 z46:=Tryz.sizeOf155
 v46:=Tryz.zeroValue155
 t53:=Tryz.underlying209
 a53:=Tryz.isAgg209
 z53:=Tryz.sizeOf209
 v53:=Tryz.zeroValue209
end Go.Proofs
namespace Go.Proofs.YtlbklncoihhfcaaGreatDoor
section
open Go.RowKit
def Ip(x y:Int)(w:World)(e:Ending)(w':World):Prop:=e=.returned (.tuple #[jI jU (x*y/18446744073709551616),jI jU (x*y%18446744073709551616)])/\w=w'
theorem uP(x y:Int)(c:0<=x/\x<18446744073709551616)(d:0<=y/\y<18446744073709551616)(w:World):
  Calls zB 236 #[jI jU x,jI jU y] w (Ip x y w):=by
 obtain⟨X,rfl⟩:=zY c.1;obtain⟨Y,rfl⟩:=zY d.1;have h:=Any.bits_Mul64 Tryz.lays264 X Y (by omega) (by omega) w;refine Calls.mono h ?_;rintro e f ⟨a,b⟩;refine⟨?_,b.symm⟩;rw[a];simp
end
section
open Go.RowKit
def bA(a0 a1 a2 a3:Int):Value:=.agg #[jI jU a0,jI jU a1,jI jU a2,jI jU a3]
def aU(x:Int):Prop:=0<=x/\x<18446744073709551616
theorem fS(x y b:Int)(d:aU x)(e:aU y)(a:0<=b/\b<=1):∃s c:Int,aU s/\(0<=c/\c<=1)/\s=x-y-b+18446744073709551616*c/\∀w,(callFunc 242 #[jI jU x,jI jU y,jI jU b]).run zB w=.ok (.value (.tuple #[jI jU s,jI jU c])) w:=by
 obtain⟨f,h⟩:=d;obtain⟨g,i⟩:=e;refine⟨I3 x y b,I2 x y b,?_,?_,?_,fun w=>Rl x y b f ⟨g,by omega⟩ a (by omega) w⟩
 ·unfold I3 aU;omega
 ·unfold I2;split<;>omega
 ·unfold I3 I2;split<;>omega
def dC(w:World)(v:Value)(e:Ending)(w':World):Prop:=e=.returned v/\Below w.heap.size w w'
theorem Hl(m n o p q r s t:Int)(e:aU m)(f:aU n)(g:aU o)(h:aU p)(i:aU q)(j:aU r)(k:aU s)(l:aU t):
  ∃a s1 b d c:Int,(aU a/\aU s1/\aU b/\aU d)/\(0<=c/\c<=1)/\
   a*6277101735386680763835789423207666416102355444464034512896+s1*340282366920938463463374607431768211456+b*18446744073709551616+d=m*6277101735386680763835789423207666416102355444464034512896+n*340282366920938463463374607431768211456+o*18446744073709551616+p-(q*6277101735386680763835789423207666416102355444464034512896+r*340282366920938463463374607431768211456+s*18446744073709551616+t)+115792089237316195423570985008687907853269984665640564039457584007913129639936*c/\
   ∀w,Calls zB 233 #[bA m n o p,bA q r s t] w (dC w (bA a s1 b d)):=by
 obtain⟨d,E,B,d3,G,J⟩:=fS p t 0 h l (by omega);obtain⟨b,u,A,d2,e2,I⟩:=fS o s E g k d3;obtain⟨s1,c1,z,d1,e1,H⟩:=fS n r u f j d2;obtain⟨a,D,y,x,e0,E0⟩:=fS m q c1 e i d1;refine⟨a,s1,b,d,D,⟨y,z,A,B⟩,x,by omega,fun w=>?_⟩;clear y z A B x d1 d2 d3 e0 e1 e2 G e f g h i j k l;have v:=zA (show ∀c1 u:Array Value,dC w (bA a s1 b d) (.returned (bA a s1 b d)) (((w.alloc (jC c1 239)).alloc (jC u 239)).alloc (jC #[jI jU a,jI jU s1,jI jU b,jI jU d] 239)).drew.drew.drew.drew from fun c1 u=>⟨rfl,((((((zD _ _).alloc (zC _) _).alloc (by simp) _).alloc (by simp;omega) _).drew).drew).drew.drew⟩);unfold bA at v ⊢;go_enter Tryz.func233,Tryz.ntmps233;go_wp2;refine wp_loop_rounds 5 ?_;rw[rounds_succ];go_wp2;go_region
 go_wp2;rw[rounds_succ];go_wp2;go_region
 go_wp2;rw[rounds_succ];go_wp2;go_region
 go_wp2;rw[rounds_succ];go_wp2;go_region
 go_wp2;rw[rounds_succ];go_wp2;simp[bodyPost,results,Tryz.results233,go_sem];exact v.out _ _
end
end Go.Proofs.YtlbklncoihhfcaaGreatDoor
namespace Go.Proofs
open Go.Shelf
def Tryz.lays134_ren:Ren where
 f:=fun x=>match x with
  | 134=>272
  | 129=>288
  |n=>n
 t:=fun x=>match x with
  | 53=>209
  | 3=>3
  | 4=>4
  | 46=>155
  | 5=>5
  | 9=>9
  |n=>n
 g:=fun n=>n
theorem Tryz.lays134:Lays.n134 zB Tryz.lays134_ren where
 mixed:=Eq.refl true
 f129:=Eq.trans Tryz.func288 (congrArg some (Eq.refl (Body.n129 Tryz.lays134_ren)))
 f134:=Eq.trans Tryz.func272 (congrArg some (Eq.refl (Body.n134 Tryz.lays134_ren)))
 t3:=Tryz.underlying3
 a3:=Tryz.isAgg3
 z3:=Tryz.sizeOf3
 v3:=Tryz.zeroValue3
 t4:=Tryz.underlying4
 a4:=Tryz.isAgg4
 z4:=Tryz.sizeOf4
 v4:=Tryz.zeroValue4
 t5:=Tryz.underlying5
 a5:=Tryz.isAgg5
 z5:=Tryz.sizeOf5
 v5:=Tryz.zeroValue5
 t9:=Tryz.underlying9
 a9:=Tryz.isAgg9
 z9:=Tryz.sizeOf9
 v9:=Tryz.zeroValue9
 t46:=Tryz.underlying155
 a46:=Tryz.isAgg155
 z46:=Tryz.sizeOf155
 v46:=Tryz.zeroValue155
 t53:=Tryz.underlying209
 a53:=Tryz.isAgg209
 z53:=Tryz.sizeOf209
 v53:=Tryz.zeroValue209
end Go.Proofs
namespace Go.Proofs.YtlbklncoihhfcaaGreatDoor
section
open Go.RowKit
theorem Pk(hi lo y:Int)(hy:0<y)(Z:0<hi)(a0:hi<y)(hl:0<=lo)(a1:lo<18446744073709551616)
  (T K:Int)(j:0<T)(f:T*K=4294967296)(J:y<K)(V:K<=2*y):
  ∃Y v A B U W u1 e c i d g R:Int,
   Y=y*(T*4294967296)/\0<=Y/\Y<18446744073709551616/\Y=v*4294967296/\0<v/\v<4294967296/\
   A=hi*(T*4294967296)/\0<=A/\A<18446744073709551616/\B=lo/K/\0<=B/\B<T*4294967296/\U=A+B/\0<=U/\U<18446744073709551616/\
   W=(lo*(T*4294967296))%18446744073709551616/\W=u1*4294967296/\0<=u1/\u1<4294967296/\
   e=U/v/\0<=e/\e<4294967296/\c=U-e*v/\0<=c/\c<v/\i=c*4294967296+u1/\i<18446744073709551616/\U*4294967296+u1=e*Y+i/\
   d=i/v/\0<=d/\d<4294967296/\g=i-d*v/\0<=g/\g<v/\i*4294967296=d*Y+g*4294967296/\
   g=R*T/\0<=R/\R<y/\hi*18446744073709551616+lo=(e*4294967296+d)*y+R:=by
 have M:0<K:=by omega
 have L:y*T<4294967296:=by
  have:=Int.mul_lt_mul_of_pos_left J j;rw[f,aiJ]at this;exact this
 have a:0<y*T:=Int.mul_pos hy j;have q:(hi+1)*T<=y*T:=Int.mul_le_mul_of_nonneg_right (by omega) (by omega);have O:0<hi*T:=Int.mul_pos Z j;have n:0<=lo/K:=Int.ediv_nonneg hl (by omega);have Q:lo/K<T*4294967296:=Int.ediv_lt_of_lt_mul M (by
  have:T*4294967296*K=18446744073709551616:=by rw[Int.mul_right_comm,f];rfl
  omega)
 have hm:=Int.mul_ediv_add_emod lo K;have r:=yC lo (show K≠0 by omega);have s:=qQ lo M;generalize hb:lo/K=b at*;generalize a2:lo%K=m at*;have hu:m*T<4294967296:=by
  have:=Int.mul_lt_mul_of_pos_left s j;rw[f,aiJ]at this;exact this
 have I:0<=m*T:=zX r (by omega);have k:lo*T=b*4294967296+m*T:=by
  rw[<-hm,<-f];grind
 have N:hi*T+T<=y*T:=by rw[Int.add_mul]at q;omega
 have hU:hi*(T*4294967296)+b=hi*T*4294967296+b:=by rw[xV]
 have X:hi*T*4294967296+b<y*T*4294967296:=by
  omega
 have hq:=Int.mul_ediv_add_emod (hi*T*4294967296+b) (y*T);have x:=yC (hi*T*4294967296+b) (show y*T≠0 by omega);have z:=qQ (hi*T*4294967296+b) a;have t:0<=(hi*T*4294967296+b)/(y*T):=Int.ediv_nonneg (by omega) (by omega);have u:(hi*T*4294967296+b)/(y*T)<4294967296:=Int.ediv_lt_of_lt_mul a (by omega);generalize w:(hi*T*4294967296+b)/(y*T)=e at*;generalize a3:(hi*T*4294967296+b)%(y*T)=c at*;have hN:c*4294967296+m*T<y*T*4294967296:=by omega
 have hs:=Int.mul_ediv_add_emod (c*4294967296+m*T) (y*T);have D:=yC (c*4294967296+m*T) (show y*T≠0 by omega);have l:=qQ (c*4294967296+m*T) a;have E:0<=(c*4294967296+m*T)/(y*T):=Int.ediv_nonneg (by omega) (by omega);have G:(c*4294967296+m*T)/(y*T)<4294967296:=Int.ediv_lt_of_lt_mul a (by omega);generalize H:(c*4294967296+m*T)/(y*T)=d at*;generalize a4:(c*4294967296+m*T)%(y*T)=g at*;have hR:g=(hi*18446744073709551616+lo-(e*4294967296+d)*y)*T:=by grind
 have o:0<=hi*18446744073709551616+lo-(e*4294967296+d)*y:=by
  rcases Int.lt_or_le (hi*18446744073709551616+lo-(e*4294967296+d)*y) 0 with h|h
  ·have:=Int.mul_neg_of_neg_of_pos h j;omega
  ·exact h
 have p:hi*18446744073709551616+lo-(e*4294967296+d)*y<y:=by
  have:(hi*18446744073709551616+lo-(e*4294967296+d)*y)*T<y*T:=by rw[<-hR];exact l
  exact Int.lt_of_mul_lt_mul_right this (by omega)
 refine⟨y*(T*4294967296),y*T,hi*(T*4294967296),b,hi*T*4294967296+b,m*T*4294967296,m*T,e,c,c*4294967296+m*T,d,g,hi*18446744073709551616+lo-(e*4294967296+d)*y,rfl,?_,?_,?_,a,L,rfl,?_,?_,rfl,n,Q,?_,by omega,by omega,?_,rfl,I,hu,w.symm,t,u,?_,x,z,rfl,by omega,?_,H.symm,E,G,?_,D,l,?_,hR,o,p,by omega⟩
 ·rw[<-xV];omega
 ·rw[<-xV];omega
 ·rw[<-xV]
 ·rw[<-xV];omega
 ·rw[<-xV];omega
 ·rw[<-xV]
 ·rw[<-xV,k];omega
 ·grind
 ·grind
 ·grind
 ·grind
def Sy(x:Int)(w:World)(e:Ending)(w':World):Prop:=e=.returned (jI .i64 x)/\w=w'
theorem Sr(x:Int)(a:0<=x)(b:x<=18446744073709551615)(w:World):Calls zB 272 #[jI jU x] w (Sy (64-(ajX x.toNat:Int)) w):=
 Calls.mono (Any.bits_LeadingZeros64 Tryz.lays134 x w a b) fun _ _ h=>⟨h.1,h.2.symm⟩
def AK(q r:Int)(w:World)(e:Ending)(w':World):Prop:=e=.returned (.tuple #[jI jU q,jI jU r])/\(w'=w\/w'=w.drew)
theorem Dz(hi lo y S Y v A B U W u1 b g c a f Q R:Int)(d:S=64-(ajX y.toNat:Int))(q:32<=S)(r:S<=63)(O:0<y)(x:y<4294967296)(M:0<hi)(s:hi<y)
  (N:0<v)(u:b<4294967296)(t:a<4294967296)
  (e1:u64.wrap (y*2^S.toNat)=Y)(e2:Y/4294967296=v)(z:bits .and jU Y 4294967295=0)
  (D:u64.wrap (hi*2^S.toNat)=A)(E:lo/2^(64-S).toNat=B)(G:bits .or jU A B=U)
  (H:u64.wrap (lo*2^S.toNat)=W)(I:W/4294967296=u1)(J:bits .and jU W 4294967295=0)
  (j:u64.wrap (U.tdiv v)=b)(k:u64.wrap (U-u64.wrap (b*v))=g)
  (K:0<=u64.wrap (u64.wrap (4294967296*g)+u1))
  (l:u64.wrap (u64.wrap (u64.wrap (U*4294967296)+u1)-u64.wrap (b*Y))=c)
  (m:u64.wrap (c.tdiv v)=a)(n:u64.wrap (c-u64.wrap (a*v))=f)
  (L:0<=u64.wrap (u64.wrap (4294967296*f)))
  (o:u64.wrap (u64.wrap (b*4294967296)+a)=Q)
  (p:u64.wrap (u64.wrap (u64.wrap (c*4294967296))-u64.wrap (a*Y))/2^S.toNat=R)(w:World):Calls zB 243 #[jI jU hi,jI jU lo,jI jU y] w (AK Q R w):=by
 have i:=zA d;have h:=zA (show AK Q R w (.returned (.tuple #[jI jU Q,jI jU R])) w from⟨rfl,.inl rfl⟩);clear d;go_enter Tryz.func243,Tryz.ntmps243;go_wp2_with fail
 refine(Sr y (by omega) (by omega) w).mono ?_;rw[<-i.out];rintro e V ⟨rfl,rfl⟩;go_wp2;refine wp_loop_rounds 1 ?_;rw[rounds_succ];go_wp2;refine wp_loop_rounds 1 ?_;rw[rounds_succ];go_wp2;go_ret2
 exact h.out
theorem YP(a:Int)(b:0<=a)(c:a<18446744073709551616):bits .and jU a 4294967295=a%4294967296:=by
 obtain⟨n,rfl⟩:=zY b;rw[Mul64.maskN n (by omega)];omega
theorem aDB(a b:Int)(k:Nat)(f:0<=a)(g:a*2^k<18446744073709551616)(i:0<=b)(j:b<2^k)(p:b<18446744073709551616):bits .or jU (a*2^k) b=a*2^k+b:=by
 obtain⟨m,rfl⟩:=zY f;obtain⟨n,rfl⟩:=zY i;have d:((2^k:Nat):Int)=2^k:=by simp
 have r:n<2^k:=by rw[<-d]at j;omega
 have q:m*2^k<18446744073709551616:=by rw[<-d,<-yU]at g;omega
 have l:n<18446744073709551616:=by omega
 have h:=bits_or_u64_nat (m*2^k) n q l;have e:m*2^k|||n=m*2^k+n:=by
  have:=Nat.shiftLeft_add_eq_or_of_lt r m;rw[Nat.shiftLeft_eq]at this;exact this.symm
 rw[e]at h;have c:(((m*2^k:Nat)):Int)=(m:Int)*2^k:=by rw[yU,d]
 have o:(((m*2^k+n:Nat)):Int)=(m:Int)*2^k+(n:Int):=by rw[Int.natCast_add,yU,d]
 rw[c,o]at h;exact h
theorem bG(a:Int)(b:0<=a)(c:a<18446744073709551616):u64.wrap a=a:=by rw[IntKind.wrap_u64];omega
theorem aDE(y:Int)(i:0<y)(g:y<4294967296):∃(S T K:Int) (t:Nat),S=64-(ajX y.toNat:Int)/\32<=S/\S<=63/\(2:Int)^S.toNat=T*4294967296/\(2:Int)^(64-S).toNat=K/\0<T/\T*K=4294967296/\y<K/\K<=2*y/\T*4294967296=2^t:=by
 obtain⟨n,rfl⟩:=zY (show 0<=y by omega);have e:n≠0:=by omega
 obtain⟨f,b,c⟩:=Lib.bitLenAux_bounds 64 n (by omega) e;change 1<=ajX n at f;change 2^(ajX n-1)<=n at b;change n<2^ajX n at c;have h:ajX n<=32:=Lib.bitLen_le n 32 (by omega) (by omega);rw[Int.toNat_natCast];generalize ajX n=L at*;obtain⟨l,rfl⟩:∃l,L=l+1:=⟨L-1,by omega⟩;rw[Nat.add_sub_cancel]at b;have e1:(64-((l+1:Nat):Int)).toNat=(31-l)+32:=by omega
 have e2:(64-(64-((l+1:Nat):Int))).toNat=l+1:=by omega
 have d:((2^(l+1):Nat):Int)=2^(l+1):=by simp
 have a:((2^l:Nat):Int)=2^l:=by simp
 refine⟨64-((l+1:Nat):Int),2^(31-l),2^(l+1),(31-l)+32,rfl,by omega,by omega,?_,by rw[e2],Int.pow_pos (by decide),?_,?_,?_,?_⟩
 ·rw[e1,Int.pow_add];rfl
 ·rw[<-Int.pow_add,show 31-l+(l+1)=32 by omega];rfl
 ·rw[<-d];omega
 ·rw[Int.pow_succ,<-a];omega
 ·rw[Int.pow_add];rfl
theorem dQ(hi lo y:Int)(j:0<y)(k:y<4294967296)(m:0<=hi)(f:hi<y)(g:0<=lo)(E:lo<18446744073709551616):
  ∃q r:Int,0<=q/\q<18446744073709551616/\0<=r/\r<y/\hi*18446744073709551616+lo=q*y+r/\∀w,Calls zB 243 #[jI jU hi,jI jU lo,jI jU y] w (AK q r w):=by
 rcases Int.lt_or_eq_of_le m with m|rfl
 ·obtain⟨S,T,K,t,hS,x,z,n,p2,hT,D,H,s,N⟩:=aDE y j k;obtain⟨Y,v,A,B,U,W,u1,l,r1,o,d,O,R,V,I,J,a4,X,a6,p,Z,b3,b4,b5,L,b7,b8,b9,c1,c2,c3,c4,d1,d2,d3,d4,d5,d6,d7,d8,d9,f1,M,f3,f4,f5,f6,f7,f8,g1,g2,g3⟩:=Pk hi lo y j m f g E T K hT D H s;refine⟨l*4294967296+d,R,by omega,by omega,g1,g2,g3,fun w=>?_⟩;have u:0<=o:=by omega
  have G:0<=l*v:=zX d2 (by omega);have h:0<=d*v:=zX M (by omega);refine Dz hi lo y S Y v A B U W u1 l r1 o d O _ R hS x z j k m f X d3 f3 ?_ ?_ ?_ ?_ ?_ ?_ ?_ ?_ ?_ ?_ ?_ ?_ ?_ ?_ ?_ ?_ ?_ ?_ w
  ·rw[n,<-V,bG _ I J]
  ·omega
  ·rw[YP _ I J];omega
  ·rw[n,<-p,bG _ Z b3]
  ·rw[p2,b4]
  ·rw[b7,p,N];rw[N]at p L;exact aDB hi B t (by omega) (by omega) b5 L (by omega)
  ·rw[n,IntKind.wrap_u64,<-c1]
  ·omega
  ·rw[YP _ (by omega) (by omega)];omega
  ·rw[qW b8,<-d1,bG _ d2 (by omega)]
  ·rw[bG (l*v) G (by omega),<-d4,bG _ d5 (by omega)]
  ·rw[IntKind.wrap_u64];omega
  ·generalize l*Y=P at*;simp only[IntKind.wrap_u64];omega
  ·rw[qW u,<-f1,bG _ M (by omega)]
  ·rw[bG (d*v) h (by omega),<-f4,bG _ f5 (by omega)]
  ·rw[IntKind.wrap_u64];omega
  ·simp only[IntKind.wrap_u64];omega
  ·have e:u64.wrap (u64.wrap (u64.wrap (o*4294967296))-u64.wrap (d*Y))=O*4294967296:=by
    generalize d*Y=P at*;simp only[IntKind.wrap_u64];omega
   rw[e,n,f8,xV];exact Int.mul_ediv_cancel _ (by omega)
 ·have a:=Int.ediv_nonneg g (show 0<=y by omega);have b:lo/y<18446744073709551616:=Int.ediv_lt_of_lt_mul j (by
   have:=Int.mul_le_mul_of_nonneg_left (show(1:Int)<=y by omega) (show(0:Int)<=18446744073709551616 by omega);omega)
  have c:=yC lo (show y≠0 by omega);have i:=qQ lo j;have hm:=Int.mul_ediv_add_emod lo y;refine⟨lo/y,lo%y,a,b,c,i,by rw[aiJ (lo/y)];omega,fun w=>?_⟩;have k1:u64.wrap (lo.tdiv y)=lo/y:=by rw[qW g,bG _ a b]
  have k2:u64.wrap (lo.tmod y)=lo%y:=by rw[Int.tmod_eq_emod_of_nonneg g,bG _ c (by omega)]
  have k3:lo.tmod y=lo%y:=Int.tmod_eq_emod_of_nonneg g;have Q:=zA (show AK (lo/y) (lo%y) w (.returned (.tuple #[jI jU (lo/y),jI jU (lo%y)])) w.drew from⟨rfl,.inr rfl⟩);clear hm a b c i;go_enter Tryz.func243,Tryz.ntmps243;go_wp2;go_region
  go_wp2;go_ret2
  exact Q.out
end
section
open Go.RowKit
theorem mD(w w':World)(A R:Obj)(h:w'=(w.alloc A).alloc R\/w'=((w.alloc A).alloc R).drew):∃w1:World,w'=(w1.alloc A).alloc R/\w1.heap.size=w.heap.size/\Below w.heap.size w w1:=by
 rcases h with rfl|rfl
 ·exact⟨w,rfl,rfl,zD _ _⟩
 ·exact⟨w.drew,rfl,rfl,(zD _ _).drew⟩
theorem Mj(G H I J t d:Int)(f:aU G)(g:aU H)(h:aU I)(i:aU J)(x:0<d)(a:d<4294967296)(A:0<=t)(Z:t<d):
  ∃B s1 D E r:Int,(aU B/\aU s1/\aU D/\aU E)/\0<=r/\r<d/\
   t*115792089237316195423570985008687907853269984665640564039457584007913129639936+(G*6277101735386680763835789423207666416102355444464034512896+H*340282366920938463463374607431768211456+I*18446744073709551616+J)=(B*6277101735386680763835789423207666416102355444464034512896+s1*340282366920938463463374607431768211456+D*18446744073709551616+E)*d+r/\
   ∀w,Calls zB 268 #[bA G H I J,jI jU t,jI jU d] w (dC w (bA B s1 D E)):=by
 obtain⟨B,r0,U,n,R,j,e0,E0⟩:=dQ t G d x a A Z f.1 f.2;obtain⟨s1,r1,V,o,d1,k,e1,K⟩:=dQ r0 H d x a R j g.1 g.2;obtain⟨D,r2,X,p,d2,l,e2,L⟩:=dQ r1 I d x a d1 k h.1 h.2;obtain⟨E,r3,Y,q,d3,m,e3,M⟩:=dQ r2 J d x a d2 l i.1 i.2;refine⟨B,s1,D,E,r3,⟨⟨U,n⟩,⟨V,o⟩,⟨X,p⟩,⟨Y,q⟩⟩,d3,m,by grind,fun w=>?_⟩;clear U n V o X p Y q R j d1 k d2 l d3 m e0 e1 e2 e3 f g h i Z A x a;have E0:=zA E0;have K:=zA K;have L:=zA L;have M:=zA M;unfold bA;go_enter Tryz.func268,Tryz.ntmps268;go_wp2;refine wp_loop_rounds 5 ?_;rw[rounds_succ];go_wp2_with fail
 refine(E0.out _).mono ?_;rintro e Q ⟨rfl,b⟩;obtain⟨w1,rfl,O,N⟩:=mD _ _ _ _ b;clear b;go_wp2_with fail
 rw[rounds_succ];go_wp2_with fail
 refine(K.out _).mono ?_;rintro e Q ⟨rfl,b⟩;obtain⟨w2,rfl,y,s⟩:=mD _ _ _ _ b;clear b;rw[O]at s y;go_wp2_with fail
 rw[rounds_succ];go_wp2_with fail
 refine(L.out _).mono ?_;rintro e Q ⟨rfl,b⟩;obtain⟨w3,rfl,z,u⟩:=mD _ _ _ _ b;clear b;rw[y]at u z;go_wp2_with fail
 rw[rounds_succ];go_wp2_with fail
 refine(M.out _).mono ?_;rintro e Q ⟨rfl,b⟩;obtain⟨w4,rfl,c,v⟩:=mD _ _ _ _ b;clear b;rw[z]at v c;go_wp2_with fail
 rw[rounds_succ];go_wp2_with fail
 have hB:=(((N.trans s).trans u).trans v);simp[bodyPost,results,Tryz.results268,go_sem,c];exact⟨rfl,(hB.alloc (by rw[c];exact zC _) _).alloc (by simp[c]) _⟩
end
section
open Go.RowKit
structure Mac (a b o c s c':Int):Prop where
 out:∃hi lo s1 k1 h1 k2:Int,(∀w,Calls zB 236 #[jI jU a,jI jU b] w fun e w'=>e=.returned (.tuple #[jI jU hi,jI jU lo])/\w'=w)/\
  (∀w,(callFunc 241 #[jI jU o,jI jU lo,jI jU 0]).run zB w=.ok (.value (.tuple #[jI jU s1,jI jU k1])) w)/\u64.wrap (hi+k1)=h1/\
  (∀w,(callFunc 241 #[jI jU s1,jI jU c,jI jU 0]).run zB w=.ok (.value (.tuple #[jI jU s,jI jU k2])) w)/\u64.wrap (h1+k2)=c'
theorem kW(a b o c:Int)(l:aU a)(m:aU b)(p:aU o)(n:aU c):∃s c':Int,aU s/\aU c'/\o+a*b+c=s+18446744073709551616*c'/\Mac a b o c s c':=by
 obtain⟨f,g⟩:=l;obtain⟨d,i⟩:=m;obtain⟨t,x⟩:=p;obtain⟨j,c1⟩:=n;have q:0<=a*b:=zX f d;have r:a*b<=18446744073709551615*18446744073709551615:=yZ (by omega) (by omega) d (by decide);have k:∀w,Calls zB 236 #[jI jU a,jI jU b] w fun e u=>e=.returned (.tuple #[jI jU (a*b/18446744073709551616),jI jU (a*b%18446744073709551616)])/\u=w:=fun w=>(uP a b ⟨f,g⟩ ⟨d,i⟩ w).mono fun _ _ h=>⟨h.1,h.2.symm⟩;generalize v:a*b=P at*;refine⟨((o+P%18446744073709551616)%18446744073709551616+c)%18446744073709551616,P/18446744073709551616+(o+P%18446744073709551616)/18446744073709551616+((o+P%18446744073709551616)%18446744073709551616+c)/18446744073709551616,⟨by omega,by omega⟩,⟨by omega,by omega⟩,by omega,
  ⟨P/18446744073709551616,P%18446744073709551616,(o+P%18446744073709551616)%18446744073709551616,(o+P%18446744073709551616)/18446744073709551616,P/18446744073709551616+(o+P%18446744073709551616)/18446744073709551616,((o+P%18446744073709551616)%18446744073709551616+c)/18446744073709551616,k,fun w=>?_,?_,fun w=>?_,?_⟩⟩
 ·have:=kI o (P%18446744073709551616) 0 t (by omega) (by omega) w;simpa using this
 ·exact bG _ (by omega) (by omega)
 ·have:=kI ((o+P%18446744073709551616)%18446744073709551616) c 0 (by omega) j (by omega) w;simpa using this
 ·exact bG _ (by omega) (by omega)
theorem aJ(w:World)(o:Obj)(n:Nat):(w.alloc o).drewN n=(w.drewN n).alloc o:=rfl
def Nx(w:World)(W:World->Int->World)(i C:Int)(c k:Value)(wr:World):Prop:=
 ∃w1:World,(w1.heap.size=w.heap.size/\Below w.heap.size w w1)/\((k=jI .i64 i/\c=jI jU C/\wr=W w1 0)\/(k=jI .i64 (i-1)/\c=jI jU 0/\wr=W w1 C))
theorem Nx.ways{w:World}{W:World->Int->World}{i C:Int}{c k:Value}{wr:World}(h:Nx w W i C c k wr)(g:0<=C):
  ∃w1:World,(w1.heap.size=w.heap.size/\Below w.heap.size w w1)/\((0<C/\k=jI .i64 i/\c=jI jU C/\wr=W w1 0)\/(∃f:Int,(f=i\/f=i-1)/\k=jI .i64 f/\c=jI jU 0/\wr=W w1 C)):=by
 obtain⟨w1,e,⟨a,b,d⟩|⟨a,b,d⟩⟩:=h
 ·rcases Int.lt_or_eq_of_le g with h|h
  ·exact⟨w1,e,.inl ⟨h,a,b,d⟩⟩
  ·subst h;exact⟨w1,e,.inr ⟨i,.inl rfl,a,b,d⟩⟩
 ·exact⟨w1,e,.inr ⟨i-1,.inr rfl,a,b,d⟩⟩
theorem aK(w w0:World)(n:Nat)(h:w.heap.size=w0.heap.size/\Below w0.heap.size w0 w):(w.drewN n).heap.size=w0.heap.size/\Below w0.heap.size w0 (w.drewN n):=⟨h.1,below_drewN h.2 n⟩
def kOf:Value->Int| .int _ x=>x|_=>0
theorem GR(x:Int)(a:0<=x)(h:x<18446744073709551616)(w:World):(callFunc 241 #[jI jU 0,jI jU x,jI jU 0]).run zB w=.ok (.value (.tuple #[jI jU x,jI jU 0])) w:=by
 have:=kI 0 x 0 (by omega) a (by omega) w;rw[this];have e1:(0+x+0)%18446744073709551616=x:=by omega
 have e2:(0+x+0)/18446744073709551616=0:=by omega
 rw[e1,e2]
theorem Tp(a:Option Addr)(w:World):(Instr.arrayAt 239 (.slice a 4 6)).run zB w=.ok (.pointer a) w:=run_arrayAt w 239 209 4 a 4 6 (by kernel_rfl) (by decide)
theorem Qo(j m p r n o q t p1 c1 p2 N p3 c3 p4 c4 p5 O p6 c6 p7 c7 p8 c8 p9 Q R J G K H L I f:Int)(m1:Mac r o 0 0 p1 c1)(m2:Mac r n 0 c1 p2 N)(m3:Mac p q p1 0 p3 c3)(m4:Mac p o p2 c3 p4 c4)(m5:Mac p n N c4 p5 O)(m6:Mac m t p3 0 p6 c6)(m7:Mac m q p4 c6 p7 c7)(m8:Mac m o p5 c7 p8 c8)(m9:Mac m n O c8 p9 Q)(v:Mac j t p7 0 R J)(z:Mac j q p8 J G K)(D:Mac j o p9 K H L)(E:Mac j n Q L I f)(g2:aU N)(g5:aU O)(g9:aU Q)(u:aU f)(w:World):Calls zB 234 #[bA j m p r,bA n o q t] w (dC w (bA f I H G)):=by
 have m1:=zA m1;have m2:=zA m2;have m3:=zA m3;have m4:=zA m4;have m5:=zA m5;have m6:=zA m6;have m7:=zA m7;have m8:=zA m8;have m9:=zA m9;have v:=zA v;have z:=zA z;have D:=zA D;have E:=zA E;have g2:=zA g2;have g5:=zA g5;have g9:=zA g9;have u:=zA u;unfold bA;go_enter Tryz.func234,Tryz.ntmps234;go_wp2;refine wp_loop_rounds 5 ?_;rw[rounds_succ];go_wp2_with fail
 refine wp_loop_rounds 5 ?_;rw[rounds_succ];go_wp2_with fail
 rw[rounds_succ];go_wp2_with fail
 rw[rounds_succ];go_wp2_with fail
 obtain⟨hi,lo,s,k,h,l,M,A,x,B,y⟩:=m1.out.out;have M:=zA M;go_quiet (first|(go_at_call 236;refine Calls.quiet_of_same (M.out _)))
 simp only[aJ];rename_i nq;have d:=aK w w nq ⟨rfl,zD _ _⟩;generalize qE w nq=g at*;obtain⟨a,b⟩:=d;go_wp2_with fail
 clear A x B y;rw[rounds_succ];go_wp2_with fail
 obtain⟨hi,lo,s,k,h,l,M,A,x,B,y⟩:=m2.out.out;have M:=zA M;go_quiet (first|(go_at_call 236;refine Calls.quiet_of_same (M.out _)))
 simp only[aJ];rename_i nq;have d:=aK g w nq ⟨a,b⟩;generalize qE g nq=w2 at*;clear a b;obtain⟨a,b⟩:=d;go_wp2_with fail
 clear A x B y;rw[rounds_succ];obtain⟨e,i⟩:=g2.out;have Z:=GR N e i;go_wp2_with fail
 go_loopw [7,13] (fun c k wr=>Nx w (fun g x=>(((g.alloc (jC #[jI jU j,jI jU m,jI jU p,jI jU r] 239)).alloc (jC #[jI jU n,jI jU o,jI jU q,jI jU t] 239)).alloc (jC #[jI jU 0,jI jU 0,jI jU 0,jI jU 0] 239)).alloc (jC #[jI jU 0,jI jU 0,jI jU 0,jI jU x,jI jU p2,jI jU p1] 264)) 3 N c k wr) (fun _ k _=>(kOf k+1).toNat)
 case atStart=>exact⟨_,⟨a,b⟩,.inl ⟨rfl,rfl,rfl⟩⟩
 clear a b;obtain⟨w3,⟨a,b⟩,⟨hp,rfl,rfl,rfl⟩|⟨k',hk,rfl,rfl,rfl⟩⟩:=hrel.ways e
 ·clear hrel;go_wp2_with fail
  go_roundw
  case rel=>exact⟨_,⟨a,b⟩,.inr ⟨rfl,rfl,rfl⟩⟩
  case measure=>simp[kOf]
 clear hrel;go_wp2_with fail
 clear Z e i;rw[rounds_succ];go_wp2_with fail
 refine wp_loop_rounds 5 ?_;rw[rounds_succ];go_wp2_with fail
 rw[rounds_succ];go_wp2_with fail
 obtain⟨hi,lo,s,k,h,l,M,A,x,B,y⟩:=m3.out.out;have M:=zA M;go_quiet (first|(go_at_call 236;refine Calls.quiet_of_same (M.out _)))
 simp only[aJ];rename_i nq;have d:=aK w3 w nq ⟨a,b⟩;generalize qE w3 nq=w4 at*;clear a b;obtain⟨a,b⟩:=d;go_wp2_with fail
 clear A x B y;rw[rounds_succ];go_wp2_with fail
 obtain⟨hi,lo,s,k,h,l,M,A,x,B,y⟩:=m4.out.out;have M:=zA M;go_quiet (first|(go_at_call 236;refine Calls.quiet_of_same (M.out _)))
 simp only[aJ];rename_i nq;have d:=aK w4 w nq ⟨a,b⟩;generalize qE w4 nq=w5 at*;clear a b;obtain⟨a,b⟩:=d;go_wp2_with fail
 clear A x B y;rw[rounds_succ];go_wp2_with fail
 obtain⟨hi,lo,s,k,h,l,M,A,x,B,y⟩:=m5.out.out;have M:=zA M;go_quiet (first|(go_at_call 236;refine Calls.quiet_of_same (M.out _)))
 simp only[aJ];rename_i nq;have d:=aK w5 w nq ⟨a,b⟩;generalize qE w5 nq=w6 at*;clear a b;obtain⟨a,b⟩:=d;go_wp2_with fail
 clear A x B y;rw[rounds_succ];obtain⟨e,i⟩:=g5.out;have Z:=GR O e i;go_wp2_with fail
 go_loopw [7,13] (fun c k wr=>Nx w (fun g x=>(((g.alloc (jC #[jI jU j,jI jU m,jI jU p,jI jU r] 239)).alloc (jC #[jI jU n,jI jU o,jI jU q,jI jU t] 239)).alloc (jC #[jI jU 0,jI jU 0,jI jU 0,jI jU 0] 239)).alloc (jC #[jI jU 0,jI jU 0,jI jU x,jI jU p5,jI jU p4,jI jU p3] 264)) 2 O c k wr) (fun _ k _=>(kOf k+1).toNat)
 case atStart=>exact⟨_,⟨a,b⟩,.inl ⟨rfl,rfl,rfl⟩⟩
 clear a b;obtain⟨w7,⟨a,b⟩,⟨hp,rfl,rfl,rfl⟩|⟨k',hk,rfl,rfl,rfl⟩⟩:=hrel.ways e
 ·clear hrel;go_wp2_with fail
  go_roundw
  case rel=>exact⟨_,⟨a,b⟩,.inr ⟨rfl,rfl,rfl⟩⟩
  case measure=>simp[kOf]
 clear hrel;go_wp2_with fail
 clear Z e i;rw[rounds_succ];go_wp2_with fail
 refine wp_loop_rounds 5 ?_;rw[rounds_succ];go_wp2_with fail
 obtain⟨hi,lo,s,k,h,l,M,A,x,B,y⟩:=m6.out.out;have M:=zA M;go_quiet (first|(go_at_call 236;refine Calls.quiet_of_same (M.out _)))
 simp only[aJ];rename_i nq;have d:=aK w7 w nq ⟨a,b⟩;generalize qE w7 nq=w8 at*;clear a b;obtain⟨a,b⟩:=d;go_wp2_with fail
 clear A x B y;rw[rounds_succ];go_wp2_with fail
 obtain⟨hi,lo,s,k,h,l,M,A,x,B,y⟩:=m7.out.out;have M:=zA M;go_quiet (first|(go_at_call 236;refine Calls.quiet_of_same (M.out _)))
 simp only[aJ];rename_i nq;have d:=aK w8 w nq ⟨a,b⟩;generalize qE w8 nq=w9 at*;clear a b;obtain⟨a,b⟩:=d;go_wp2_with fail
 clear A x B y;rw[rounds_succ];go_wp2_with fail
 obtain⟨hi,lo,s,k,h,l,M,A,x,B,y⟩:=m8.out.out;have M:=zA M;go_quiet (first|(go_at_call 236;refine Calls.quiet_of_same (M.out _)))
 simp only[aJ];rename_i nq;have d:=aK w9 w nq ⟨a,b⟩;generalize qE w9 nq=U at*;clear a b;obtain⟨a,b⟩:=d;go_wp2_with fail
 clear A x B y;rw[rounds_succ];go_wp2_with fail
 obtain⟨hi,lo,s,k,h,l,M,A,x,B,y⟩:=m9.out.out;have M:=zA M;go_quiet (first|(go_at_call 236;refine Calls.quiet_of_same (M.out _)))
 simp only[aJ];rename_i nq;have d:=aK U w nq ⟨a,b⟩;generalize qE U nq=a5 at*;clear a b;obtain⟨a,b⟩:=d;go_wp2_with fail
 clear A x B y;rw[rounds_succ];obtain⟨e,i⟩:=g9.out;have Z:=GR Q e i;go_wp2_with fail
 go_loopw [7,13] (fun c k wr=>Nx w (fun g x=>(((g.alloc (jC #[jI jU j,jI jU m,jI jU p,jI jU r] 239)).alloc (jC #[jI jU n,jI jU o,jI jU q,jI jU t] 239)).alloc (jC #[jI jU 0,jI jU 0,jI jU 0,jI jU 0] 239)).alloc (jC #[jI jU 0,jI jU x,jI jU p9,jI jU p8,jI jU p7,jI jU p6] 264)) 1 Q c k wr) (fun _ k _=>(kOf k+1).toNat)
 case atStart=>exact⟨_,⟨a,b⟩,.inl ⟨rfl,rfl,rfl⟩⟩
 clear a b;obtain⟨V,⟨a,b⟩,⟨hp,rfl,rfl,rfl⟩|⟨k',hk,rfl,rfl,rfl⟩⟩:=hrel.ways e
 ·clear hrel;go_wp2_with fail
  go_roundw
  case rel=>exact⟨_,⟨a,b⟩,.inr ⟨rfl,rfl,rfl⟩⟩
  case measure=>simp[kOf]
 clear hrel;go_wp2_with fail
 clear Z e i;rw[rounds_succ];go_wp2_with fail
 refine wp_loop_rounds 5 ?_;rw[rounds_succ];go_wp2_with fail
 obtain⟨hi,lo,s,k,h,l,M,A,x,B,y⟩:=v.out.out;have M:=zA M;go_quiet (first|(go_at_call 236;refine Calls.quiet_of_same (M.out _)))
 simp only[aJ];rename_i nq;have d:=aK V w nq ⟨a,b⟩;generalize qE V nq=X at*;clear a b;obtain⟨a,b⟩:=d;go_wp2_with fail
 clear A x B y;rw[rounds_succ];go_wp2_with fail
 obtain⟨hi,lo,s,k,h,l,M,A,x,B,y⟩:=z.out.out;have M:=zA M;go_quiet (first|(go_at_call 236;refine Calls.quiet_of_same (M.out _)))
 simp only[aJ];rename_i nq;have d:=aK X w nq ⟨a,b⟩;generalize qE X nq=Y at*;clear a b;obtain⟨a,b⟩:=d;go_wp2_with fail
 clear A x B y;rw[rounds_succ];go_wp2_with fail
 obtain⟨hi,lo,s,k,h,l,M,A,x,B,y⟩:=D.out.out;have M:=zA M;go_quiet (first|(go_at_call 236;refine Calls.quiet_of_same (M.out _)))
 simp only[aJ];rename_i nq;have d:=aK Y w nq ⟨a,b⟩;generalize qE Y nq=a4 at*;clear a b;obtain⟨a,b⟩:=d;go_wp2_with fail
 clear A x B y;rw[rounds_succ];go_wp2_with fail
 obtain⟨hi,lo,s,k,h,l,M,A,x,B,y⟩:=E.out.out;have M:=zA M;go_quiet (first|(go_at_call 236;refine Calls.quiet_of_same (M.out _)))
 simp only[aJ];rename_i nq;have d:=aK a4 w nq ⟨a,b⟩;generalize qE a4 nq=a6 at*;clear a b;obtain⟨a,b⟩:=d;go_wp2_with fail
 clear A x B y;rw[rounds_succ];obtain⟨e,i⟩:=u.out;have Z:=GR f e i;go_wp2_with fail
 go_loopw [7,13] (fun c k wr=>Nx w (fun g x=>(((g.alloc (jC #[jI jU j,jI jU m,jI jU p,jI jU r] 239)).alloc (jC #[jI jU n,jI jU o,jI jU q,jI jU t] 239)).alloc (jC #[jI jU 0,jI jU 0,jI jU 0,jI jU 0] 239)).alloc (jC #[jI jU x,jI jU I,jI jU H,jI jU G,jI jU R,jI jU p6] 264)) 0 f c k wr) (fun _ k _=>(kOf k+1).toNat)
 case atStart=>exact⟨_,⟨a,b⟩,.inl ⟨rfl,rfl,rfl⟩⟩
 clear a b;obtain⟨a7,⟨a,b⟩,⟨hp,rfl,rfl,rfl⟩|⟨k',hk,rfl,rfl,rfl⟩⟩:=hrel.ways e
 ·clear hrel;go_wp2_with fail
  go_roundw
  case rel=>exact⟨_,⟨a,b⟩,.inr ⟨rfl,rfl,rfl⟩⟩
  case measure=>simp[kOf]
 clear hrel;have HA:=Tp;rcases hk with rfl|rfl
 ·go_wp2_with fail
  rw[rounds_succ];go_wp2_with fail
  simp[bodyPost,results,Tryz.results234,go_sem,a];exact⟨rfl,(((b.alloc (by rw[a];exact zC _) _).alloc (by simp[a]) _).alloc (by simp[a];omega) _).alloc (by simp[a];omega) _⟩
 ·go_wp2_with fail
  rw[rounds_succ];go_wp2_with fail
  simp[bodyPost,results,Tryz.results234,go_sem,a];exact⟨rfl,(((b.alloc (by rw[a];exact zC _) _).alloc (by simp[a]) _).alloc (by simp[a];omega) _).alloc (by simp[a];omega) _⟩
theorem TM(f g d a h i e b:Int)(m:aU f)(n:aU g)(l:aU d)(j:aU a)(o:aU h)(p:aU i)(k:aU e)(c:aU b):
  ∃H s1 I J:Int,(aU H/\aU s1/\aU I/\aU J)/\(H*6277101735386680763835789423207666416102355444464034512896+s1*340282366920938463463374607431768211456+I*18446744073709551616+J)*115792089237316195423570985008687907853269984665640564039457584007913129639936<=(f*6277101735386680763835789423207666416102355444464034512896+g*340282366920938463463374607431768211456+d*18446744073709551616+a)*(h*6277101735386680763835789423207666416102355444464034512896+i*340282366920938463463374607431768211456+e*18446744073709551616+b)/\(f*6277101735386680763835789423207666416102355444464034512896+g*340282366920938463463374607431768211456+d*18446744073709551616+a)*(h*6277101735386680763835789423207666416102355444464034512896+i*340282366920938463463374607431768211456+e*18446744073709551616+b)<((H*6277101735386680763835789423207666416102355444464034512896+s1*340282366920938463463374607431768211456+I*18446744073709551616+J)+2)*115792089237316195423570985008687907853269984665640564039457584007913129639936/\∀w,Calls zB 234 #[bA f g d a,bA h i e b] w (dC w (bA H s1 I J)):=by
 have r:aU 0:=⟨by omega,by omega⟩;obtain⟨p1,c1,u1,v1,e1,m1⟩:=kW a i 0 0 j p r r;obtain⟨p2,c2,u2,v2,e2,m2⟩:=kW a h 0 c1 j o r v1;obtain⟨p3,c3,u3,v3,e3,m3⟩:=kW d e p1 0 l k u1 r;obtain⟨p4,c4,u4,v4,e4,m4⟩:=kW d i p2 c3 l p u2 v3;obtain⟨p5,c5,u5,v5,e5,m5⟩:=kW d h c2 c4 l o v2 v4;obtain⟨p6,c6,u6,v6,e6,m6⟩:=kW g b p3 0 n c u3 r;obtain⟨p7,c7,u7,v7,e7,m7⟩:=kW g e p4 c6 n k u4 v6;obtain⟨p8,c8,u8,v8,e8,m8⟩:=kW g i p5 c7 n p u5 v7;obtain⟨p9,c9,u9,v9,e9,m9⟩:=kW g h c5 c8 n o v5 v8;obtain⟨b7,s,u10,b8,d7,x⟩:=kW f b p7 0 m c u7 r;obtain⟨B,t,u11,b9,d8,y⟩:=kW f e p8 s m k u8 b8;obtain⟨D,u,u12,c0,d9,z⟩:=kW f i p9 t m p u9 b9;obtain⟨E,v,u13,G,f0,A⟩:=kW f h c9 u m o v9 c0;have K:=fun w=>Qo f g d a h i e b p1 c1 p2 c2 p3 c3 p4 c4 p5 c5 p6 c6 p7 c7 p8 c8 p9 c9 b7 s B t D u E v m1 m2 m3 m4 m5 m6 m7 m8 m9 x y z A v2 v5 v9 G w;clear m1 m2 m3 m4 m5 m6 m7 m8 m9 x y z A;refine⟨v,E,D,B,⟨G,u13,u12,u11⟩,?_,?_,K⟩
 ·clear K;have q:(f*6277101735386680763835789423207666416102355444464034512896+g*340282366920938463463374607431768211456+d*18446744073709551616+a)*(h*6277101735386680763835789423207666416102355444464034512896+i*340282366920938463463374607431768211456+e*18446744073709551616+b)=f*h*39402006196394479212279040100143613805079739270465446667948293404245721771497210611414266254884915640806627990306816+f*i*2135987035920910082395021706169552114602704522356652769947041607822219725780640550022962086936576+f*e*115792089237316195423570985008687907853269984665640564039457584007913129639936+f*b*6277101735386680763835789423207666416102355444464034512896+g*h*2135987035920910082395021706169552114602704522356652769947041607822219725780640550022962086936576+g*i*115792089237316195423570985008687907853269984665640564039457584007913129639936+g*e*6277101735386680763835789423207666416102355444464034512896+g*b*340282366920938463463374607431768211456+d*h*115792089237316195423570985008687907853269984665640564039457584007913129639936+d*i*6277101735386680763835789423207666416102355444464034512896+d*e*340282366920938463463374607431768211456+d*b*18446744073709551616+a*h*6277101735386680763835789423207666416102355444464034512896+a*i*340282366920938463463374607431768211456+a*e*18446744073709551616+a*b*1:=by grind
  rw[q];clear q;have b4:0<=d*b:=zX l.1 c.1;have d0:d*b<=18446744073709551615*18446744073709551615:=yZ (by have:=l.2;omega) (by have:=c.2;omega) c.1 (by decide);have b5:0<=a*e:=zX j.1 k.1;have d5:a*e<=18446744073709551615*18446744073709551615:=yZ (by have:=j.2;omega) (by have:=k.2;omega) k.1 (by decide);have b6:0<=a*b:=zX j.1 c.1;have d6:a*b<=18446744073709551615*18446744073709551615:=yZ (by have:=j.2;omega) (by have:=c.2;omega) c.1 (by decide);obtain⟨r4,R4⟩:=u10;obtain⟨r5,R5⟩:=u6;clear m n l j o p k c;generalize f*h=L at*;generalize f*i=M at*;generalize f*e=N at*;generalize f*b=O at*;generalize g*h=Q at*;generalize g*i=R at*;generalize g*e=U at*;generalize g*b=V at*;generalize d*h=X at*;generalize d*i=Y at*;generalize d*e=Z at*;generalize d*b=a4 at*;generalize a*h=a5 at*;generalize a*i=a6 at*;generalize a*e=a7 at*;generalize a*b=a9 at*;clear r;omega
 ·clear K;have q:(f*6277101735386680763835789423207666416102355444464034512896+g*340282366920938463463374607431768211456+d*18446744073709551616+a)*(h*6277101735386680763835789423207666416102355444464034512896+i*340282366920938463463374607431768211456+e*18446744073709551616+b)=f*h*39402006196394479212279040100143613805079739270465446667948293404245721771497210611414266254884915640806627990306816+f*i*2135987035920910082395021706169552114602704522356652769947041607822219725780640550022962086936576+f*e*115792089237316195423570985008687907853269984665640564039457584007913129639936+f*b*6277101735386680763835789423207666416102355444464034512896+g*h*2135987035920910082395021706169552114602704522356652769947041607822219725780640550022962086936576+g*i*115792089237316195423570985008687907853269984665640564039457584007913129639936+g*e*6277101735386680763835789423207666416102355444464034512896+g*b*340282366920938463463374607431768211456+d*h*115792089237316195423570985008687907853269984665640564039457584007913129639936+d*i*6277101735386680763835789423207666416102355444464034512896+d*e*340282366920938463463374607431768211456+d*b*18446744073709551616+a*h*6277101735386680763835789423207666416102355444464034512896+a*i*340282366920938463463374607431768211456+a*e*18446744073709551616+a*b*1:=by grind
  rw[q];clear q;have b4:0<=d*b:=zX l.1 c.1;have d0:d*b<=18446744073709551615*18446744073709551615:=yZ (by have:=l.2;omega) (by have:=c.2;omega) c.1 (by decide);have b5:0<=a*e:=zX j.1 k.1;have d5:a*e<=18446744073709551615*18446744073709551615:=yZ (by have:=j.2;omega) (by have:=k.2;omega) k.1 (by decide);have b6:0<=a*b:=zX j.1 c.1;have d6:a*b<=18446744073709551615*18446744073709551615:=yZ (by have:=j.2;omega) (by have:=c.2;omega) c.1 (by decide);obtain⟨r4,R4⟩:=u10;obtain⟨r5,R5⟩:=u6;clear m n l j o p k c;generalize f*h=L at*;generalize f*i=M at*;generalize f*e=N at*;generalize f*b=O at*;generalize g*h=Q at*;generalize g*i=R at*;generalize g*e=U at*;generalize g*b=V at*;generalize d*h=X at*;generalize d*i=Y at*;generalize d*e=Z at*;generalize d*b=a4 at*;generalize a*h=a5 at*;generalize a*i=a6 at*;generalize a*e=a7 at*;generalize a*b=a9 at*;clear r;omega
end
end Go.Proofs.YtlbklncoihhfcaaGreatDoor
