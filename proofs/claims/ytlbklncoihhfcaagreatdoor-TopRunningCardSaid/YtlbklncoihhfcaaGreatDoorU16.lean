/-
  Rhumb's quotient of two numbers: the walk of the long division. Rhumb's inverse hyperbolic tangent: the walk. The sine of the meridional parts, by 192 bits: it stays below 1 up to 89 degrees. No.
-/
import Derived.Test.YtlbklncoihhfcaaGreatDoorU15
import Derived.Laws.StructEq
import Derived.Deep.CutRange
import Derived.Deep.CutBlock
import Derived.Deep.AppendLies
import Derived.Deep.RegionLaw
import Derived.Lib.QuietBelow
import Derived.StillTail
set_option maxRecDepth 100000
set_option maxHeartbeats 4000000
open Go.RowKit.Below renaming refl→zD
open _root_.Int renaming eq_ofNat_of_zero_le→zY
open Go.Lib renaming hid→zA
open _root_.List renaming length_cons→zM
open _root_.Nat renaming add_mod_right→aaQ,add_zero→xZ,div_add_mod→xQ,div_div_eq_div_mul→qT,div_le_div_right→xH,div_le_of_le_mul→yR,div_le_self→abX,div_mul_le_self→xL,eq_zero_or_pos→yF,le_refl→zC,le_trans→zJ,lt_of_le_of_lt→yJ,lt_or_ge→qJ,mod_eq_of_lt→zP,mod_lt→yX,mul_assoc→qN,mul_comm→qH,mul_le_mul→qM,mul_le_mul_left→qD,mul_le_mul_right→zR,pow_add→yQ,pow_le_pow_right→yS,pow_succ→yT,zero_add→qP
open Go.Proofs.Tryz renaming prog→zB
open Go.World renaming setCell→qK
open Go.IntKind (i64 u64)
open Go.Value renaming int→jI
open Go.IntKind renaming u64→jU
open Go.Obj renaming cells→jC
open Go.Value renaming agg→jA
namespace Go.Proofs.YtlbklncoihhfcaaGreatDoor
section
open Go.RowKit
attribute [local go_sem] Oper.semAt_some
theorem DA(n:Int):bits .and jU n 1=n%2:=by
 have a:(BitVec.ofInt 64 1).toNat=2^1-1:=by decide
 have b:(BitVec.ofInt 64 n&&& BitVec.ofInt 64 1).toNat=(n%((2^64:Nat):Int)).toNat%2^1:=by
  rw[BitVec.toNat_and,BitVec.toNat_ofInt,a,Nat.and_two_pow_sub_one_eq_mod]
 show u64.wrap ((BitVec.ofInt 64 n&&& BitVec.ofInt 64 1).toNat:Nat)=n%2;rw[b,IntKind.wrap_u64];omega
theorem aBy(n:Int)(h:aU n)(f:n%2=0):bits .or jU n 1=n+1:=by
 obtain⟨c,d⟩:=h;obtain⟨m,rfl⟩:∃m:Nat,n=2*(m:Int):=⟨(n/2).toNat,by omega⟩;have a:(BitVec.ofInt 64 (2*(m:Int))|||BitVec.ofInt 64 1).toNat=2*m+1:=by
  rw[BitVec.toNat_or,BitVec.toNat_ofInt,show(BitVec.ofInt 64 1).toNat=1 by decide];have e:((2*(m:Int))%((2^64:Nat):Int)).toNat=2*m:=by omega
  rw[e];have:=Nat.two_pow_add_eq_or_of_lt (i:=1) (b:=1) (by omega) m;rw[Nat.pow_one]at this;omega
 show u64.wrap ((BitVec.ofInt 64 (2*(m:Int))|||BitVec.ofInt 64 1).toNat:Nat)=2*(m:Int)+1;rw[a,IntKind.wrap_u64];omega
theorem pY(w1:World)(b:Nat){l m n o:Int}(h:NB w1 b l m n o)(a c d e:Int):
  ∃f,f=(((w1.setCell ⟨b,0,none⟩ (jI jU a)).setCell ⟨b,1,none⟩ (jI jU c)).setCell ⟨b,2,none⟩ (jI jU d)).setCell ⟨b,3,none⟩ (jI jU e)/\NB f b a c d e/\
   (∀(b':Nat) (j x1 x2 k:Int),b'≠b->NB w1 b' j x1 x2 k->NB f b' j x1 x2 k)/\∀(B:Nat) (w0:World),Below B w0 w1->B<=b->Below B w0 f:=
 ⟨_,rfl,h.set a c d e,fun _ _ _ _ _ p g=>g.other p a c d e,fun _ _ g i=>fA g i a c d e⟩
theorem Yv(w1:World)(b:Nat){n g i j:Int}(h:NB w1 b n g i j)(k:Int):
  ∃a,a=w1.setCell ⟨b,0,none⟩ (jI jU k)/\NB a b k g i j/\
   (∀(b':Nat) (l x1 x2 m:Int),b'≠b->NB w1 b' l x1 x2 m->NB a b' l x1 x2 m)/\∀(B:Nat) (w0:World),Below B w0 w1->B<=b->Below B w0 a:=by
 refine⟨_,rfl,?_,fun b' _ _ _ _ o c=>?_,fun _ _ c d=>c.setCell d _⟩
 ·unfold NB at*;simp[qK,h,Array.getElem?_modify]
 ·unfold NB at*;have f:b≠b':=fun e=>o e.symm;simp[qK,c,Array.getElem?_modify,f]
theorem Ty{X:Nat}{o x1 x2 p:Int}(h:RN X o x1 x2 p)(r:Nat)(x:r<64):
  ((X/2^(64*0+r)%2:Nat):Int)=o/2^r%2/\((X/2^(64*1+r)%2:Nat):Int)=x1/2^r%2/\((X/2^(64*2+r)%2:Nat):Int)=x2/2^r%2/\((X/2^(64*3+r)%2:Nat):Int)=p/2^r%2:=by
 obtain⟨_,_,⟨t,y⟩,⟨u,z⟩,⟨v,A⟩,⟨w,B⟩,s⟩:=h;obtain⟨n,rfl⟩:=zY t;obtain⟨i,rfl⟩:=zY u;obtain⟨d,rfl⟩:=zY v;obtain⟨f,rfl⟩:=zY w;have e:X=n+2^64*(i+2^64*(d+2^64*f)):=by unfold num at s;omega
 have k:n<2^64:=by omega
 have l:i<2^64:=by omega
 have m:d<2^64:=by omega
 have j:∀a b:Nat,a<2^64->(a+2^64*b)/2^64=b:=fun a b h=>by omega
 have low:∀a b:Nat,a<2^64->(a+2^64*b)/2^r%2=a/2^r%2:=fun a b h=>by
  have g:(2:Nat)^64=2^r*(2*2^(63-r)):=by rw[<-Nat.pow_succ',<-yQ];congr 1;omega
  rw[g,qN,Nat.add_mul_div_left _ _ (Nat.two_pow_pos r),qN,Nat.add_mul_mod_self_left]
 have c:∀a:Nat,((a/2^r%2:Nat):Int)=(a:Int)/2^r%2:=fun a=>by
  rw[Int.natCast_emod,Int.natCast_ediv,Int.natCast_pow];rfl
 have e1:X/2^64=i+2^64*(d+2^64*f):=by rw[e];exact j _ _ k
 have e2:X/2^64/2^64=d+2^64*f:=by rw[e1];exact j _ _ l
 have q:X/2^64/2^64/2^64=f:=by rw[e2];exact j _ _ m
 refine⟨?_,?_,?_,?_⟩
 ·rw[Nat.mul_zero,qP,e,low _ _ k];exact c _
 ·rw[show 64*1+r=64+r by omega,yQ,<-qT,e1,low _ _ l];exact c _
 ·rw[show 64*2+r=64+64+r by omega,yQ,yQ,<-qT,<-qT,e2,low _ _ m];exact c _
 ·rw[show 64*3+r=64+64+64+r by omega,yQ,yQ,yQ,<-qT,<-qT,<-qT,q];exact c _
theorem RN.even{V:Nat}{a x1 x2 c:Int}(h:RN V a x1 x2 c):a%2=((V%2:Nat):Int):=by
 have b:=h.nm;unfold num at b;omega
theorem RN.succ{V:Nat}{a x1 x2 d:Int}(h:RN V a x1 x2 d)(e:V%2=0):RN (V+1) (a+1) x1 x2 d/\bits .or jU a 1=a+1:=by
 have e0:=h.even;rw[e]at e0;have f:=h.lt;have i:=h.nm;have g:=h.w0;obtain⟨j,k⟩:=g;have c:aU (a+1):=⟨by omega,by omega⟩;have b:num d x2 x1 (a+1)=((V+1:Nat):Int):=by unfold num at*;omega
 refine⟨⟨?_,by unfold bV at*;omega,c,h.w1,h.w2,h.w3,b⟩,aBy a h.w0 (by omega)⟩;rw[<-b,uV ⟨h.w3,h.w2,h.w1,c⟩];rfl
theorem Vu{c a Y b:Nat}(f:0<Y)(h:c=2*a+b)(j:b<2):
  (2*(a%Y)+b<Y->c/Y=2*(a/Y)/\c%Y=2*(a%Y)+b)/\(¬2*(a%Y)+b<Y->c/Y=2*(a/Y)+1/\c%Y=2*(a%Y)+b-Y):=by
 have e:=xQ a Y;have l:=yX a f;generalize a/Y=q at*;generalize a%Y=r at*;have e0:c=Y*(2*q)+(2*r+b):=by rw[h,<-e];grind
 constructor
 ·intro d;rw[e0];exact⟨by rw[Nat.mul_add_div f,Nat.div_eq_of_lt d,xZ],by rw[Nat.mul_add_mod,zP d]⟩
 ·intro i;have e1:c=Y*(2*q+1)+(2*r+b-Y):=by rw[e0,Nat.mul_add,Nat.mul_one];omega
  have g:2*r+b-Y<Y:=by omega
  rw[e1];exact⟨by rw[Nat.mul_add_div f,Nat.div_eq_of_lt g,xZ],by rw[Nat.mul_add_mod,zP g]⟩
theorem J9(X m:Nat):X*aE/2^m=2*(X*aE/2^(m+1))+X*aE/2^m%2:=by
 rw[yT,<-qT];omega
theorem aBu(X m:Nat)(h:m<192):X*aE/2^m%2=0:=by
 have e:aE=2^m*(2*2^(191-m)):=by rw[<-Nat.pow_succ',<-yQ];unfold aE;rw[show m+(191-m+1)=192 by omega]
 rw[e,<-qN,qH X,qN,Nat.mul_div_cancel_left _ (Nat.two_pow_pos m),<-qN,qH X,qN,Nat.mul_mod_right]
theorem J8(X m:Nat)(h:192<=m):X*aE/2^m=X/2^(m-192):=by
 have e:(2:Nat)^m=2^(m-192)*aE:=by
  have:aE=2^192:=by unfold aE;decide
  rw[this,<-yQ];congr 1;omega
 rw[e,Nat.mul_div_mul_right _ _ (by unfold aE;omega)]
structure QRel (w:World) (X Y:Nat) (x0 x1 x2 x3 y0 y1 y2 y3:Int) (v7:Value) (wr:World) (n:Nat):Prop where
 le:n<=448
 ix:v7=jI .i64 ((n:Int)-1)
 bx:NB wr w.heap.size x0 x1 x2 x3
 by_:NB wr (w.heap.size+1) y0 y1 y2 y3
 bz:NB wr (w.heap.size+1+1) 0 0 0 0
 q:∃q0 q1 q2 q3,RN (X*aE/2^n/Y) q0 q1 q2 q3/\NB wr (w.heap.size+1+1+1) q0 q1 q2 q3
 r:∃r0 r1 r2 r3,RN (X*aE/2^n%Y) r0 r1 r2 r3/\NB wr (w.heap.size+1+1+1+1) r0 r1 r2 r3
 bel:Below w.heap.size w wr
set_option exponentiation.threshold 500 in
theorem Qu(w:World)(n x1 x2 o p y1 y2 q:Int){X Y:Nat}(H:X<bV)(W:World)(f:W=((((w.alloc (jC #[jI jU n,jI jU x1,jI jU x2,jI jU o] 211)).alloc (jC #[jI jU p,jI jU y1,jI jU y2,jI jU q] 211)).alloc (jC #[jI jU 0,jI jU 0,jI jU 0,jI jU 0] 211)).alloc (jC #[jI jU 0,jI jU 0,jI jU 0,jI jU 0] 211)).alloc (jC #[jI jU 0,jI jU 0,jI jU 0,jI jU 0] 211)):
  QRel w X Y n x1 x2 o p y1 y2 q (jI .i64 447) W 448:=by
 obtain⟨a,j⟩:∃a,a=w.alloc (jC #[jI jU n,jI jU x1,jI jU x2,jI jU o] 211):=⟨_,rfl⟩;rw[<-j]at f;obtain⟨b,k⟩:∃b,b=a.alloc (jC #[jI jU p,jI jU y1,jI jU y2,jI jU q] 211):=⟨_,rfl⟩;rw[<-k]at f;obtain⟨c,l⟩:∃c,c=b.alloc (jC #[jI jU 0,jI jU 0,jI jU 0,jI jU 0] 211):=⟨_,rfl⟩;rw[<-l]at f;obtain⟨d,m⟩:∃d,d=c.alloc (jC #[jI jU 0,jI jU 0,jI jU 0,jI jU 0] 211):=⟨_,rfl⟩;rw[<-m]at f;have s1:a.heap.size=w.heap.size+1:=by rw[j];simp
 have x:b.heap.size=w.heap.size+1+1:=by rw[k];simp[s1]
 have y:c.heap.size=w.heap.size+1+1+1:=by rw[l];simp[x]
 have I:d.heap.size=w.heap.size+1+1+1+1:=by rw[m];simp[y]
 have A:NB a w.heap.size n x1 x2 o:=by rw[j];exact heap_alloc_new w _
 have B:NB b (w.heap.size+1) p y1 y2 q:=by rw[k,<-s1];exact heap_alloc_new a _
 have D:NB c (w.heap.size+1+1) 0 0 0 0:=by rw[l,<-x];exact heap_alloc_new b _
 have E:NB d (w.heap.size+1+1+1) 0 0 0 0:=by rw[m,<-y];exact heap_alloc_new c _
 have G:NB W (w.heap.size+1+1+1+1) 0 0 0 0:=by rw[f,<-I];exact heap_alloc_new d _
 have z:Below w.heap.size w a:=by rw[j];exact(zD _ _).alloc (zC _) _
 have u:Below a.heap.size a b:=by rw[k];exact(zD _ _).alloc (zC _) _
 have r:Below b.heap.size b c:=by rw[l];exact(zD _ _).alloc (zC _) _
 have i:Below c.heap.size c d:=by rw[m];exact(zD _ _).alloc (zC _) _
 have g:Below d.heap.size d W:=by rw[f];exact(zD _ _).alloc (zC _) _
 have v:X*aE/2^448=0:=by
  refine Nat.div_eq_of_lt ?_;have h:=Nat.mul_lt_mul_of_pos_right H (show 0<aE by unfold aE;omega);have e:bV*aE=2^448:=by unfold bV aE;decide
  omega
 have s:X*aE/2^448/Y=0:=by rw[v,Nat.zero_div]
 have t:X*aE/2^448%Y=0:=by rw[v,Nat.zero_mod]
 refine⟨zC _,rfl,(((A.next u).next r).next i).next g,((B.next r).next i).next g,(D.next i).next g,⟨0,0,0,0,by rw[s];exact CG,E.next g⟩,⟨0,0,0,0,by rw[t];exact CG,G⟩,?_⟩;exact(((z.trans (u.mono (by omega))).trans (r.mono (by omega))).trans (i.mono (by omega))).trans (g.mono (by omega))
structure QStep (X Y m:Nat) (x0 x1 x2 x3 y0 y1 y2 y3 q0 q1 q2 q3 r0 r1 r2 r3 I:Int) (b d0 d1 d2 d3 e0 g0 g1 g2 g3 h0 h1 h2 h3:Int) (lb:Bool):Prop where
 bit:(I<192/\b=0)\/((b=0\/b=1)/\192<=I/\(((I-192).tdiv 64=0/\bits .and jU (x0/2^((I-192)%64).toNat) 1=b)\/((I-192).tdiv 64=1/\bits .and jU (x1/2^((I-192)%64).toNat) 1=b)\/((I-192).tdiv 64=2/\bits .and jU (x2/2^((I-192)%64).toNat) 1=b)\/((I-192).tdiv 64=3/\bits .and jU (x3/2^((I-192)%64).toNat) 1=b)))
 tr:∀w,Calls zB 188 #[jA #[jI jU r0,jI jU r1,jI jU r2,jI jU r3]] w (GQ (jA #[jI jU d0,jI jU d1,jI jU d2,jI jU d3]) w)
 tq:∀w,Calls zB 188 #[jA #[jI jU q0,jI jU q1,jI jU q2,jI jU q3]] w (GQ (jA #[jI jU g0,jI jU g1,jI jU g2,jI jU g3]) w)
 z:b=0->e0=d0
 o:b=1->bits .or jU d0 1=e0
 less:∀w,Calls zB 184 #[jA #[jI jU e0,jI jU d1,jI jU d2,jI jU d3],jA #[jI jU y0,jI jU y1,jI jU y2,jI jU y3]] w (GQ (.bool lb) w)
 min:lb=false->∀w,Calls zB 182 #[jA #[jI jU e0,jI jU d1,jI jU d2,jI jU d3],jA #[jI jU y0,jI jU y1,jI jU y2,jI jU y3]] w (GQ (jA #[jI jU h0,jI jU h1,jI jU h2,jI jU h3]) w)
 orq:bits .or jU g0 1=g0+1
 yes:lb=true->RN (X*aE/2^m/Y) g0 g1 g2 g3/\RN (X*aE/2^m%Y) e0 d1 d2 d3
 no:lb=false->RN (X*aE/2^m/Y) (g0+1) g1 g2 g3/\RN (X*aE/2^m%Y) h0 h1 h2 h3
theorem Zv{X Y m:Nat}{J x1 x2 K y0 y1 y2 y3 R U V Z r0 r1 r2 r3 I:Int}(Q:RN X J x1 x2 K)(H:RN Y y0 y1 y2 y3)(O:0<Y)(a3:Y<4*aE)(hq:X*aE/Y<bV)(hm:m+1<=448)(hI:I=(m:Int))(hQ:RN (X*aE/2^(m+1)/Y) R U V Z)(hR:RN (X*aE/2^(m+1)%Y) r0 r1 r2 r3):
  ∃b i d1 d2 d3 e0 r s t u v x y h3 lb,QStep X Y m J x1 x2 K y0 y1 y2 y3 R U V Z r0 r1 r2 r3 I b i d1 d2 d3 e0 r s t u v x y h3 lb:=by
 have N:=J9 X m;have o:X*aE/2^m%2<2:=yX _ (by omega);have e:=aBu X m;have a:=J8 X m;have a2:X*aE/2^m/Y<=X*aE/Y:=xH (abX _ _);obtain⟨f,d⟩:=Vu O N o;have a1:X*aE/2^(m+1)%Y<Y:=yX _ O;have a4:=H.lt;generalize k:X*aE/2^m%2=β at*;have j:(I<192/\(β:Int)=0)\/(((β:Int)=0\/(β:Int)=1)/\192<=I/\(((I-192).tdiv 64=0/\bits .and jU (J/2^((I-192)%64).toNat) 1=(β:Int))\/((I-192).tdiv 64=1/\bits .and jU (x1/2^((I-192)%64).toNat) 1=(β:Int))\/((I-192).tdiv 64=2/\bits .and jU (x2/2^((I-192)%64).toNat) 1=(β:Int))\/((I-192).tdiv 64=3/\bits .and jU (K/2^((I-192)%64).toNat) 1=(β:Int)))):=by
  rcases qJ m 192 with h|h
  ·exact .inl ⟨by omega,by rw[e h];rfl⟩
  ·right;refine⟨by omega,by omega,?_⟩;have e1:=a h;rw[e1]at k;have er:((I-192)%64).toNat=(m-192)%64:=by omega
   rw[er];obtain⟨w0,w1,w2,w3⟩:=Ty Q ((m-192)%64) (yX _ (by omega));have et:(I-192).tdiv 64=(((m-192)/64:Nat):Int):=by
    rw[Int.tdiv_eq_ediv_of_nonneg (by omega)];omega
   have c:=xQ (m-192) 64;have h3:(m-192)/64=0\/(m-192)/64=1\/(m-192)/64=2\/(m-192)/64=3:=by omega
   rw[et,DA,DA,DA,DA];rcases h3 with h3|h3|h3|h3
   ·rw[h3]at c;rw[c,k]at w0;exact .inl ⟨by rw[h3];rfl,w0.symm⟩
   ·rw[h3]at c;rw[c,k]at w1;exact .inr (.inl ⟨by rw[h3];rfl,w1.symm⟩)
   ·rw[h3]at c;rw[c,k]at w2;exact .inr (.inr (.inl ⟨by rw[h3];rfl,w2.symm⟩))
   ·rw[h3]at c;rw[c,k]at w3;exact .inr (.inr (.inr ⟨by rw[h3];rfl,w3.symm⟩))
 clear N e a k Q;generalize X*aE/2^(m+1)%Y=R1 at*;generalize X*aE/2^(m+1)/Y=L at*;generalize l:X*aE/2^m/Y=Q0 at*;generalize n:X*aE/2^m%Y=R0 at*;generalize X*aE/Y=QQ at*;have h4:4*aE*2+2<=bV:=by unfold aE bV;omega
 have a0:0<bV:=by omega
 obtain⟨i,d1,d2,d3,z⟩:=dA (2*R1) (by omega);have q:2*L<bV:=by
  rcases qJ (2*R1+β) Y with g|g
  ·have:=(f g).1;omega
  ·have:=(d (by omega)).1;omega
 obtain⟨r,s,t,u,D⟩:=dA (2*L) q;obtain⟨A,G⟩:=z.succ (by omega);obtain⟨E,p⟩:=D.succ (by omega);obtain⟨v,x,y,h3,M⟩:=dA (2*R1+β-Y) (by omega);have B:RN (2*R1+β) (i+(β:Int)) d1 d2 d3:=by
  rcases(show β=0\/β=1 by omega)with rfl|rfl
  ·rw[xZ,show i+((0:Nat):Int)=i by omega];exact z
  ·exact A
 refine⟨β,i,d1,d2,d3,i+(β:Int),r,s,t,u,v,x,y,h3,decide (2*R1+β<Y),j,fun w=>MW hR z (by rw[<-Nat.two_mul];exact zP (by omega)) w,fun w=>MW hQ D (by rw[<-Nat.two_mul];exact zP q) w,fun h=>by omega,fun h=>by rw[h];exact G,fun w=>E6 B H w,fun h w=>EU B H M ?_ w,p,fun h=>?_,fun h=>?_⟩
 ·have:=of_decide_eq_false h;rw[show 2*R1+β+bV-Y=(2*R1+β-Y)+bV by omega,aaQ];exact zP (by omega)
 ·have g:=of_decide_eq_true h;obtain⟨e1,e2⟩:=f g;rw[l,n,e1,e2];exact⟨D,B⟩
 ·have g:=of_decide_eq_false h;obtain⟨e1,e2⟩:=d g;rw[l,n,e1,e2];exact⟨E,M⟩
theorem Gr{X Y C:Nat}{x0 x1 x2 x3 y0 y1 y2 y3 c0 c1 c2 c3:Int}(hx:RN X x0 x1 x2 x3)(hy:RN Y y0 y1 y2 y3)(hY:0<Y)(a6:Y<4*aE)(hq:X*aE/Y<bV)(hc:RN C c0 c1 c2 c3)(e:X*aE/Y=C)(w:World):
    Calls zB 181 #[jA #[jI jU x0,jI jU x1,jI jU x2,jI jU x3],jA #[jI jU y0,jI jU y1,jI jU y2,jI jU y3]] w (GQ (jA #[jI jU c0,jI jU c1,jI jU c2,jI jU c3]) w):=by
  have HX:=zA hx
  have HY:=zA hy
  have HP:=zA hY
  have H4:=zA a6
  have H:=zA hq
  have b6:=zA hc
  have HE:=zA e
  obtain⟨W,hW⟩:∃W,W=((((w.alloc (jC #[jI jU x0,jI jU x1,jI jU x2,jI jU x3] 211)).alloc (jC #[jI jU y0,jI jU y1,jI jU y2,jI jU y3] 211)).alloc (jC #[jI jU 0,jI jU 0,jI jU 0,jI jU 0] 211)).alloc (jC #[jI jU 0,jI jU 0,jI jU 0,jI jU 0] 211)).alloc (jC #[jI jU 0,jI jU 0,jI jU 0,jI jU 0] 211):=⟨_,rfl⟩
  have HS:=zA (Qu (Y:=Y) w x0 x1 x2 x3 y0 y1 y2 y3 hx.lt W hW)
  clear hx hy hY a6 hq hc e
  go_enter Tryz.func181,Tryz.ntmps181
  go_upto_region 2 with fail
  rw[<-hW]
  clear hW
  go_wp2_with fail
  go_loopw [7] (fun v7 wr=>∃n,QRel w X Y x0 x1 x2 x3 y0 y1 y2 y3 v7 wr n) (fun v7 _=>(intOf v7+1).toNat)
  case atStart=>exact⟨448,HS.out⟩
  case round=>
    clear HS
    obtain⟨n,hn,rfl,bx,by_,R,⟨q0,q1,q2,q3,U,bq⟩,⟨r0,r1,r2,r3,hR,br⟩,hb⟩:=hrel
    rcases yF n with hn0|hn0
    · subst hn0
      have V:X*aE/2^0/Y=C:=by rw[Nat.pow_zero,Nat.div_one];exact HE.out
      rw[V]at U
      have e2:Value.agg #[jI jU q0,jI jU q1,jI jU q2,jI jU q3]=jA #[jI jU c0,jI jU c1,jI jU c2,jI jU c3]:=by rw[<-U.eq,<-b6.out.eq]
      have b7:=zA e2
      obtain⟨⟨g,h,i,j⟩,_⟩:=bq.keep
      obtain⟨_,a,c,d,f⟩:=R.keep
      have S1:=R.set q0 q1 q2 q3
      obtain⟨⟨p0,p1,p2,p3⟩,_⟩:=S1.keep
      have HF:=zA (fA hb (by omega) q0 q1 q2 q3:Below w.heap.size w (UF wr (w.heap.size+1+1) q0 q1 q2 q3))
      unfold UF at p0 p1 p2 p3 HF
      clear e2 U V hR hb S1 bx by_ R bq br
      go_wp2_with fail
      refine bodyPost_ret (v:=jA #[jI jU q0,jI jU q1,jI jU q2,jI jU q3]) (by simp[results,Tryz.results181,go_sem,p0,p1,p2,p3]) rfl ⟨by rw[b7.out],HF.out⟩
    · obtain ⟨m,rfl⟩:∃m,n=m+1:=⟨n-1,by omega⟩
      obtain⟨I,hI⟩:∃I:Int,I=(((m+1:Nat):Int)-1):=⟨_,rfl⟩
      have i1:I=(m:Int):=by omega
      rw[<-hI]
      have a0:0<=I:=by omega
      have a1:I<=447:=by omega
      obtain⟨b,d0,d1,d2,d3,e0,g0,g1,g2,g3,h0,h1,h2,h3,lb,hs⟩:=Zv HX.out HY.out HP.out H4.out H.out hn i1 U hR
      obtain⟨u,b3,b2,hz,ho,a7,a9,b1,b4,b0⟩:=hs
      have D:=zA u
      have c6:=zA b3
      have c5:=zA b2
      have HZ:=zA hz
      have HO:=zA ho
      have b8:=zA a7
      have b9:=zA a9
      have c4:=zA b1
      have J:=zA b4
      have G:=zA b0
      have E:=zA i1
      have HN:=zA hn
      have HB:=zA hb
      have BX:=zA bx
      have BY:=zA by_
      have BZ:=zA R
      have BQ:=zA bq
      have BR:=zA br
      clear u b3 b2 hz ho a7 a9 b1 b4 b0 hI i1 hn U hR hb bx by_ R bq br hn0 HX HY HP H4 H
      obtain⟨⟨g,h,i,j⟩,a,c,d,f⟩:=BR.out.keep
      go_wp2_with fail
      refine(c6.out _).mono ?_
      rintro e w1 ⟨rfl,k⟩
      clear g h i j a c d f
      obtain⟨W2,Z,R2,K,B2⟩:=pY w1 _ (BR.out.next k) d0 d1 d2 d3
      have X2:=zA (K _ _ _ _ _ (by omega) (BX.out.next k))
      have Y2:=zA (K _ _ _ _ _ (by omega) (BY.out.next k))
      have Z2:=zA (K _ _ _ _ _ (by omega) (BZ.out.next k))
      have Q2:=zA (K _ _ _ _ _ (by omega) (BQ.out.next k))
      have R2:=zA R2
      have x:=zA (B2 _ _ (HB.out.trans (k.mono HB.out.size)) (by omega))
      obtain⟨⟨g,h,i,j⟩,a,c,d,f⟩:=(BR.out.next k).keep
      clear k K B2 BX BY BZ BQ BR HB
      go_upto_region 6 with fail
      rw[<-Z]
      clear Z g h i j a c d f
      have c7:i64.wrap (I-192)=I-192:=by rw[IntKind.wrap_i64];omega
      have c8:i64.wrap (I-1)=I-1:=by rw[IntKind.wrap_i64];omega
      obtain⟨⟨l0,l1,l2,l3⟩,_⟩:=X2.out.keep
      obtain⟨⟨g,h,i,j⟩,a,c,d,f⟩:=R2.out.keep
      obtain⟨W3,a2,R3,z,B3⟩:=Yv W2 _ R2.out e0
      have z:=zA z
      have B3:=zA B3
      have R3:=zA R3
      rcases D.out with⟨t,rfl⟩|⟨rfl|rfl,t,⟨hj,s⟩|⟨hj,s⟩|⟨hj,s⟩|⟨hj,s⟩⟩
      all_goals (
        try have A:=HO.out rfl
        go_upto_region 8 with fail
        first
          | (rw[<-a2]
             have R4:=R3
             have X4:=zA (z.out _ _ _ _ _ (by omega) X2.out)
             have Y4:=zA (z.out _ _ _ _ _ (by omega) Y2.out)
             have Z4:=zA (z.out _ _ _ _ _ (by omega) Z2.out)
             have O:=zA (z.out _ _ _ _ _ (by omega) Q2.out)
             have q:=zA (B3.out _ _ x.out (by omega))
             clear A)
          | (have R4:=zA (show NB W2 (w.heap.size+1+1+1+1) e0 d1 d2 d3 by rw[HZ.out rfl];exact R2.out)
             have X4:=X2
             have Y4:=Y2
             have Z4:=Z2
             have O:=Q2
             have q:=x)
        clear a2 z B3 R3 l0 l1 l2 l3 g h i j a c d f X2 Y2 Z2 Q2 R2 x D HZ HO t
        try clear hj s
        obtain⟨⟨g,h,i,j⟩,a,c,d,f⟩:=O.out.keep
        go_wp2_with fail
        refine(c5.out _).mono ?_
        rintro e w5 ⟨rfl,l⟩
        clear g h i j a c d f
        obtain⟨W6,a3,Q6,L,B6⟩:=pY w5 _ (O.out.next l) g0 g1 g2 g3
        have X6:=zA (L _ _ _ _ _ (by omega) (X4.out.next l))
        have Y6:=zA (L _ _ _ _ _ (by omega) (Y4.out.next l))
        have Z6:=zA (L _ _ _ _ _ (by omega) (Z4.out.next l))
        have R6:=zA (L _ _ _ _ _ (by omega) (R4.out.next l))
        have Q6:=zA Q6
        have y:=zA (B6 _ _ (q.out.trans (l.mono q.out.size)) (by omega))
        obtain⟨⟨g,h,i,j⟩,a,c,d,f⟩:=(O.out.next l).keep
        clear l L B6 X4 Y4 Z4 R4 O q
        go_upto_region 9 with fail
        rw[<-a3]
        clear a3 g h i j a c d f
        obtain⟨⟨g,h,i,j⟩,a,c,d,f⟩:=R6.out.keep
        obtain⟨⟨l0,l1,l2,l3⟩,_⟩:=Y6.out.keep
        go_wp2_with fail
        refine(b8.out _).mono ?_
        rintro e w7 ⟨rfl,p⟩
        have X7:=zA (X6.out.next p)
        have Y7:=zA (Y6.out.next p)
        have Z7:=zA (Z6.out.next p)
        have Q:=zA (R6.out.next p)
        have Q7:=zA (Q6.out.next p)
        have r:=zA (y.out.trans (p.mono y.out.size))
        clear p X6 Y6 Z6 R6 Q6 y g h i j a c d f l0 l1 l2 l3
        cases lb with
        |true=>
          go_wp2_with fail
          go_roundw
          case rel=>exact⟨m,by have:=HN.out;omega,by rw[E.out],X7.out,Y7.out,Z7.out,⟨_,_,_,_,(J.out (by simp)).1,Q7.out⟩,⟨_,_,_,_,(J.out (by simp)).2,Q.out⟩,r.out⟩
          case measure=>simp only[intOf];omega
        |false=>
          obtain⟨⟨g,h,i,j⟩,a,c,d,f⟩:=Q.out.keep
          obtain⟨⟨l0,l1,l2,l3⟩,_⟩:=Y7.out.keep
          go_wp2_with fail
          refine(b9.out (by simp) _).mono ?_
          rintro e w8 ⟨rfl,o⟩
          clear g h i j a c d f l0 l1 l2 l3
          obtain⟨W9,a4,R9,M,B9⟩:=pY w8 _ (Q.out.next o) h0 h1 h2 h3
          have X9:=zA (M _ _ _ _ _ (by omega) (X7.out.next o))
          have Y9:=zA (M _ _ _ _ _ (by omega) (Y7.out.next o))
          have Z9:=zA (M _ _ _ _ _ (by omega) (Z7.out.next o))
          have Q9:=zA (M _ _ _ _ _ (by omega) (Q7.out.next o))
          have R9:=zA R9
          have B:=zA (B9 _ _ (r.out.trans (o.mono r.out.size)) (by omega))
          obtain⟨⟨g,h,i,j⟩,a,c,d,f⟩:=(Q.out.next o).keep
          clear o M B9 X7 Y7 Z7 Q Q7 r
          go_upto_region 11 with fail
          rw[<-a4]
          clear a4 g h i j a c d f
          obtain⟨⟨g,h,i,j⟩,a,c,d,f⟩:=Q9.out.keep
          obtain⟨Wa,a5,Qa,N,Ba⟩:=Yv W9 _ Q9.out (g0+1)
          have A:=c4.out
          have Xa:=zA (N _ _ _ _ _ (by omega) X9.out)
          have Ya:=zA (N _ _ _ _ _ (by omega) Y9.out)
          have Za:=zA (N _ _ _ _ _ (by omega) Z9.out)
          have Ra:=zA (N _ _ _ _ _ (by omega) R9.out)
          have Qa:=zA Qa
          have b5:=zA (Ba _ _ B.out (by omega))
          clear X9 Y9 Z9 Q9 R9 B N Ba
          go_upto_region 4 with fail
          rw[<-a5]
          clear a5 A g h i j a c d f
          go_wp2_with fail
          go_roundw
          case rel=>exact⟨m,by have:=HN.out;omega,by rw[E.out],Xa.out,Ya.out,Za.out,⟨_,_,_,_,(G.out (by simp)).1,Qa.out⟩,⟨_,_,_,_,(G.out (by simp)).2,Ra.out⟩,b5.out⟩
          case measure=>simp only[intOf];omega)
end
section
open Go.RowKit
attribute [local go_sem] Oper.semAt_some
theorem t6(a b c d e f g h:Int)(w:World):(Op.equalIn 10000 211 (jA #[jI jU a,jI jU b,jI jU c,jI jU d]) (jA #[jI jU e,jI jU f,jI jU g,jI jU h])).run zB w=.ok (a==e&&(b==f&&(c==g&&d==h))) w:=by
 have u3:=Tryz.underlying209;have m:=Tryz.isAgg209;have n:=Tryz.sizeOf209;rw[show(10000:Nat)=9999+1 from rfl,Op.equalIn];simp only[Sem.run_bind,run_underlying Tryz.underlying211,Result.andThen_ok];simp only[Std.Legacy.Range.forIn_eq_forIn_range',Std.Legacy.Range.size,Nat.sub_zero,Nat.add_sub_cancel,Nat.div_one,List.range'_succ,List.range'_zero,List.forIn_cons,List.forIn_nil];go_simp
 by_cases i:a=e<;>by_cases j:b=f<;>by_cases k:c=g<;>by_cases l:d=h<;>simp[i,j,k,l]
def DP:Nat->Nat->Nat->Nat->Nat->Nat
 | 0,P,_,_,_=>P
 |f+1,P,t,q,k=>if t=0 then P else DP f ((P+t/k)%bV) (t*q/aE%bV) q (k+2)
def wL(z:Nat):Nat:=DP 300 0 z (z*z/aE) 1
theorem sV{t q:Nat}(a:2*q<=aE):2*(t*q/aE)<=t:=by
 have h:=qD t a;have e:t*q/aE*2<=t*q*2/aE:=by
  refine(Nat.le_div_iff_mul_le (by unfold aE;omega)).2 ?_;have:=xL (t*q) aE;calc t*q/aE*2*aE=t*q/aE*aE*2:=by rw[qN,qH 2,<-qN]
   _<=t*q*2:=zR 2 this
 have:t*q*2/aE<=t:=by
  refine yR ?_;rw[qH aE];calc t*q*2=t*(2*q):=by rw[qN,qH q 2]
   _<=t*aE:=h
 omega
theorem Iy{q U:Nat}(a:2*q<=aE)(b:U<bV):∀(f P t k:Nat),1<=k->P+2*t<=U->DP f P t q k<=U
 | 0,P,t,k,_,h=>by unfold DP;omega
 |f+1,P,t,k,e,h=>by
  unfold DP;split
  ·omega
  ·have c:=sV (t:=t) a;have d:t/k<=t:=abX _ _;rw[zP (show P+t/k<bV by omega),zP (show t*q/aE<bV by omega)];exact Iy a b f _ _ (k+2) (by omega) (by omega)
theorem UD{z:Nat}(h:2*z<=aE):2*(z*z/aE)<=aE:=by
 have:=sV (t:=z) h;omega
theorem GT{z:Nat}(h:2*z<=aE):wL z<=2*z:=Iy (UD h) (by unfold aE at h;unfold bV;omega) 300 0 z 1 (zC _) (by omega)
structure ARel (w:World) (b3 z S R:Nat) (v5 v6:Value) (wr:World) (j:Nat):Prop where
 le:j<=200
 k:v6=jI jU ((1+2*j:Nat):Int)
 bz:NB wr (w.heap.size+1) 0 0 0 0
 bs:∃s0 s1 s2 s3,RN S s0 s1 s2 s3/\NB wr b3 s0 s1 s2 s3
 st:∃P T b5 p0 p1 p2 p3 t0 t1 t2 t3,v5=.pointer (some ⟨b5,0,none⟩)/\b3+1<b5/\RN P p0 p1 p2 p3/\NB wr (b3+1) p0 p1 p2 p3/\RN T t0 t1 t2 t3/\NB wr b5 t0 t1 t2 t3/\T*2^j<=z/\DP (300-j) P T S (1+2*j)=R
 bel:Below w.heap.size w wr
theorem NO(w:World)(X Y Z:Array Value)(W:World)(b:W=((w.alloc (jC X 211)).alloc (jC Y 211)).alloc (jC Z 211)):
  Below w.heap.size w W/\W.heap[w.heap.size]? =some (jC X 211 (0,0))/\W.heap[w.heap.size+ 1]? =some (jC Y 211 (0,0))/\W.heap[w.heap.size+1+ 1]? =some (jC Z 211 (0,0)):=by
 obtain⟨V,e⟩:∃V,V=(w.alloc (jC X 211)).alloc (jC Y 211):=⟨_,rfl⟩;obtain⟨d,f,g,h⟩:=CW w X Y V e;rw[<-e]at b;have c:Below V.heap.size V W:=by rw[b];exact(zD _ _).alloc (zC _) _
 have a:=heap_alloc_new V (jC Z 211);rw[<-b,h]at a;exact⟨d.trans (c.mono d.size),(c.block _ (by omega)).trans f,(c.block _ (by omega)).trans g,a⟩
theorem Zx{z C:Nat}{z0 z1 z2 z3 c0 c1 c2 c3:Int}(L:RN z z0 z1 z2 z3)(hh:2*z<=aE)(hc:RN C c0 c1 c2 c3)(e:wL z=C)(w:World):
    Calls zB 186 #[jA #[jI jU z0,jI jU z1,jI jU z2,jI jU z3]] w (GQ (jA #[jI jU c0,jI jU c1,jI jU c2,jI jU c3]) w):=by
  have J:=UD hh
  obtain⟨s0,s1,s2,s3,q⟩:=dA (z*z/aE) (by unfold aE at J ⊢;unfold bV;omega)
  have a4:=zA (fun w=>MV L L q (zP q.lt) w)
  obtain⟨W,hW⟩:∃W,W=(w.alloc (jC #[jI jU z0,jI jU z1,jI jU z2,jI jU z3] 211)).alloc (jC #[jI jU 0,jI jU 0,jI jU 0,jI jU 0] 211):=⟨_,rfl⟩
  obtain⟨p,h0,h1,N⟩:=CW w _ _ W hW
  have y:=zA p
  have H0:=zA (show NB W w.heap.size z0 z1 z2 z3 from h0)
  have H1:=zA (show NB W (w.heap.size+1) 0 0 0 0 from h1)
  have c7:=zA N
  have HZ:=zA L
  have HC:=zA hc
  have HE:=zA e
  have D:=zA q
  have u:=zA J
  have HH:=zA hh
  obtain⟨S,g⟩:∃S,S=z*z/aE:=⟨_,rfl⟩
  have c4:=zA g
  rw[<-g]at D u
  clear L hh hc e J q p h0 h1 N g
  go_enter Tryz.func186,Tryz.ntmps186
  go_upto_region 1 with fail
  rw[<-hW]
  clear hW
  obtain⟨⟨k0,k1,k2,k3⟩,_⟩:=H0.out.keep
  go_wp2_with fail
  refine(a4.out _).mono ?_
  rintro e M ⟨rfl,r⟩
  clear k0 k1 k2 k3
  have Z1:=zA (H0.out.next r)
  have R1:=zA (H1.out.next r)
  have A:=zA (y.out.trans (r.mono y.out.size))
  have b4:w.heap.size+1<M.heap.size:=R1.out.lt
  have b6:w.heap.size<M.heap.size:=by omega
  obtain⟨⟨k0,k1,k2,k3⟩,_⟩:=Z1.out.keep
  obtain⟨V,hV⟩:∃V,V=((M.alloc (jC #[jI jU s0,jI jU s1,jI jU s2,jI jU s3] 211)).alloc (jC #[jI jU 0,jI jU 0,jI jU 0,jI jU 0] 211)).alloc (jC #[jI jU z0,jI jU z1,jI jU z2,jI jU z3] 211):=⟨_,rfl⟩
  obtain⟨I,v0,v1,v2⟩:=NO M _ _ _ V hV
  have c:=zA (show ARel w M.heap.size z S C (.pointer (some ⟨M.heap.size+1+1,0,none⟩)) (jI jU 1) V 0 from
    ⟨by omega,rfl,R1.out.next I,⟨_,_,_,_,D.out,v0⟩,⟨0,z,_,_,_,_,_,_,_,_,_,rfl,by omega,CG,v1,HZ.out,v2,by omega,by have:=HE.out;unfold wL at this;rw[<-c4.out]at this;exact this⟩,A.out.trans (I.mono A.out.size)⟩)
  clear r H0 H1 y I v0 v1 v2 D Z1 R1 A HE HZ a4
  go_upto_region 4 with fail
  rw[<-hV]
  obtain⟨o,H⟩:∃b,b=M.heap.size:=⟨_,rfl⟩
  rw[<-H]at c ⊢
  have m:=zA (show w.heap.size+1<o by rw[H];exact b4)
  clear hV H b4 b6 k0 k1 k2 k3
  go_wp2_with fail
  go_loopw [5,6] (fun v5 v6 wr=>∃j,ARel w o z S C v5 v6 wr j) (fun _ v6 _=>1000-L8 v6)
  case atStart=>exact⟨0,c.out⟩
  case round=>
    clear c
    obtain⟨j,hj,rfl,bz,⟨s0,s1,s2,s3,q,bs⟩,⟨P,T,b5,X,Y,Z,p3,t0,t1,t2,t3,rfl,b1,hP,bp,E,bt,a9,a⟩,p⟩:=hrel
    have HS:=zA q
    have HP:=zA hP
    have HT:=zA E
    have HA:=zA a
    have y:=zA p
    have BZ:=zA bz
    have BS:=zA bs
    have BP:=zA bp
    have BT:=zA bt
    have h5:=b1
    have h3:=m.out
    obtain⟨⟨k0,k1,k2,k3⟩,_⟩:=bt.keep
    have d:=E.zero
    rcases yF T with h0|h0
    · subst h0
      have a5:P=C:=by
        obtain⟨f,hf⟩:∃f,300-j=f+1:=⟨299-j,by omega⟩
        rw[hf,DP,if_pos rfl]at a
        exact a
      have HE:∀wr:World,(Op.equalIn 10000 211 (jA #[jI jU t0,jI jU t1,jI jU t2,jI jU t3]) (jA #[jI jU 0,jI jU 0,jI jU 0,jI jU 0])).run zB wr=.ok true wr:=fun wr=>by rw[t6,d];rfl
      have b9:=zA (show Value.agg #[jI jU X,jI jU Y,jI jU Z,jI jU p3]=jA #[jI jU c0,jI jU c1,jI jU c2,jI jU c3] by rw[<-hP.eq,<-HC.out.eq,a5])
      obtain⟨⟨m0,m1,m2,m3⟩,_⟩:=bp.keep
      obtain⟨_,f0,f1,f2,f3⟩:=bz.keep
      have S1:=bz.set X Y Z p3
      obtain⟨⟨q0,q1,q2,q3⟩,_⟩:=S1.keep
      have HF:=zA (fA p (by omega) X Y Z p3:Below w.heap.size w (UF wr (w.heap.size+1) X Y Z p3))
      unfold UF at q0 q1 q2 q3 HF
      clear d a5 a a9 q hP E p bz bs bp bt S1 h5 h3 b1 hj
      go_wp2
      refine bodyPost_ret (v:=jA #[jI jU X,jI jU Y,jI jU Z,jI jU p3]) (by simp[results,Tryz.results186,go_sem,q0,q1,q2,q3]) rfl ⟨by rw[b9.out],HF.out⟩
    · have b2:j<200:=by
        rcases qJ j 200 with h|h
        · exact h
        · exfalso
          have h1:2^200<=2^j:=yS (by omega) h
          have h2:1*2^j<=T*2^j:=zR _ h0
          have h3:(2:Nat)^200=1606938044258990275541962092341162602522202993782792835301376:=by decide
          have h4:=HH.out
          unfold aE at h4
          omega
      have HE:∀wr:World,(Op.equalIn 10000 211 (jA #[jI jU t0,jI jU t1,jI jU t2,jI jU t3]) (jA #[jI jU 0,jI jU 0,jI jU 0,jI jU 0])).run zB wr=.ok false wr:=fun wr=>by rw[t6,d,decide_eq_false (by omega)]
      have a7:T<bV:=E.lt
      have hU:=sV (t:=T) u.out
      obtain⟨u0,u1,u2,u3,G⟩:=dA (T*S/aE%bV) (yX _ (by unfold bV;omega))
      obtain⟨o0,o1,o2,o3,hO⟩:=dA (T/(1+2*j)) (yJ (abX _ _) a7)
      obtain⟨O,Q,R,U,hN⟩:=dA ((P+T/(1+2*j))%bV) (yX _ (by unfold bV;omega))
      have B:=zA (fun w=>uW (n:=1+2*j) E hO (by omega) (by omega) rfl w)
      have a0:=zA (fun w=>tV hP hO hN rfl w)
      have a2:=zA (fun w=>MV E q G rfl w)
      have x:DP (300-(j+1)) ((P+T/(1+2*j))%bV) (T*S/aE%bV) S (1+2*(j+1))=C:=by
        obtain⟨f,hf⟩:∃f,300-j=f+1:=⟨299-j,by omega⟩
        rw[hf,DP,if_neg (by omega)]at a
        rw[show 300-(j+1)=f by omega]
        exact a
      have a6:T*S/aE%bV*2^(j+1)<=z:=by
        have h1:T*S/aE%bV<=T*S/aE:=Nat.mod_le _ _
        have:T*S/aE%bV*2*2^j<=T*2^j:=zR _ (by omega)
        rw[yT,qH (2^j) 2,<-qN]
        omega
      have a3:=zA x
      have c5:=zA a6
      have c6:=zA G
      have HN:=zA hN
      obtain⟨K,hK⟩:∃K:Int,K=((1+2*j:Nat):Int):=⟨_,rfl⟩
      rw[<-hK]at B ⊢
      have HK:=zA hK
      have c9:0<=K:=by omega
      have d0:K<=401:=by omega
      have wk:u64.wrap (K+2)=K+2:=bG _ (by omega) (by omega)
      have b8:=zA b2
      clear d a a9 q hP E p bz bs bp h5 h3 hj b2 hU G hO hN x a6 a7 hK h0
      go_wp2_with fail
      obtain⟨⟨m0,m1,m2,m3⟩,f0,f1,f2,f3⟩:=BP.out.keep
      go_cut []from 16 to 20 (fun wx=>(NB wx (o+1) O Q R U/\NB wx b5 t0 t1 t2 t3)/\(NB wx o s0 s1 s2 s3/\NB wx (w.heap.size+1) 0 0 0 0)/\Below w.heap.size w wx)
      case first=>
        go_region_law (first
          | (go_simp
             go_at_call 185
             refine(B.out _).mono ?_
             rintro e w6 ⟨rfl,k⟩
             have P6:=zA ((show NB wr.drew (o+1) X Y Z p3 from BP.out).next k)
             have T6:=zA ((show NB wr.drew b5 t0 t1 t2 t3 from BT.out).next k)
             have S6:=zA ((show NB wr.drew o s0 s1 s2 s3 from BS.out).next k)
             have Z6:=zA ((show NB wr.drew (w.heap.size+1) 0 0 0 0 from BZ.out).next k)
             have B6:=zA (y.out.drew.trans (k.mono y.out.drew.size))
             obtain⟨⟨i0,i1,i2,i3⟩,_⟩:=P6.out.keep
             clear k)
          | (go_simp
             go_at_call 180
             refine(a0.out _).mono ?_
             rintro e w7 ⟨rfl,l⟩
             have P7:=P6.out.next l
             have P8:=zA (P7.set O Q R U)
             have T8:=zA ((T6.out.next l).other (b':=o+1) (by omega) O Q R U)
             have S8:=zA ((S6.out.next l).other (b':=o+1) (by omega) O Q R U)
             have Z8:=zA ((Z6.out.next l).other (b':=o+1) (by have:=m.out;omega) O Q R U)
             have B8:=zA (fA (B6.out.trans (l.mono B6.out.size)) (show w.heap.size<=o+1 by have:=m.out;omega) O Q R U)
             obtain⟨⟨x0,x1,x2,x3⟩,y0,y1,y2,y3⟩:=P7.keep
             clear l P7)
          |fail)
        all_goals (
          go_wp2_with fail
          go_meet
          exact⟨⟨P8.out,T8.out⟩,⟨S8.out,Z8.out⟩,B8.out⟩)
      case rest=>
        obtain⟨⟨hp,ht⟩,⟨N,L⟩,p⟩:=hcut
        have KT:=zA ht
        have KS:=zA N
        have KP:=zA hp
        have KZ:=zA L
        have KB:=zA p
        obtain⟨⟨i0,i1,i2,i3⟩,g0,g1,g2,g3⟩:=ht.keep
        obtain⟨⟨l0,l1,l2,l3⟩,_⟩:=N.keep
        clear hp ht N L p BP BT BS BZ y B a0 k0 k1 k2 k3 m0 m1 m2 m3 f0 f1 f2 f3
        go_wp2_with fail
        refine(a2.out _).mono ?_
        rintro e w8 ⟨rfl,i⟩
        obtain⟨W9,b0,T9,O9,B9⟩:=pY w8 _ (KT.out.next i) u0 u1 u2 u3
        have S9:=zA (O9 _ _ _ _ _ (by omega) (KS.out.next i))
        have P9:=zA (O9 _ _ _ _ _ (by omega) (KP.out.next i))
        have Z9:=zA (O9 _ _ _ _ _ (by have:=m.out;omega) (KZ.out.next i))
        have T9:=zA T9
        have a1:=zA (B9 _ _ (KB.out.trans (i.mono KB.out.size)) (by have:=m.out;omega))
        obtain⟨⟨x0,x1,x2,x3⟩,y0,y1,y2,y3⟩:=(KT.out.next i).keep
        clear i O9 B9 KT KS KP KZ KB i0 i1 i2 i3 g0 g1 g2 g3 l0 l1 l2 l3 a2
        go_upto_region 8 with fail
        rw[<-b0]
        clear b0 x0 x1 x2 x3 y0 y1 y2 y3
        obtain⟨⟨x0,x1,x2,x3⟩,_⟩:=T9.out.keep
        have c8:=T9.out.lt
        have b7:=zA (heap_alloc_new W9 (jC #[jI jU u0,jI jU u1,jI jU u2,jI jU u3] 211))
        have s:=zA ((zD W9.heap.size W9).alloc (zC _) (jC #[jI jU u0,jI jU u1,jI jU u2,jI jU u3] 211))
        go_wp2_with fail
        go_roundw
        case rel=>exact⟨j+1,by have:=b8.out;omega,by have:=HK.out;congr 1;omega,Z9.out.next s.out,⟨_,_,_,_,HS.out,S9.out.next s.out⟩,⟨_,_,_,_,_,_,_,_,_,_,_,rfl,by omega,HN.out,P9.out.next s.out,c6.out,b7.out,c5.out,a3.out⟩,a1.out.trans (s.out.mono a1.out.size)⟩
        case measure=>simp only[L8];omega
end
namespace Rh
def W:Nat:=6277101735386680763835789423207666416102355444464034512896
def PI:Nat:=19720096697726538562396133364228268891463450865190089732560
def tt(t q d:Nat):Nat:=t*q/W/d
theorem IQ{t b q a:Nat}(h:t<=b)(k:q<=a)(d:Nat):tt t q d<=tt b a d:=
 xH (xH (qM h k))
theorem CT{t q d:Nat}(b:q<=3*W)(a:6<=d):2*tt t q d<=t:=by
 unfold tt;have c:t*q/W<=3*t:=by
  refine yR ?_;have:=qD t b;rw[qH W];calc t*q<=t*(3*W):=this
   _=3*t*W:=by rw[<-qN,qH t 3]
 have e:=xL (t*q/W) d;have f:t*q/W/d*6<=t*q/W/d*d:=qD _ a;omega
def iN:Nat->Nat->Nat->Nat->Nat->Nat->Nat
 | 0,P,M,_,_,_=>P-M
 |f+1,P,M,t,q,k=>if t=0 then P-M else iN f (P+t) (M+tt t q (k*(k+1))) (tt (tt t q (k*(k+1))) q ((k+2)*(k+3))) q (k+4)
theorem six{k:Nat}(h:2<=k):6<=k*(k+1)/\6<=(k+2)*(k+3):=by
 have a:2*3<=k*(k+1):=qM h (by omega);have b:4*5<=(k+2)*(k+3):=qM (by omega) (by omega);exact⟨by omega,by omega⟩
theorem Nb{q U:Nat}(a:q<=3*W):∀(f P M t k:Nat),2<=k->M<=P->P-M+t<=U->iN f P M t q k<=U
 | 0,P,M,t,k,_,_,h=>by unfold iN;omega
 |f+1,P,M,t,k,b,g,h=>by
  unfold iN;split
  ·omega
  ·obtain⟨s1,c⟩:=six b;have d:=CT (t:=t) a s1;have e:=CT (t:=tt t q (k*(k+1))) a c;exact Nb a f _ _ _ (k+4) (by omega) (by omega) (by omega)
def xn(n:Nat):Nat:=PI*n/10800000
def t1(n:Nat):Nat:=tt (xn n) (xn n*xn n/W) 6
def t2(n:Nat):Nat:=tt (t1 n) (xn n*xn n/W) 20
def t3(n:Nat):Nat:=tt (t2 n) (xn n*xn n/W) 42
def t4(n:Nat):Nat:=tt (t3 n) (xn n*xn n/W) 72
theorem DF{a b:Nat}(h:a<=b):xn a<=xn b:=xH (qD _ h)
theorem MF{a b:Nat}(h:a<=b):xn a*xn a/W<=xn b*xn b/W:=xH (qM (DF h) (DF h))
theorem Nj{a b:Nat}(h:a<=b):t1 a<=t1 b:=IQ (DF h) (MF h) 6
theorem Nk{a b:Nat}(h:a<=b):t2 a<=t2 b:=IQ (Nj h) (MF h) 20
theorem Nl{a b:Nat}(h:a<=b):t3 a<=t3 b:=IQ (Nk h) (MF h) 42
theorem aBp{a b:Nat}(h:a<=b):t4 a<=t4 b:=IQ (Nl h) (MF h) 72
def ub(a b:Nat):Bool:=decide (xn b+t2 b+t4 b+W/131072<t1 a+t3 a+W)
def ups:Nat->List Nat->Bool
 |_,[]=>true
 |a,b::l=>ub a b&&ups b l
def aDf:List Nat:=[3410193,3940908,4222502,4403446,4531592,4627988,4703571,4764667,4815221,4857835,4894303,4925906,4953585,4978048,4999841,5019389,5037031,5053040,5067638,5081007,5093300,5104645,5115149,5124904,5133989,5142473,5150414,5157863,5164866,5171462,5177686,5183569,5189139,5194421,5199436,5204205,5208746,5213075,5217206,5221153,5224928,5228542,5232006,5235328,5238518,5241583,5244530,5247366,5250098,5252731,5255270,5257720,5260086,5262372,5264583,5266722,5268792,5270797,5272739,5274622,5276448,5278220,5279940,5281611,5283235,5284813,5286348,5287841,5289294,5290708,5292085,5293427,5294735,5296010,5297253,5298466,5299649,5300804,5301932,5303033,5304109,5305160,5306188,5307193,5308175,5309136,5310076,5310996,5311897,5312779,5313642,5314488,5315317,5316129,5316925,5317705,5318470,5319220,5319956,5320678,5321386,5322081,5322763,5323432,5324089,5324735,5325369,5325992,5326604,5327205,5327796,5328377,5328948,5329509,5330061,5330604,5331138,5331663,5332180,5332688,5333188,5333680,5334165,5334642,5335112,5335575,5336031,5336480,5336922,5337357,5337786,5338209,5338625,5339035,5339440,5339839,5340000]
theorem iB:ups 0 aDf=true:=by decide+kernel
theorem aEa(n:Nat)(l:List Nat):∀a:Nat,ups a l=true->a<=n->(∃b∈l,n<=b)->∃a b,a<=n/\n<=b/\ub a b=true:=by
 induction l with
 |nil=>intro a _ _ h;obtain⟨b,hb,_⟩:=h;cases hb
 |cons c l g=>
  intro a h f hb;rw[ups,Bool.and_eq_true]at h;rcases qJ c n with q|q
  ·refine g c h.2 (Nat.le_of_lt q) ?_;obtain⟨b,hb,d⟩:=hb;rcases List.mem_cons.1 hb with e|hb
   ·rw[e]at d;exact absurd q (Nat.not_lt.2 d)
   ·exact⟨b,hb,d⟩
  ·exact⟨a,c,f,q,h.1⟩
theorem aE6:5340000∈aDf:=by decide+kernel
theorem aCi:xn 5340000*xn 5340000/W<=3*W/\xn 5340000<=2*W:=by decide+kernel
theorem aCj{n:Nat}(h:n<=5340000):xn n*xn n/W<=3*W/\xn n<=2*W:=⟨zJ (MF h) aCi.1,zJ (DF h) aCi.2⟩
theorem aDN{n:Nat}(h:n<=5340000)(f:Nat):iN (f+2) 0 0 (xn n) (xn n*xn n/W) 2+W/131072<W:=by
 obtain⟨a,b,e,d,g⟩:=aEa n aDf 0 iB (Nat.zero_le _) ⟨5340000,aE6,h⟩;unfold ub at g;rw[decide_eq_true_eq]at g;have o:=DF d;have p:=Nj e;have q:=Nk d;have r:=Nl e;have s:=aBp d;obtain⟨c,_⟩:=aCj h;have j:2*t1 n<=xn n:=CT c (by omega);have k:2*t2 n<=t1 n:=CT c (by omega);have l:2*t3 n<=t2 n:=CT c (by omega);have m:2*t4 n<=t3 n:=CT c (by omega);have t:0<W-W/131072:=by decide+kernel
 have i:iN (f+2) 0 0 (xn n) (xn n*xn n/W) 2<=xn n+t2 n-t1 n-t3 n+t4 n:=by
  unfold iN;split
  ·omega
  ·show iN (f+1) (0+xn n) (0+t1 n) (t2 n) _ 6<=_;unfold iN;split
   ·omega
   ·show iN f (0+xn n+t2 n) (0+t1 n+t3 n) (t4 n) _ 10<=_;exact Nb c f _ _ _ 10 (by omega) (by omega) (by omega)
 omega
end Rh
section
open Go.RowKit
open Rh (iN tt xn CT six)
attribute [local go_sem] Oper.semAt_some
theorem My:Rh.W=aE:=rfl
structure SnR (w:World) (b2 b3 X Q R:Nat) (v7 v8:Value) (wr:World) (j:Nat):Prop where
 le:j<=200
 k:v8=jI jU ((2+4*j:Nat):Int)
 bz:NB wr w.heap.size 0 0 0 0
 bs:∃s0 s1 s2 s3,RN Q s0 s1 s2 s3/\NB wr b3 s0 s1 s2 s3
 st:∃P M T b5 p0 p1 p2 p3 m0 m1 m2 m3 t0 t1 t2 t3,v7=.pointer (some ⟨b5,0,none⟩)/\b3+1+1<b5/\RN P p0 p1 p2 p3/\NB wr (b3+1) p0 p1 p2 p3/\RN M m0 m1 m2 m3/\NB wr (b3+1+1) m0 m1 m2 m3/\RN T t0 t1 t2 t3/\NB wr b5 t0 t1 t2 t3/\
  (T*2^j<=X/\P+2*T<=4*aE/\M<=P)/\Rh.iN (300-j) P M T Q (2+4*j)=R
 bel:Below w.heap.size w wr
 lt:w.heap.size<b2/\b2<b3
theorem K0{t q d:Nat}(b:t<=4*aE)(a:q<=3*aE):t*q/aE%bV/d=tt t q d:=by
 have h:=qM b a;have:t*q/aE<bV:=by
  refine(Nat.div_lt_iff_lt_mul (by unfold aE;omega)).2 (yJ h (by unfold aE bV;omega))
 rw[zP this];rfl
theorem aDK{n C:Nat}{c0 c1 c2 c3:Int}(hn:n<=5340000)(hc:RN C c0 c1 c2 c3)(e:Rh.iN 300 0 0 (xn n) (xn n*xn n/aE) 2=C)(w:World):
  Calls zB 178 #[jI .i64 (n:Int)] w (GQ (jA #[jI jU c0,jI jU c1,jI jU c2,jI jU c3]) w):=by
 obtain⟨O,R⟩:=Rh.aCj hn;rw[My]at O R;have f8:lE*n%bV=lE*n:=zP (by unfold lE bV;omega);obtain⟨a0,a1,a2,a3,hA⟩:=dA (lE*n) (by unfold lE bV;omega);obtain⟨A,B,D,E,hX⟩:=dA (xn n) (by unfold aE at R;unfold bV;omega);obtain⟨s0,s1,s2,s3,I⟩:=dA (xn n*xn n/aE) (by unfold aE at O ⊢;unfold bV;omega);have i4:=zA (fun w=>E9 w);have c6:=zA (fun w=>D7 (n:=n) aCb hA (by omega) f8 w);have g9:=zA (fun w=>uW (n:=10800000) hA hX (by omega) (by omega) rfl w);have i5:=zA (fun w=>MV hX hX I (zP I.lt) w);have a7:=zA ((zD w.heap.size w).alloc (zC _) (jC #[jI jU 0,jI jU 0,jI jU 0,jI jU 0] 211));have H1:=zA (show NB (w.alloc (jC #[jI jU 0,jI jU 0,jI jU 0,jI jU 0] 211)) w.heap.size 0 0 0 0 from heap_alloc_new w _);obtain⟨N,hN⟩:∃N:Int,N=(n:Int):=⟨_,rfl⟩;rw[<-hN]at c6 ⊢;have j2:0<=N:=by omega
 have j3:N<=5340000:=by omega
 have wn:u64.wrap N=N:=bG _ (by omega) (by omega);have HC:=zA hc;have HE:=zA e;have HX:=zA hX;have b1:=zA I;have b0:=zA O;have b6:=zA R;obtain⟨X,f4⟩:∃X,X=xn n:=⟨_,rfl⟩;rw[<-f4]at HX b6 HE b1 b0;obtain⟨Q,e3⟩:∃Q,Q=X*X/aE:=⟨_,rfl⟩;rw[<-e3]at HE b1 b0;clear hc e hX I O R f8 hA hN f4 e3 hn;go_enter Tryz.func178,Tryz.ntmps178;go_wp2_with fail
 refine(i4.out _).mono ?_;rintro e w1 ⟨rfl,b7⟩;have Z1:=zA (H1.out.next b7);have B1:=zA (a7.out.trans (b7.mono a7.out.size));clear b7 H1 a7;go_wp2_with fail
 refine(c6.out _).mono ?_;rintro e w2 ⟨rfl,y⟩;have Z2:=zA (Z1.out.next y);have B2:=zA (B1.out.trans (y.mono B1.out.size));clear y Z1 B1;go_wp2_with fail
 refine(g9.out _).mono ?_;rintro e w3 ⟨rfl,z⟩;have Z3:=zA (Z2.out.next z);have B3:=zA (B2.out.trans (z.mono B2.out.size));clear z Z2 B2;obtain⟨W4,J⟩:∃W4,W4=w3.alloc (jC #[jI jU A,jI jU B,jI jU D,jI jU E] 211):=⟨_,rfl⟩;have X4:=zA (show NB W4 w3.heap.size A B D E by rw[J];exact heap_alloc_new w3 _);have b8:Below w3.heap.size w3 W4:=by rw[J];exact(zD _ _).alloc (zC _) _
 have Z4:=zA (Z3.out.next b8);have B4:=zA (B3.out.trans (b8.mono B3.out.size));have L4:=zA Z3.out.lt;clear b8 Z3 B3;go_upto_region 2 with fail
 rw[<-J];obtain⟨b2,y⟩:∃b,b=w3.heap.size:=⟨_,rfl⟩;rw[<-y]at X4 L4 ⊢;clear J y;obtain⟨⟨r,s,u,x⟩,_⟩:=X4.out.keep;go_wp2_with fail
 refine(i5.out _).mono ?_;rintro e w5 ⟨rfl,G⟩;clear r s u x;have X5:=zA (X4.out.next G);have Z5:=zA (Z4.out.next G);have B5:=zA (B4.out.trans (G.mono B4.out.size));have f7:=X5.out.lt;have f6:=L4.out;clear G X4 Z4 B4;obtain⟨⟨r,s,u,x⟩,_⟩:=X5.out.keep;obtain⟨V,hV⟩:∃V,V=((w5.alloc (jC #[jI jU s0,jI jU s1,jI jU s2,jI jU s3] 211)).alloc (jC #[jI jU 0,jI jU 0,jI jU 0,jI jU 0] 211)).alloc (jC #[jI jU 0,jI jU 0,jI jU 0,jI jU 0] 211):=⟨_,rfl⟩;obtain⟨L,v0,v1,v2⟩:=NO w5 _ _ _ V hV;have g4:V.heap.size=w5.heap.size+1+1+1:=by rw[hV];simp
 have BV:=zA (B5.out.trans (L.mono B5.out.size));have XV:=zA (X5.out.next L);have ZV:=zA (Z5.out.next L);have V0:=zA (show NB V w5.heap.size s0 s1 s2 s3 from v0);have V1:=zA (show NB V (w5.heap.size+1) 0 0 0 0 from v1);have V2:=zA (show NB V (w5.heap.size+1+1) 0 0 0 0 from v2);have b4:=zA g4;clear L v0 v1 v2 g4;go_upto_region 4 with fail
 rw[<-hV];have a9:=zA f7;clear hV f7 r s u x X5 Z5 B5;obtain⟨b3,z⟩:∃b,b=w5.heap.size:=⟨_,rfl⟩;rw[<-z]at V0 V1 V2 b4 a9 ⊢;clear z;obtain⟨⟨r,s,u,x⟩,_⟩:=XV.out.keep;have j0:=XV.out.lt;have c:Below V.heap.size V (V.alloc (jC #[jI jU A,jI jU B,jI jU D,jI jU E] 211)):=(zD _ _).alloc (zC _) _;have c8:=zA (show SnR w b2 b3 X Q C (.pointer (some ⟨V.heap.size,0,none⟩)) (jI jU 2) (V.alloc (jC #[jI jU A,jI jU B,jI jU D,jI jU E] 211)) 0 from
  ⟨by omega,rfl,ZV.out.next c,⟨_,_,_,_,b1.out,V0.out.next c⟩,⟨0,0,X,_,_,_,_,_,_,_,_,_,_,_,_,_,rfl,by have:=b4.out;omega,CG,V1.out.next c,CG,V2.out.next c,HX.out,heap_alloc_new V _,⟨by omega,by have:=b6.out;omega,zC _⟩,HE.out⟩,BV.out.trans (c.mono BV.out.size),⟨f6,a9.out⟩⟩)
 clear c XV ZV V0 V1 V2 BV b4 a9;go_wp2_with fail
 clear j0 f6 r s u x;go_loopw [7,8] (fun v7 v8 wr=>∃j,SnR w b2 b3 X Q C v7 v8 wr j) (fun _ v8 _=>1000-L8 v8)
 case atStart=>exact⟨0,c8.out⟩
 case round=>
  clear c8;obtain⟨j,hj,rfl,bz,⟨s0,s1,s2,s3,I,bs⟩,⟨P,M,T,b5,p0,p1,p2,p3,m0,m1,m2,m3,t0,t1,t2,t3,rfl,G,hP,bp,hM,bm,hT,bt,⟨e5,d9,d7⟩,g⟩,hb,⟨i6,i7⟩⟩:=hrel;have HS:=zA I;have HB:=zA hb;have BZ:=zA bz;have BS:=zA bs;have BP:=zA bp;have BM:=zA bm;have BT:=zA bt;have i:=hT.zero;obtain⟨⟨r,s,u,x⟩,_⟩:=bt.keep;rcases yF T with h0|h0
  ·subst h0;have d8:P-M=C:=by
    obtain⟨f,hf⟩:∃f,300-j=f+1:=⟨299-j,by omega⟩;rw[hf,Rh.iN,if_pos rfl]at g;exact g
   have HE:∀wr:World,(Op.equalIn 10000 211 (jA #[jI jU t0,jI jU t1,jI jU t2,jI jU t3]) (jA #[jI jU 0,jI jU 0,jI jU 0,jI jU 0])).run zB wr=.ok true wr:=fun wr=>by rw[t6,i];rfl
   have g7:=zA (fun w=>EU hP hM HC.out (by
    have:=hP.lt;rw[show P+bV-M=(P-M)+bV by omega,aaQ,d8];exact zP HC.out.lt) w)
   obtain⟨⟨U,Y,Z,i3⟩,_⟩:=bp.keep;obtain⟨⟨g0,g1,g2,g3⟩,_⟩:=bm.keep;clear i d8 g e5 d9 d7 I hP hM hT hb bz bs bp bm bt;go_wp2_with fail
   refine(g7.out _).mono ?_;rintro e w6 ⟨rfl,a⟩;have Z6:=BZ.out.next a;obtain⟨⟨q0,q1,q2,q3⟩,f0,f1,f2,f3⟩:=Z6.keep;have S1:=Z6.set c0 c1 c2 c3;obtain⟨⟨r0,r1,r2,r3⟩,_⟩:=S1.keep;have HF:=zA (fA (HB.out.trans (a.mono HB.out.size)) (zC _) c0 c1 c2 c3:Below w.heap.size w (UF w6 w.heap.size c0 c1 c2 c3));unfold UF at r0 r1 r2 r3 HF;clear a Z6 S1 r s u x U Y Z i3 g0 g1 g2 g3;go_wp2_with fail
   refine bodyPost_ret (v:=jA #[jI jU c0,jI jU c1,jI jU c2,jI jU c3]) (by simp[results,Tryz.results178,go_sem,r0,r1,r2,r3]) rfl ⟨rfl,HF.out⟩
  ·have f5:j<200:=by
    rcases qJ j 200 with h|h
    ·exact h
    ·exfalso;have h1:2^200<=2^j:=yS (by omega) h;have h2:1*2^j<=T*2^j:=zR _ h0;have h3:(2:Nat)^200=1606938044258990275541962092341162602522202993782792835301376:=by decide
     have h4:=b6.out;unfold aE at h4;omega
   have HE:∀wr:World,(Op.equalIn 10000 211 (jA #[jI jU t0,jI jU t1,jI jU t2,jI jU t3]) (jA #[jI jU 0,jI jU 0,jI jU 0,jI jU 0])).run zB wr=.ok false wr:=fun wr=>by rw[t6,i,decide_eq_false (by omega)]
   have hQ:=b0.out;have e4:T<=4*aE:=by omega
   obtain⟨a5,a6⟩:=six (k:=2+4*j) (by omega);have u1:=CT (t:=T) (My ▸ hQ) a5;have v1:=CT (t:=tt T Q ((2+4*j)*(2+4*j+1))) (My ▸ hQ) a6;have c9:(2+4*j)*(2+4*j+1)<4294967296:=yJ (qM (show 2+4*j<=802 by omega) (show 2+4*j+1<=803 by omega)) (by omega);have d0:(2+4*j+2)*(2+4*j+3)<4294967296:=yJ (qM (show 2+4*j+2<=804 by omega) (show 2+4*j+3<=805 by omega)) (by omega);have a4:Rh.iN (300-(j+1)) (P+T) (M+tt T Q ((2+4*j)*(2+4*j+1))) (tt (tt T Q ((2+4*j)*(2+4*j+1))) Q ((2+4*j+2)*(2+4*j+3))) Q (2+4*(j+1))=C:=by
    obtain⟨f,hf⟩:∃f,300-j=f+1:=⟨299-j,by omega⟩;rw[hf,Rh.iN,if_neg (by omega)]at g;rw[show 300-(j+1)=f by omega,show 2+4*(j+1)=2+4*j+4 by omega];exact g
   have d5:∀d,T*Q/aE%bV/d=tt T Q d:=fun d=>K0 e4 hQ;have d6:∀d,tt T Q ((2+4*j)*(2+4*j+1))*Q/aE%bV/d=tt (tt T Q ((2+4*j)*(2+4*j+1))) Q d:=fun d=>K0 (by omega) hQ;have w4:4*aE*4<bV:=by unfold aE bV;omega
   obtain⟨n0,n1,n2,n3,hN⟩:=dA (P+T) (by omega);obtain⟨y0,y1,y2,y3,hY⟩:=dA (T*Q/aE%bV) (yX _ (by omega));obtain⟨z0,z1,z2,z3,hZ⟩:=dA (tt T Q ((2+4*j)*(2+4*j+1))) (by omega);obtain⟨o0,o1,o2,o3,hO⟩:=dA (M+tt T Q ((2+4*j)*(2+4*j+1))) (by omega);obtain⟨l0,l1,l2,l3,hL⟩:=dA (tt T Q ((2+4*j)*(2+4*j+1))*Q/aE%bV) (yX _ (by omega));obtain⟨u0,c5,u2,u3,hU⟩:=dA (tt (tt T Q ((2+4*j)*(2+4*j+1))) Q ((2+4*j+2)*(2+4*j+3))) (by omega);have C1:=zA (fun w=>tV hP hT hN (zP hN.lt) w);have C2:=zA (fun w=>MV hT I hY rfl w);have C3:=zA (fun w=>uW hY hZ (by omega) c9 (d5 _) w);have C4:=zA (fun w=>tV hM hZ hO (zP hO.lt) w);have C5:=zA (fun w=>MV hZ I hL rfl w);have C6:=zA (fun w=>uW hL hU (by omega) d0 (d6 _) w);have H:(tt (tt T Q ((2+4*j)*(2+4*j+1))) Q ((2+4*j+2)*(2+4*j+3))*2^(j+1)<=X/\P+T+2*tt (tt T Q ((2+4*j)*(2+4*j+1))) Q ((2+4*j+2)*(2+4*j+3))<=4*aE/\M+tt T Q ((2+4*j)*(2+4*j+1))<=P+T):=by
    refine⟨?_,by omega,by omega⟩;have:tt (tt T Q ((2+4*j)*(2+4*j+1))) Q ((2+4*j+2)*(2+4*j+3))*2*2^j<=T*2^j:=zR _ (by omega);rw[yT,qH (2^j) 2,<-qN];omega
   have g8:=zA H;have c7:=zA a4;have HN:=zA hN;have HO:=zA hO;have HU:=zA hU;obtain⟨K,hK⟩:∃K:Int,K=((2+4*j:Nat):Int):=⟨_,rfl⟩;have b9:(((2+4*j)*(2+4*j+1):Nat):Int)=K*(K+1):=by rw[hK];push_cast;rfl
   have c4:(((2+4*j+2)*(2+4*j+3):Nat):Int)=(K+2)*(K+3):=by rw[hK];push_cast;rfl
   rw[b9]at C3;rw[c4]at C6;have g1:0<=K*(K+1)/\K*(K+1)<4294967296:=by rw[<-b9];omega
   have g2:0<=(K+2)*(K+3)/\(K+2)*(K+3)<4294967296:=by rw[<-c4];omega
   rw[<-hK];have HK:=zA hK;have j4:0<=K:=by omega
   have k4:K<=802:=by omega
   have k5:u64.wrap (K+1)=K+1:=bG _ (by omega) (by omega);have k6:u64.wrap (K+2)=K+2:=bG _ (by omega) (by omega);have k8:u64.wrap (K+3)=K+3:=bG _ (by omega) (by omega);have k9:u64.wrap (K+4)=K+4:=bG _ (by omega) (by omega);have l4:u64.wrap (K*(K+1))=K*(K+1):=bG _ g1.1 (by omega);have l5:u64.wrap ((K+2)*(K+3))=(K+2)*(K+3):=bG _ g2.1 (by omega);have g5:=zA f5;have g6:=zA (And.intro i6 i7);clear i g e5 d9 d7 I hP hM hT hb bz bs bp bm bt hj f5 hQ e4 a5 a6 u1 v1 c9 d0 a4 d5 d6 w4 hN hY hZ hO hL hU H b9 c4 g1 g2 hK h0;obtain⟨⟨U,Y,Z,i3⟩,f0,f1,f2,f3⟩:=BP.out.keep;go_wp2_with fail
   refine(C1.out _).mono ?_;rintro e w6 ⟨rfl,a⟩;obtain⟨W7,e6,P7,O7,B7⟩:=pY w6 _ (BP.out.next a) n0 n1 n2 n3;have S7:=zA (O7 _ _ _ _ _ (by omega) (BS.out.next a));have M7:=zA (O7 _ _ _ _ _ (by omega) (BM.out.next a));have T7:=zA (O7 _ _ _ _ _ (by omega) (BT.out.next a));have Z7:=zA (O7 _ _ _ _ _ (by omega) (BZ.out.next a));have P7:=zA P7;have B7:=zA (B7 _ _ (HB.out.trans (a.mono HB.out.size)) (by omega));obtain⟨⟨A,B,D,E⟩,x4,x5,x6,x7⟩:=(BP.out.next a).keep;clear a O7 BP BS BM BT BZ HB r s u x U Y Z i3 f0 f1 f2 f3 C1;go_upto_region 8 with fail
   rw[<-e6];clear e6 A B D E x4 x5 x6 x7;obtain⟨⟨r,s,u,x⟩,_⟩:=T7.out.keep;obtain⟨⟨U,Y,Z,i3⟩,_⟩:=S7.out.keep;go_wp2_with fail
   refine(C2.out _).mono ?_;rintro e w8 ⟨rfl,p⟩;have S8:=zA (S7.out.next p);have M8:=zA (M7.out.next p);have T8:=zA (T7.out.next p);have Z8:=zA (Z7.out.next p);have P8:=zA (P7.out.next p);have B8:=zA (B7.out.trans (p.mono B7.out.size));clear p S7 M7 T7 Z7 P7 B7 C2 r s u x U Y Z i3;go_wp2_with fail
   refine(C3.out _).mono ?_;rintro e w9 ⟨rfl,l⟩;obtain⟨Wa,e7,Ta,Oa,Ba⟩:=pY w9 _ (T8.out.next l) z0 z1 z2 z3;have Sa:=zA (Oa _ _ _ _ _ (by omega) (S8.out.next l));have Ma:=zA (Oa _ _ _ _ _ (by omega) (M8.out.next l));have Pa:=zA (Oa _ _ _ _ _ (by omega) (P8.out.next l));have Za:=zA (Oa _ _ _ _ _ (by omega) (Z8.out.next l));have Ta:=zA Ta;have Ba:=zA (Ba _ _ (B8.out.trans (l.mono B8.out.size)) (by omega));obtain⟨⟨A,B,D,E⟩,x4,x5,x6,x7⟩:=(T8.out.next l).keep;clear l Oa S8 M8 T8 Z8 P8 B8 C3;go_upto_region 9 with fail
   rw[<-e7];clear e7 A B D E x4 x5 x6 x7;obtain⟨⟨r,s,u,x⟩,_⟩:=Ta.out.keep;obtain⟨⟨U,Y,Z,i3⟩,f0,f1,f2,f3⟩:=Ma.out.keep;go_wp2_with fail
   refine(C4.out _).mono ?_;rintro e wb ⟨rfl,m⟩;obtain⟨Wc,e8,Mc,Oc,Bc⟩:=pY wb _ (Ma.out.next m) o0 o1 o2 o3;have Sc:=zA (Oc _ _ _ _ _ (by omega) (Sa.out.next m));have Pc:=zA (Oc _ _ _ _ _ (by omega) (Pa.out.next m));have Tc:=zA (Oc _ _ _ _ _ (by omega) (Ta.out.next m));have Zc:=zA (Oc _ _ _ _ _ (by omega) (Za.out.next m));have Mc:=zA Mc;have Bc:=zA (Bc _ _ (Ba.out.trans (m.mono Ba.out.size)) (by omega));obtain⟨⟨A,B,D,E⟩,x4,x5,x6,x7⟩:=(Ma.out.next m).keep;clear m Oc Sa Ma Ta Za Pa Ba C4 r s u x U Y Z i3 f0 f1 f2 f3;go_upto_region 10 with fail
   rw[<-e8];clear e8 A B D E x4 x5 x6 x7;obtain⟨⟨r,s,u,x⟩,_⟩:=Tc.out.keep;obtain⟨⟨U,Y,Z,i3⟩,_⟩:=Sc.out.keep;go_wp2_with fail
   refine(C5.out _).mono ?_;rintro e wd ⟨rfl,q⟩;have Sd:=zA (Sc.out.next q);have Md:=zA (Mc.out.next q);have Td:=zA (Tc.out.next q);have Zd:=zA (Zc.out.next q);have Pd:=zA (Pc.out.next q);have Bd:=zA (Bc.out.trans (q.mono Bc.out.size));clear q Sc Mc Tc Zc Pc Bc C5 r s u x U Y Z i3;go_wp2_with fail
   refine(C6.out _).mono ?_;rintro e we ⟨rfl,o⟩;obtain⟨Wf,e9,Tf,Of,Bf⟩:=pY we _ (Td.out.next o) u0 c5 u2 u3;have Sf:=zA (Of _ _ _ _ _ (by omega) (Sd.out.next o));have Mf:=zA (Of _ _ _ _ _ (by omega) (Md.out.next o));have Pf:=zA (Of _ _ _ _ _ (by omega) (Pd.out.next o));have Zf:=zA (Of _ _ _ _ _ (by omega) (Zd.out.next o));have Tf:=zA Tf;have Bf:=zA (Bf _ _ (Bd.out.trans (o.mono Bd.out.size)) (by omega));obtain⟨⟨A,B,D,E⟩,x4,x5,x6,x7⟩:=(Td.out.next o).keep;clear o Of Sd Md Td Zd Pd Bd C6;go_upto_region 11 with fail
   rw[<-e9];clear e9 A B D E x4 x5 x6 x7;obtain⟨⟨A,B,D,E⟩,_⟩:=Tf.out.keep;have j1:=Tf.out.lt;have f9:=zA (heap_alloc_new Wf (jC #[jI jU u0,jI jU c5,jI jU u2,jI jU u3] 211));have c:=zA ((zD Wf.heap.size Wf).alloc (zC _) (jC #[jI jU u0,jI jU c5,jI jU u2,jI jU u3] 211));go_wp2_with fail
   go_roundw
   case rel=>exact⟨j+1,by have:=g5.out;omega,by have:=HK.out;congr 1;omega,Zf.out.next c.out,⟨_,_,_,_,HS.out,Sf.out.next c.out⟩,⟨_,_,_,_,_,_,_,_,_,_,_,_,_,_,_,_,rfl,by omega,HN.out,Pf.out.next c.out,HO.out,Mf.out.next c.out,HU.out,f9.out,g8.out,c7.out⟩,Bf.out.trans (c.out.mono Bf.out.size),g6.out⟩
   case measure=>simp only[L8];omega
end
section
open Go Go.RowKit Go.Sort
section
variable {P : Program} {ops : Array Oper} {md : Region.Mode} {C : World -> Prop}
def DD(P:Program)(md:Region.Mode)(ops:Array Oper)(C:World->Prop)(n:Nat)(L:Array Bool->Act->Prop):Nat->Array Bool->Act->Prop
 | 0,listed,a=>L listed a
 |f+1,listed,a=>
  Region.ready md ops listed≠[]/\∀i∈Region.ready md ops listed,i<n/\qOp P ops C i (DD P md ops C n L f (listed.setIfInBounds i true)) a
theorem AQ{n g:Nat}{L:Array Bool->Act->Prop}{Q':Exit->Act->World->Prop}(e:∀b a w,C w->L b a->wpAny P md ops Q' g b a w):
  ∀(f:Nat) (b:Array Bool) (a:Act) (w:World),C w->DD P md ops C n L f b a->wpAny P md ops Q' (f+g) b a w
 | 0,b,a,w,c,h=>by rw[qP];exact e _ _ _ c h
 |f+1,b,a,w,c,h=>by
  rw[show f+1+g=(f+g)+1 by omega];exact⟨fun l=>absurd l h.1,fun i hi=>wpOp_of_qOp c (fun j m d k=>AQ e f _ j m d k) (h.2 i hi).2⟩
theorem XU{n i:Nat}{A:Oper}{v:Value}{L:Array Bool->Act->Prop}(hi:ops[i]? =some A)(t:∀(j:Nat) (o:Oper) cs b,ops[j]? =some o->o.op≠.select cs b)
  (V:Region.sinkB md ops n=true)(R:Region.chainB md ops n=true)(U:n<ops.size)(D:i<n)
  (w:∀c a,L c a->∀j∈Region.ready md ops c,n<=j)(f:Nat):
  ∀(c:Array Bool) (a:Act),HeadInv md ops n c->
   (∀j z,ops[j]? =some z->j≠i->c.getD j true=false->(∀e∈z.after,Region.binds md e=true->e.on≠i)->A.apart ops z=true)->
   i∈Region.ready md ops c->YieldsIn P ops C A v a->
   DD P md ops C n L f (c.setIfInBounds i true) (a.put A.dst v)->DD P md ops C n L (f+1) c a:=by
 induction f with
 |zero=>
  intro c a q _ s K H;have p:=(mem_ready.1 s).1;refine⟨fun h=>(by rw[h]at s;cases s),fun j x=>?_⟩;have m:j<n:=Nat.lt_of_not_le fun h=>tail_waits V R U q _ i rfl D p j h x;refine⟨m,?_⟩;by_cases d:j=i
  ·subst d;exact K.qOp hi H
  ·have:=w _ _ H j (ready_mono x d);omega
 |succ f ih=>
  intro c a q g s K H;have p:=(mem_ready.1 s).1;refine⟨fun h=>(by rw[h]at s;cases s),fun j x=>?_⟩;have m:j<n:=Nat.lt_of_not_le fun h=>tail_waits V R U q _ i rfl D p j h x;refine⟨m,?_⟩;by_cases d:j=i
  ·subst d;exact K.qOp hi H
  ·have J:=(H.2 j (ready_mono x d)).2;obtain⟨r,z,y,B⟩:=mem_ready.1 x;have G:∀e∈z.after,Region.binds md e=true->e.on≠i:=fun e he Z M=>by
    have J:=B e he Z;rw[M,getD_both p]at J;cases J
   have Y:=qOp_put y (g j z y d r G) (fun cs b=>t i A cs b hi) (fun cs b=>t j z cs b y) K J;have l:∀k I,ops[k]? =some I->k≠i->(c.setIfInBounds j true).getD k true=false->
     (∀e∈I.after,Region.binds md e=true->e.on≠i)->A.apart ops I=true:=fun k I hk N u O=>by
    refine g k I hk N ?_ O;by_cases E:j=k
    ·subst E;exact r
    ·rw[getD_set_ne true E]at u;exact u
   refine qOp_mono (fun X Q=>ih (c.setIfInBounds j true) X (q.set x m) l (ready_mono s (Ne.symm d)) Q.1 ?_) Y;rw[Array.setIfInBounds_comm _ _ d];exact Q.2
theorem PR{n g:Nat}{r:Act->Prop}(d:Region.noSelect ops=true)(y:Region.sinkB md ops n=true)(u:Region.chainB md ops n=true)(x:n<ops.size):
  ∀(l:List Oper) (k:Nat) (b:Array Bool) (a:Act),(∀j,j<l.length->l[j]? =ops[k+j]?)->k+l.length=n->HeadInv md ops n b->
  Region.lexHead md ops g l.length k b=true->wpQuiet P ops C r l a->
  DD P md ops C n (fun c a'=>Region.seqB md ops g n c=true/\r a') l.length b a
 | [],k,b,a,_,q,_,p,h=>by
  have:k=n:=by simpa using q
  subst this;exact⟨by simpa[Region.lexHead]using p,h⟩
 |o::l,k,b,a,w,q,i,p,h=>by
  have m:ops[k]? =some o:=by simpa using(w 0 (by simp)).symm
  simp only[zM,Region.lexHead,Bool.and_eq_true]at p;obtain⟨⟨D,B⟩,s⟩:=p;have e:k<n:=by simp only[zM]at q;omega
  have f:k∈Region.ready md ops b:=by simpa using D
  have t:qOp P ops C k (wpQuiet P ops C r l) a:=by unfold qOp;simp only[m];exact h
  obtain⟨v,E,z⟩:=yieldsIn_of_qOp m t;exact XU m (Region.noSelect_spec d) y u x e (fun c a' A=>seqB_ready A.1) l.length b a i (Region.free_spec m B) f E
   (PR d y u x l (k+1) _ _ (fun j G=>by have:=w (j+1) (by simp;omega);simpa[Nat.add_assoc,Nat.add_comm 1 j]using this) (by simp only[zM]at q;omega) (i.set f e) s z)
theorem CF{B:Nat}{Q:Exit->Act->World->Prop}{a:Act}{w:World}{l:List Oper}(n:Nat)(x:P.follows .mixedOrders=true)(o:Region.lexTailB .any l.toArray n=true)(u:C {w with drawn:=w.drawn+1})
  (h:wpQuiet P l.toArray C (fun a'=>∀w',C w'->wpList P l.toArray Q (l.drop n) a' w') (l.take n) a):(Code.region B l.toArray true).wp P Q a w:=by
 simp only[Region.lexTailB,Bool.and_eq_true,decide_eq_true_eq]at o;obtain⟨⟨⟨⟨f,s⟩,z⟩,v⟩,e⟩:=o;have y:n<l.length:=by simpa using s
 have b:(l.take n).length=n:=by simp;omega
 have d:(l.drop n).length=l.toArray.size-n:=by simp
 have i:HeadInv .any l.toArray n (Array.replicate l.toArray.size false):=
  ⟨by simp,fun j D _ r=>(by rw[getD_replicate_false]at r;cases r),fun t _ A=>getD_in (by simpa using A) (getD_replicate_false _ _)⟩
 have H:=PR (C:=C) (md:=.any) (g:=l.toArray.size-n) f z v s (l.take n) 0 _ a (fun j q=>by
  have k:j<n:=by rw[b]at q;exact q
  simp[k]) (by simpa using b) i (by rw[b];exact e) h
 refine wp_region_any x ?_;have:=AQ (C:=C) (Q':=Q) (g:=l.toArray.size-n) (fun c a' w' m p=>by
  have:=wpAny_of_seq (md:=.any) (Q':=Q) (l.drop n) n c a' w' (fun j=>by simp[List.getElem?_drop]) (by rw[d];exact p.1) (p.2 w' m);rwa[d]at this) _ _ _ _ u H
 rw[b,show n+(l.toArray.size-n)=l.toArray.size by omega]at this;exact this
theorem oG{e:Nat}{Q:Exit->Act->World->Prop}{a:Act}{w:World}{l:List Oper}(n:Nat)(c:P.follows .mixedOrders=true)(b:Region.lexTailB .any l.toArray n=true)
  (h:wpQuiet P l.toArray (fun w'=>∃p:Regrown,w'=grow (redrawn w p.d) p.os) (fun a'=>∀w',(∃p:Regrown,w'=grow (redrawn w p.d) p.os)->wpList P l.toArray Q (l.drop n) a' w') (l.take n) a):(Code.region e l.toArray true).wp P Q a w:=
 CF (C:=fun w'=>∃p:Regrown,w'=grow (redrawn w p.d) p.os) n c b ⟨⟨w.drawn+1,#[]⟩,by rw[grow_empty];rfl⟩ h
end
end
end Go.Proofs.YtlbklncoihhfcaaGreatDoor
