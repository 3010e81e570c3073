/-
      Fixed-point intervals: what each function gives, as a plain.
-/
import Derived.Test.YtlbklncoihhfcaaGreatDoorU2
import Derived.Deep.RegionHeld3
import Derived.Test.YtlbklncoihhfcaaGreatDoorEv
import Derived.KernelRfl
import Derived.IntWalk
set_option maxRecDepth 100000
set_option maxHeartbeats 4000000
open Go.RowKit.Below renaming heap_alloc→zW,refl→zD
open _root_.Int renaming emod_lt_of_pos→qQ,emod_nonneg→yC,le_of_lt→aeQ,lt_or_le→agJ,lt_trichotomy→qV,mul_le_mul→yZ,zero_sub→ajQ
open Go.Lib renaming hid→zA
open _root_.Nat renaming le_refl→zC,le_trans→zJ,lt_or_ge→qJ,mul_le_mul→qM,zero_le→zO
open _root_.Rat renaming intCast_add→yI,intCast_le_intCast→qU,intCast_mul→yO,mul_nonneg→zN,natCast_add→xD,natCast_le_natCast→qO
open Go.Proofs.Tryz renaming prog→zB
open Go.World renaming setCell→qK
open Go.IntKind (i64 u64)
open Go.Value renaming int→jI
open Go.IntKind renaming i64→jJ
open Go.IntKind renaming u64→jU
open Go.Obj renaming cells→jC
open Go.Value renaming agg→jA
namespace Go.Proofs.YtlbklncoihhfcaaGreatDoor
noncomputable section
section
open Go.RowKit
theorem lP{w w1:World}{x y z u:Value}{t:TypeId}{B b:Nat}(d:Below B w w1)(c:b<B)(h:w.heap[b]? =some (jC #[x,y,z,u] t (0,0))):
  (w1.cell? ⟨b,0,none⟩=some x/\w1.cell? ⟨b,1,none⟩=some y/\w1.cell? ⟨b,2,none⟩=some z/\w1.cell? ⟨b,3,none⟩=some u)/\
  w1.frozen? ⟨b,0,none⟩=false/\w1.frozen? ⟨b,1,none⟩=false/\w1.frozen? ⟨b,2,none⟩=false/\w1.frozen? ⟨b,3,none⟩=false:=by
 have a:w1.heap[b]? =some (jC #[x,y,z,u] t (0,0)):=(d.block b c).trans h;refine⟨⟨?_,?_,?_,?_⟩,?_,?_,?_,?_⟩
 ·simp[World.cell?,a]
 ·simp[World.cell?,a]
 ·simp[World.cell?,a]
 ·simp[World.cell?,a]
 ·simp[World.frozen?,a]
 ·simp[World.frozen?,a]
 ·simp[World.frozen?,a]
 ·simp[World.frozen?,a]
theorem OV(w:World)(o a:Obj):((w.alloc o).alloc a).heap[w.heap.size]? =some o:=by
 rw[zW _ _ _ (by simp),heap_alloc_new]
theorem mC(a b c N:Int)(m:aU a)(d:0<=b)(f:b<=N)(hN:N<9223372036854775808)(g:0<=c)(n:c<=N):∃hi lo s k t:Int,aU s/\(0<=t/\t<=N)/\a*b+c=s+18446744073709551616*t/\
  (∀w,Calls zB 236 #[jI jU a,jI jU b] w (fun e w'=>e=.returned (.tuple #[jI jU hi,jI jU lo])/\w'=w))/\
  (∀w,(callFunc 241 #[jI jU lo,jI jU c,jI jU 0]).run zB w=.ok (.value (.tuple #[jI jU s,jI jU k])) w)/\u64.wrap (hi+k)=t:=by
 obtain⟨i,j⟩:=m;have o:0<=a*b:=Int.mul_nonneg i d;have p:a*b<=18446744073709551615*N:=yZ (by omega) f d (by decide);have l:∀w,Calls zB 236 #[jI jU a,jI jU b] w fun e w'=>e=.returned (.tuple #[jI jU (a*b/18446744073709551616),jI jU (a*b%18446744073709551616)])/\w'=w:=
  fun w=>(uP a b ⟨i,j⟩ ⟨d,by omega⟩ w).mono fun _ _ h=>⟨h.1,h.2.symm⟩
 generalize q:a*b=P at*;refine⟨P/18446744073709551616,P%18446744073709551616,(P%18446744073709551616+c)%18446744073709551616,(P%18446744073709551616+c)/18446744073709551616,P/18446744073709551616+(P%18446744073709551616+c)/18446744073709551616,⟨by omega,by omega⟩,⟨by omega,by omega⟩,by omega,l,fun w=>?_,?_⟩
 ·have:=kI (P%18446744073709551616) c 0 (by omega) g (by omega) w;simpa using this
 ·exact bG _ (by omega) (by omega)
theorem MI(n:Int)(s:0<=n)(t:n<=2700000):
  ∃l s1 o p r:Int,(aU l/\aU s1/\aU o/\aU p)/\0<=r/\r<10800000/\(l*6277101735386680763835789423207666416102355444464034512896+s1*340282366920938463463374607431768211456+o*18446744073709551616+p)*10800000+r=363771576891766324280234942777729862653393377328392429958772151117938894466185*n/\∀w,Calls zB 232 #[jI jJ n] w (dC w (bA l s1 o p)):=by
 obtain⟨x3,y3,p,k3,t3,z,d3,V,h,E,z3⟩:=mC 589684135938649225 n 0 2700000 ⟨by omega,by omega⟩ s t (by omega) (by omega) (by omega);obtain⟨x2,y2,o,k2,t2,y,d2,e2,g,D,z2⟩:=mC 11820040416388919760 n t3 2700000 ⟨by omega,by omega⟩ s t (by omega) d3.1 d3.2;obtain⟨x1,y1,s1,k1,t1,x,d1,e1,f,B,z1⟩:=mC 1376283091369227076 n t2 2700000 ⟨by omega,by omega⟩ s t (by omega) d2.1 d2.2;obtain⟨x0,y0,l,k0,a,v,U,e0,d,A,z0⟩:=mC 2611923443488327891 n t1 2700000 ⟨by omega,by omega⟩ s t (by omega) d1.1 d1.2;obtain⟨I,J,K,L,r,G,i,j,b,c⟩:=Mj l s1 o p ((a+3*n)%10800000) 10800000 v x y z (by omega) (by omega) (by omega) (by omega);have H:a+3*n<10800000:=by
  obtain⟨_,_⟩:=v;obtain⟨_,_⟩:=x;obtain⟨_,_⟩:=y;obtain⟨_,_⟩:=z;clear b c d f g h A B D E;omega
 have k:(a+3*n)%10800000=a+3*n:=Int.emod_eq_of_lt (by omega) H;refine⟨I,J,K,L,r,G,i,j,?_,fun w=>?_⟩
 ·rw[k]at b;clear c d f g h A B D E;omega
 have w1:u64.wrap n=n:=bG _ (by omega) (by omega);have w2:u64.wrap (3*n)=3*n:=bG _ (by omega) (by omega);have w3:u64.wrap (a+3*n)=a+3*n:=bG _ (by omega) (by omega);have w4:(a+3*n).tmod 10800000=(a+3*n)%10800000:=Int.tmod_eq_emod_of_nonneg (by omega);have w5:u64.wrap ((a+3*n)%10800000)=(a+3*n)%10800000:=bG _ (by omega) (by omega);clear k H G b i j e0 e1 e2 V U d1 d2 d3 v x y z;generalize (a+3*n)%10800000=m at*;have d:=zA d;have f:=zA f;have g:=zA g;have h:=zA h;have c:=zA c;unfold bA at c;go_enter Tryz.func232,Tryz.ntmps232;go_wp2;refine wp_loop_rounds 5 ?_;rw[rounds_succ];go_wp2_with (first|(go_at_call 236;refine(h.out _).mono ?_;rintro e q ⟨rfl,rfl⟩))
 rw[rounds_succ];go_wp2_with (first|(go_at_call 236;refine(g.out _).mono ?_;rintro e q ⟨rfl,rfl⟩))
 rw[rounds_succ];go_wp2_with (first|(go_at_call 236;refine(f.out _).mono ?_;rintro e q ⟨rfl,rfl⟩))
 rw[rounds_succ];go_wp2_with (first|(go_at_call 236;refine(d.out _).mono ?_;rintro e q ⟨rfl,rfl⟩))
 rw[rounds_succ];go_wp2_with fail
 refine(c.out _).mono ?_;rintro e q ⟨rfl,u⟩;obtain⟨⟨O,c1,Q,R⟩,Y,Z,f2,f3⟩:=lP u (by simp;omega) (OV w _ _);have M:=zA u;have X:=u.size;clear u;go_wp2_with fail
 have N:=zA (show Below w.heap.size w ((((q.setCell ⟨w.heap.size,0,none⟩ (jI jU I)).setCell ⟨w.heap.size,1,none⟩ (jI jU J)).setCell ⟨w.heap.size,2,none⟩ (jI jU K)).setCell ⟨w.heap.size,3,none⟩ (jI jU L))from
  (((((((zD _ _).alloc (zC _) _).alloc (by simp) _).trans (M.out.mono (by simp;omega))).setCell (zC _) _).setCell (zC _) _).setCell (zC _) _).setCell (zC _) _)
 simp[bodyPost,results,Tryz.results232,go_sem,O,c1,Q,R];exact⟨rfl,N.out⟩
end
section
open Go.RowKit
def num(a0 a1 a2 a3:Int):Int:=(a0*6277101735386680763835789423207666416102355444464034512896+a1*340282366920938463463374607431768211456+a2*18446744073709551616+a3)
theorem iU(a b c d:Int)(h:(aU a/\aU b/\aU c/\aU d)):0<=num a b c d/\num a b c d<115792089237316195423570985008687907853269984665640564039457584007913129639936:=by
 obtain⟨⟨_,_⟩,⟨_,_⟩,⟨_,_⟩,⟨_,_⟩⟩:=h;unfold num;omega
def DG(w:World)(b:Nat)(a0 a1 a2 a3:Int):Prop:=w.heap[b]? =some (jC #[jI jU a0,jI jU a1,jI jU a2,jI jU a3] 239 (0,0))
theorem DG.lt{w:World}{b:Nat}{a c d e:Int}(h:DG w b a c d e):b<w.heap.size:=by
 unfold DG at h;exact(Array.getElem?_eq_some_iff.1 h).1
theorem DG.below{w w':World}{b:Nat}{a c d e:Int}(h:DG w b a c d e)(f:Below w.heap.size w w'):DG w' b a c d e:=(f.block b h.lt).trans h
structure Step (y0 y1 y2 y3 u0 u1 u2 u3 d v0 v1 v2 v3:Int):Prop where
 out:∃q0 q1 q2 q3 m0 m1 m2 m3 r:Int,(aU q0/\aU q1/\aU q2/\aU q3)/\(aU m0/\aU m1/\aU m2/\aU m3)/\0<=r/\r<d/\num y0 y1 y2 y3=num q0 q1 q2 q3*d+r/\num m0 m1 m2 m3*115792089237316195423570985008687907853269984665640564039457584007913129639936<=num q0 q1 q2 q3*num u0 u1 u2 u3/\num q0 q1 q2 q3*num u0 u1 u2 u3<(num m0 m1 m2 m3+2)*115792089237316195423570985008687907853269984665640564039457584007913129639936/\num v0 v1 v2 v3=num q0 q1 q2 q3-num m0 m1 m2 m3/\
  (∀w,Calls zB 268 #[bA y0 y1 y2 y3,jI jU 0,jI jU d] w (dC w (bA q0 q1 q2 q3)))/\
  (∀w,Calls zB 234 #[bA q0 q1 q2 q3,bA u0 u1 u2 u3] w (dC w (bA m0 m1 m2 m3)))/\
  (∀w,Calls zB 233 #[bA q0 q1 q2 q3,bA m0 m1 m2 m3] w (dC w (bA v0 v1 v2 v3)))
theorem aBm(t y1 y2 u u0 u1 u2 u3 d:Int)(s:(aU t/\aU y1/\aU y2/\aU u))(q:(aU u0/\aU u1/\aU u2/\aU u3))(z:0<d)(v:d<4294967296):
  ∃m n o p:Int,(aU m/\aU n/\aU o/\aU p)/\Step t y1 y2 u u0 u1 u2 u3 d m n o p:=by
 obtain⟨a,b,c,e,r,f,w,x,e1,B⟩:=Mj t y1 y2 u 0 d s.1 s.2.1 s.2.2.1 s.2.2.2 z v (by omega) z;obtain⟨h,i,j,l,g,e2,y,D⟩:=TM a b c e u0 u1 u2 u3 f.1 f.2.1 f.2.2.1 f.2.2.2 q.1 q.2.1 q.2.2.1 q.2.2.2;obtain⟨m,n,o,p,k,A,M,H,E⟩:=Hl a b c e h i j l f.1 f.2.1 f.2.2.1 f.2.2.2 g.1 g.2.1 g.2.2.1 g.2.2.2;have G:=iU a b c e f;have K:=iU u0 u1 u2 u3 q;have J:=iU h i j l g;have L:=iU m n o p A;have I:num a b c e*num u0 u1 u2 u3<=num a b c e*115792089237316195423570985008687907853269984665640564039457584007913129639936:=Int.mul_le_mul_of_nonneg_left (by omega) G.1;change num h i j l*_<=num a b c e*num u0 u1 u2 u3 at e2;change num a b c e*num u0 u1 u2 u3<(num h i j l+2)*_ at y;change num m n o p=num a b c e-num h i j l+_ at H;change _+num t y1 y2 u=num a b c e*d+r at e1;refine⟨m,n,o,p,A,⟨a,b,c,e,h,i,j,l,r,f,g,w,x,by omega,e2,y,?_,B,D,E⟩⟩;generalize num a b c e*num u0 u1 u2 u3=P at*;omega
end
section
open Go.RowKit
def UL(v:Int×Int×Int×Int):Prop:=aU v.1/\aU v.2.1/\aU v.2.2.1/\aU v.2.2.2
theorem aGn:UL (0,0,0,0):=⟨⟨by decide,by decide⟩,⟨by decide,by decide⟩,⟨by decide,by decide⟩,⟨by decide,by decide⟩⟩
def iP(k:Nat)(o:Int):Int:=(2*((k:Int)+1)-1+o)*(2*((k:Int)+1)+o)
theorem KD(k:Nat)(o:Int)(d:k<34)(b:0<=o)(c:o<=1):0<iP k o/\iP k o<4294967296:=by
 unfold iP;have a:∃K:Int,K=(k:Int)/\0<=K/\K<34:=⟨k,rfl,by omega,by omega⟩;obtain⟨K,e,f,g⟩:=a;rw[<-e];have p:=Int.mul_pos (show 0<2*(K+1)-1+o by omega) (show 0<2*(K+1)+o by omega);have q:=yZ (show 2*(K+1)-1+o<=70 by omega) (show 2*(K+1)+o<=70 by omega) (by omega) (by omega);omega
def JB(y:Int×Int×Int×Int)(o:Int)(f:Nat->Int×Int×Int×Int):Prop:=
 (∀k,k<=34->UL (f k))/\f 34=(0,0,0,0)/\∀k,k<34->Step y.1 y.2.1 y.2.2.1 y.2.2.2 (f (k+1)).1 (f (k+1)).2.1 (f (k+1)).2.2.1 (f (k+1)).2.2.2 (iP k o) (f k).1 (f k).2.1 (f k).2.2.1 (f k).2.2.2
theorem Rd(y:Int×Int×Int×Int)(o:Int)(s:UL y)(j:0<=o)(l:o<=1):∃f,JB y o f:=by
 have g:∀n,n<=34->∃f:Nat->Int×Int×Int×Int,(∀k,34-n<=k->k<=34->UL (f k))/\f 34=(0,0,0,0)/\∀k,34-n<=k->k<34->Step y.1 y.2.1 y.2.2.1 y.2.2.2 (f (k+1)).1 (f (k+1)).2.1 (f (k+1)).2.2.1 (f (k+1)).2.2.2 (iP k o) (f k).1 (f k).2.1 (f k).2.2.1 (f k).2.2.2:=by
  intro n;induction n with
  |zero=>intro _;exact⟨fun _=>(0,0,0,0),fun _ _ _=>aGn,rfl,fun k b p=>by omega⟩
  |succ n t=>
   intro z;obtain⟨f,a,c,d⟩:=t (by omega);have i:=KD (33-n) o (by omega) j l;obtain⟨u,v,w,x,r,q⟩:=aBm y.1 y.2.1 y.2.2.1 y.2.2.2 (f (34-n)).1 (f (34-n)).2.1 (f (34-n)).2.2.1 (f (34-n)).2.2.2 (iP (33-n) o) s (a _ (by omega) (by omega)) i.1 i.2;refine⟨fun k=>if k=33-n then(u,v,w,x) else f k,fun k m e=>?_,?_,fun k m e=>?_⟩
   ·by_cases h:k=33-n
    ·simp only[h,if_true];exact r
    ·simp only[h,if_false];exact a k (by omega) e
   ·simp only[show ¬34=33-n by omega,if_false];exact c
   ·by_cases h:k=33-n
    ·subst h;simp only[if_true,if_false,show 33-n+1=34-n by omega,show ¬34-n=33-n by omega];exact q
    ·simp only[h,if_false,show ¬k+1=33-n by omega];exact d k (by omega) e
 obtain⟨f,a,c,d⟩:=g 34 (by omega);exact⟨f,fun k b=>a k (by omega) b,c,fun k b=>d k (by omega) b⟩
end
section
open Go.RowKit
def aCm(w:World)(b5 b6:Nat)(y:Int×Int×Int×Int)(f:Nat->Int×Int×Int×Int)(K:Value)(wr:World)(k:Nat):Prop:=
 k<=34/\K=jI jU (k:Int)/\DG wr (w.heap.size+1) 0 0 0 0/\DG wr b5 y.1 y.2.1 y.2.2.1 y.2.2.2/\DG wr b6 (f k).1 (f k).2.1 (f k).2.2.1 (f k).2.2.2/\Below w.heap.size w wr
theorem JN(w:World)(o a:Obj):((w.alloc o).alloc a).heap[w.heap.size+ 1]? =some a:=by
 have:=heap_alloc_new (w.alloc o) a;simpa using this
theorem DG.alloc{w:World}{b:Nat}{a c d e:Int}(h:DG w b a c d e)(o:Obj):DG (w.alloc o) b a c d e:=h.below ((zD _ _).alloc (zC _) _)
theorem cQ{w w':World}{b:Nat}{a c d e:Int}(f:Below w.heap.size w w')(h:DG w b a c d e):DG w' b a c d e:=h.below f
theorem DG.write{w:World}{b:Nat}{f g i j:Int}(h:DG w b f g i j)(a c d e:Int):
  DG ((((w.setCell ⟨b,0,none⟩ (jI jU a)).setCell ⟨b,1,none⟩ (jI jU c)).setCell ⟨b,2,none⟩ (jI jU d)).setCell ⟨b,3,none⟩ (jI jU e)) b a c d e:=by
 unfold DG at*;simp[qK,h,Array.getElem?_modify]
theorem DG.other{w:World}{b b':Nat}{a c d e:Int}(h:DG w b a c d e)(f:b<b')(g i j k:Value):
  DG ((((w.setCell ⟨b',0,none⟩ g).setCell ⟨b',1,none⟩ i).setCell ⟨b',2,none⟩ j).setCell ⟨b',3,none⟩ k) b a c d e:=
 ((((zD b' w).setCell (zC _) _).setCell (zC _) _).setCell (zC _) _|>.setCell (zC _) _).block b f|>.trans h
def L8:Value->Nat| .int _ x=>x.toNat|_=>0
theorem Qe(x0 x1 x2 x3 o:Int)(y:Int×Int×Int×Int)(f:Nat->Int×Int×Int×Int)(h0:0<=o)(h1:o<=1)(hf:JB y o f)
  (H:∀w,Calls zB 234 #[bA x0 x1 x2 x3,bA x0 x1 x2 x3] w (dC w (bA y.1 y.2.1 y.2.2.1 y.2.2.2)))(w:World):Calls zB 235 #[bA x0 x1 x2 x3,jI jU o] w (dC w (bA (f 0).1 (f 0).2.1 (f 0).2.2.1 (f 0).2.2.2)):=by
 have HF:=zA hf;have H:=zA H;obtain⟨O,Q,R,U⟩:=y;clear hf;unfold bA at H;unfold bA;go_enter Tryz.func235,Tryz.ntmps235;go_wp2_with fail
 refine(H.out _).mono ?_;rintro e c ⟨rfl,m⟩;have l:=zA m;have i:=m.size;clear m;go_wp2_with fail
 have HS:=zA (show aCm w c.heap.size (c.heap.size+1) (O,Q,R,U) f (jI jU 34) ((c.alloc (jC #[jI jU O,jI jU Q,jI jU R,jI jU U] 239)).alloc (jC #[jI jU 0,jI jU 0,jI jU 0,jI jU 0] 239)) 34 from
  ⟨zC _,rfl,(((DG.below (show DG _ (w.heap.size+1) 0 0 0 0 from JN w _ _) l.out).alloc _).alloc _),OV c _ _,by rw[HF.out.2.1];exact JN c _ _,
   ((((zD _ _).alloc (zC _) _).alloc (by simp) _).trans (l.out.mono (by simp;omega))).alloc (by simp at i;omega) _|>.alloc (by simp at i ⊢;omega) _⟩)
 clear l;go_loopw [7] (fun K wr=>∃k,aCm w c.heap.size (c.heap.size+1) (O,Q,R,U) f K wr k) (fun K _=>L8 K)
 case atStart=>exact⟨_,HS.out⟩
 case round=>
  clear HS;obtain⟨k,hk,rfl,J,L,M,m⟩:=hrel;have l:=zA m;have N1:=zA J;have N2:=zA L;have N3:=zA M;have l1:=J.lt;have l2:=L.lt;have l3:=M.lt;obtain⟨⟨a0,a1,a2,a3⟩,a4,a5,a6,a7⟩:=lP (zD (wr.heap.size) wr) l1 J;obtain⟨⟨b0,b1,b2,b3⟩,b4,b5,b6,b7⟩:=lP (zD (wr.heap.size) wr) l2 L;obtain⟨⟨c0,c1,c2,c3⟩,c4,c5,c6,c7⟩:=lP (zD (wr.heap.size) wr) l3 M;clear J L M m;rcases Nat.eq_zero_or_pos k with rfl|hkp
  ·have HG:=zA (show Below w.heap.size w ((((wr.setCell ⟨w.heap.size+1,0,none⟩ (jI jU (f 0).1)).setCell ⟨w.heap.size+1,1,none⟩ (jI jU (f 0).2.1)).setCell ⟨w.heap.size+1,2,none⟩ (jI jU (f 0).2.2.1)).setCell ⟨w.heap.size+1,3,none⟩ (jI jU (f 0).2.2.2))from
    (((l.out.setCell (Nat.le_succ _) _).setCell (Nat.le_succ _) _).setCell (Nat.le_succ _) _).setCell (Nat.le_succ _) _)
   go_wp2_with fail
   simp[bodyPost,results,Tryz.results235,go_sem,a0,a1,a2,a3];exact⟨rfl,HG.out⟩
  ·obtain⟨j,rfl⟩:∃j,k=j+1:=⟨k-1,by omega⟩;obtain⟨Y,Z⟩:=KD j o (by omega) h0 h1;obtain⟨q,s,t,v,m0,m1,m2,m3,r,hq,hm,c8,c9,b9,a9,b8,hv,E,G,I⟩:=(HF.out.2.2 j (by omega)).out;clear hq hm c8 c9 b9 a9 b8 hv;have E:=zA E;have G:=zA G;have I:=zA I;have e1:u64.wrap (2*((j:Int)+1))=2*((j:Int)+1):=bG _ (by omega) (by omega);have e2:u64.wrap (2*((j:Int)+1)-1)=2*((j:Int)+1)-1:=bG _ (by omega) (by omega);have e3:u64.wrap (2*((j:Int)+1)-1+o)=2*((j:Int)+1)-1+o:=bG _ (by omega) (by omega);have e4:u64.wrap (2*((j:Int)+1)+o)=2*((j:Int)+1)+o:=bG _ (by omega) (by omega);have e5:u64.wrap ((2*((j:Int)+1)-1+o)*(2*((j:Int)+1)+o))=iP j o:=bG (iP j o) (by omega) (by omega);clear Y Z;generalize f (j+1)=u at*;obtain⟨u0,u1,u2,u3⟩:=u;generalize X:iP j o=D at*;clear X;unfold bA at E;go_wp2_with fail
   refine(E.out _).mono ?_;rintro e x ⟨rfl,d⟩;have l4:=d.size;have M1:=zA (N1.out.below d);have M2:=zA (N2.out.below d);have V:=zA (N3.out.below d);have z:=zA (l.out.trans (d.mono (by omega)));clear d a0 a1 a2 a3 a4 a5 a6 a7 b0 b1 b2 b3 b4 b5 b6 b7 c0 c1 c2 c3 c4 c5 c6 c7;obtain⟨⟨c0,c1,c2,c3⟩,c4,c5,c6,c7⟩:=lP (zD (x.heap.size) x) (by omega) V.out;go_wp2_with fail
   have NQ:=zA (show DG (x.alloc (jC #[jI jU q,jI jU s,jI jU t,jI jU v] 239)) x.heap.size q s t v from heap_alloc_new x _);have M4:=zA (V.out.alloc (jC #[jI jU q,jI jU s,jI jU t,jI jU v] 239));unfold bA at G I;have l7:c.heap.size+1<x.heap.size:=V.out.lt;go_region_with (first
    |(go_at_call 234;refine(G.out _).mono ?_;rintro e B ⟨rfl,a⟩;have n:=cQ a (by exact M4.out);have n5:=cQ a (by exact NQ.out);have l5:=n.lt;obtain⟨⟨p0,p1,p2,p3⟩,p4,p5,p6,p7⟩:=lP (zD B.heap.size B) n5.lt n5;obtain⟨⟨r0,r1,r2,r3⟩,r4,r5,r6,r7⟩:=lP (zD B.heap.size B) n.lt n;have n:=zA n;have a:=zA a;clear n5)
    |(go_at_call 233;refine(I.out _).mono ?_;rintro e N ⟨rfl,b⟩;have p:=cQ b (by exact n.out);obtain⟨⟨s0,s1,s2,s3⟩,s4,s5,s6,s7⟩:=lP (zD N.heap.size N) p.lt p;have l6:=p.lt;have p:=zA p;have b:=zA b))
   all_goals (
    have hz:w.heap.size+2<=c.heap.size:=by simp at i;omega
    have h:=z.out.alloc (by have:=z.out.size;omega) (jC #[jI jU q,jI jU s,jI jU t,jI jU v] 239);have g:Below w.heap.size w B:=by first
     |exact h.trans (a.out.mono (by have:=h.size;simp at this ⊢;omega))
     |exact h.drew.trans (a.out.mono (by have:=h.size;simp at this ⊢;omega))
    have A:Below w.heap.size w N:=by first
     |exact g.trans (b.out.mono g.size)
     |exact g.drew.trans (b.out.mono g.size)
    have A1:=cQ b.out (by exact cQ a.out (by exact(M1.out.alloc (jC #[jI jU q,jI jU s,jI jU t,jI jU v] 239))));have A2:=cQ b.out (by exact cQ a.out (by exact(M2.out.alloc (jC #[jI jU q,jI jU s,jI jU t,jI jU v] 239))));have HR:=zA (show aCm w c.heap.size (c.heap.size+1) (O,Q,R,U) f (jI jU (j:Int)) ((((N.setCell ⟨c.heap.size+1,0,none⟩ (jI jU (f j).1)).setCell ⟨c.heap.size+1,1,none⟩ (jI jU (f j).2.1)).setCell ⟨c.heap.size+1,2,none⟩ (jI jU (f j).2.2.1)).setCell ⟨c.heap.size+1,3,none⟩ (jI jU (f j).2.2.2)) j from
     ⟨by omega,rfl,A1.other (by omega) _ _ _ _,A2.other (by omega) _ _ _ _,p.out.write _ _ _ _,(((A.setCell (by simp;omega) _).setCell (by simp;omega) _).setCell (by simp;omega) _).setCell (by simp;omega) _⟩)
    have e6:u64.wrap (j:Int)=(j:Int):=bG _ (by omega) (by omega);clear A1 A2 g A h;go_wp2_with fail
    go_roundw
    case rel=>exact⟨_,HR.out⟩
    case measure=>simp[L8])
end
section
open Go.RowKit
theorem Lz(a x1 x2 b o:Int)(c:aU a/\aU x1/\aU x2/\aU b)(i:0<=o)(j:o<=1):
  ∃(y:Int×Int×Int×Int) (f:Nat->Int×Int×Int×Int),UL y/\num y.1 y.2.1 y.2.2.1 y.2.2.2*115792089237316195423570985008687907853269984665640564039457584007913129639936<=num a x1 x2 b*num a x1 x2 b/\num a x1 x2 b*num a x1 x2 b<(num y.1 y.2.1 y.2.2.1 y.2.2.2+2)*115792089237316195423570985008687907853269984665640564039457584007913129639936/\JB y o f/\
   ∀w,Calls zB 235 #[bA a x1 x2 b,jI jU o] w (dC w (bA (f 0).1 (f 0).2.1 (f 0).2.2.1 (f 0).2.2.2)):=by
 obtain⟨d,e,g,h,l,e1,e2,H⟩:=TM a x1 x2 b a x1 x2 b c.1 c.2.1 c.2.2.1 c.2.2.2 c.1 c.2.1 c.2.2.1 c.2.2.2;obtain⟨f,k⟩:=Rd (d,e,g,h) o l i j;exact⟨(d,e,g,h),f,l,e1,e2,k,fun w=>Qe a x1 x2 b o (d,e,g,h) f i j k H w⟩
end
section
open Go.RowKit
def eV(v:Int)(b:Bool)(w:World)(e:Ending)(w':World):Prop:=e=.returned (.tuple #[jI jJ v,.bool b])/\Below w.heap.size w w'
theorem aDO(w:World):Calls zB 174 #[jI jJ 0] w (eV 0 true w):=by
 have a:=zA (show eV 0 true w (.returned (.tuple #[jI jJ 0,.bool true])) w from⟨rfl,zD _ _⟩);go_enter Tryz.func174,Tryz.ntmps174;go_wp2;go_ret2
 exact a.out
theorem aBf(w:World):Calls zB 174 #[jI jJ 1800000] w (eV 536870912 true w):=by
 have a:=zA (show eV 536870912 true w (.returned (.tuple #[jI jJ 536870912,.bool true])) w from⟨rfl,zD _ _⟩);go_enter Tryz.func174,Tryz.ntmps174;go_wp2;go_ret2
 exact a.out
theorem aBg(w:World):Calls zB 174 #[jI jJ 5400000] w (eV 1073741824 true w):=by
 have a:=zA (show eV 1073741824 true w (.returned (.tuple #[jI jJ 1073741824,.bool true])) w from⟨rfl,zD _ _⟩);go_enter Tryz.func174,Tryz.ntmps174;go_wp2;go_ret2
 exact a.out
theorem G0(n t x1 x2 u u0 u1 u2 u3 c s1 p q:Int)(X:2700000<n)(Y:n<5400000)(x:aU c)
  (i:∀w,Calls zB 232 #[jI jJ (5400000-n)] w (dC w (bA t x1 x2 u)))
  (j:∀w,Calls zB 235 #[bA t x1 x2 u,jI jU 0] w (dC w (bA u0 u1 u2 u3)))
  (k:∀w,Calls zB 233 #[bA 0 0 0 0,bA u0 u1 u2 u3] w (dC w (bA c s1 p q)))(w:World):Calls zB 174 #[jI jJ n] w (eV (c/17179869184) false w):=by
 have i:=zA i;have j:=zA j;have k:=zA k;unfold bA at i j k;obtain⟨O,Q⟩:=x;have R:n≠0:=by omega
 have U:n≠1800000:=by omega
 have V:n≠5400000:=by omega
 go_enter Tryz.func174,Tryz.ntmps174;go_wp2_with fail
 refine(i.out _).mono ?_;rintro e A ⟨rfl,f⟩;have a:=zA f;clear f;go_wp2_with fail
 refine(j.out _).mono ?_;rintro e Z ⟨rfl,g⟩;have b:=zA g;clear g;go_wp2_with fail
 refine(k.out _).mono ?_;rintro e m ⟨rfl,h⟩;have d:=zA h;clear h;have r:=((zD w.heap.size w).alloc (zC _) (jC #[jI jU 0,jI jU 0,jI jU 0,jI jU 0] 239)).trans ((a.out.trans (b.out.mono a.out.size)).trans (d.out.mono (zJ a.out.size b.out.size))|>.mono (by simp));have s:DG A w.heap.size 0 0 0 0:=cQ a.out (heap_alloc_new w _);have l:DG m w.heap.size 0 0 0 0:=cQ d.out (cQ b.out s);have y:=l.lt;obtain⟨⟨B,c1,D,E⟩,G,H,I,J⟩:=lP (zD m.heap.size m) y l;have o:=l.write c s1 p q;have z:=o.lt;obtain⟨⟨K,d1,d2,d3⟩,d4,L,M,N⟩:=lP (zD _ _) z o;have v:=zA (show eV (c/17179869184) false w (.returned (.tuple #[jI jJ (c/17179869184),.bool false])) ((((m.setCell ⟨w.heap.size,0,none⟩ (jI jU c)).setCell ⟨w.heap.size,1,none⟩ (jI jU s1)).setCell ⟨w.heap.size,2,none⟩ (jI jU p)).setCell ⟨w.heap.size,3,none⟩ (jI jU q))from
  ⟨rfl,(((r.setCell (zC _) _).setCell (zC _) _).setCell (zC _) _).setCell (zC _) _⟩)
 clear r s l o;go_wp2;go_ret2
 exact v.out
end
section
open SM
def fr(a:Int):Rat:=(1/115792089237316195423570985008687907853269984665640564039457584007913129639936:Rat)*(a:Rat)
def Js:Rat:=1/115792089237316195423570985008687907853269984665640564039457584007913129639936
theorem pB{a:Int}(h:0<=a):0<=fr a:=by
 have:(0:Rat)<=(a:Rat):=by exact_mod_cast h
 unfold fr;grind
theorem ST{a:Int}(h:a<=115792089237316195423570985008687907853269984665640564039457584007913129639936):fr a<=1:=by
 have:(a:Rat)<=((115792089237316195423570985008687907853269984665640564039457584007913129639936:Int):Rat):=qU.2 h;have e:((115792089237316195423570985008687907853269984665640564039457584007913129639936:Int):Rat)=115792089237316195423570985008687907853269984665640564039457584007913129639936:=rfl;rw[e]at this;unfold fr;grind
theorem SU{q u m:Int}(c:m*115792089237316195423570985008687907853269984665640564039457584007913129639936<=q*u)(d:q*u<(m+2)*115792089237316195423570985008687907853269984665640564039457584007913129639936):bY (fr q*fr u-fr m) (2*Js):=by
 have e:((115792089237316195423570985008687907853269984665640564039457584007913129639936:Int):Rat)=115792089237316195423570985008687907853269984665640564039457584007913129639936:=rfl;have b:((m*115792089237316195423570985008687907853269984665640564039457584007913129639936:Int):Rat)<=((q*u:Int):Rat):=qU.2 c;have a:((q*u:Int):Rat)<=(((m+2)*115792089237316195423570985008687907853269984665640564039457584007913129639936:Int):Rat):=qU.2 (aeQ d);rw[yO,yO,e]at b;rw[yO,yO,e,yI]at a;have e2:((2:Int):Rat)=2:=rfl;rw[e2]at a;unfold fr Js bY;generalize (m:Rat)=M at*;have p:(q:Rat)*(u:Rat)=(u:Rat)*(q:Rat):=by grind
 constructor<;>grind
theorem H8{a q m u v d r:Int}{D:Nat}(H:(D:Int)=d)(o:2<=D)(f:0<=r)(j:r<d)(L:a=q*d+r)(z:m*115792089237316195423570985008687907853269984665640564039457584007913129639936<=q*u)(G:q*u<(m+2)*115792089237316195423570985008687907853269984665640564039457584007913129639936)(N:v=q-m)(l:0<=u)(n:u<=115792089237316195423570985008687907853269984665640564039457584007913129639936)
  {Y h b E B:Rat}(_hb:0<=b)(Z:1/2*b+3*Js<=B)(I:bY (fr a-Y) b)(g:bY Y (7/10))(_hE:0<=E)(hh:bY (fr u-h) E):bY (fr v-1/(D:Rat)*(Y*(1-h))) (B+7/10*(1/(D:Rat))*E):=by
 have K:=SU z G;have i1:=FM o;have w:=lO (D:Rat) (by exact_mod_cast zO _);have c:(d:Rat)=(D:Rat):=by rw[<-H];rfl
 have J:(2:Rat)<=(D:Rat):=by exact_mod_cast o
 have hid:(1/(D:Rat))*(D:Rat)=1:=by grind
 have k:(r:Rat)<=(D:Rat):=by rw[<-c];exact_mod_cast aeQ j
 have t:(0:Rat)<=(r:Rat):=by exact_mod_cast f
 have M:(a:Rat)=(q:Rat)*(D:Rat)+(r:Rat):=by rw[L,yI,yO,c]
 have O:(v:Rat)=(q:Rat)-(m:Rat):=by rw[N,Rat.intCast_sub]
 generalize 1/(D:Rat)=i at*;have x:fr q=i*(fr a)-i*fr r:=by unfold fr;grind
 have y:fr v=fr q-fr m:=by unfold fr;grind
 have p:0<=i*fr r:=zN w (pB f);have s:i*fr r<=Js:=by
  have:=Rat.mul_le_mul_of_nonneg_left k w;unfold fr Js;grind
 have w1:bY (i*(fr a-Y)) (1/2*b):=bY.mul ⟨by grind,by grind⟩ I;have Q:bY (fr q-i*Y) (1/2*b+Js):=by
  unfold bY at*;have e:fr q-i*Y=i*(fr a-Y)-i*fr r:=by rw[x];grind
  rw[e];generalize i*(fr a-Y)=A at*;generalize i*fr r=C at*;have:0<=Js:=by unfold Js;grind
  constructor<;>grind
 have u0:=pB l;have u1:=ST n;have R:bY (1-fr u) 1:=⟨by grind,by grind⟩;have U:bY (i*Y) (7/10*i):=(bY.mul (⟨by grind,by grind⟩:bY i i) g).eq rfl|>.mono (by grind);have V:bY (h-fr u) E:=by unfold bY at*;constructor<;>grind
 have X:=((Q.mul R).add (U.mul V)).add K;refine(X.eq ?_).mono ?_
 ·rw[y];grind
 ·grind
def eb(o:Nat)(B:Rat):Nat->Rat->Rat
 | 0,E=>E
 |k+1,E=>eb o B k (B+7/10*(1/(((2*k+1+o)*(2*k+2+o):Nat):Rat))*E)
theorem PA{y:Int×Int×Int×Int}{o:Nat}{f:Nat->Int×Int×Int×Int}(w:JB y (o:Int) f){Y b B:Rat}(n:0<=b)(j:1/2*b+3*Js<=B)(m:bY (fr (num y.1 y.2.1 y.2.2.1 y.2.2.2)-Y) b)(a:bY Y (7/10)):
  ∀(k:Nat) (h E:Rat),k<=34->0<=E->bY (fr (num (f k).1 (f k).2.1 (f k).2.2.1 (f k).2.2.2)-h) E->bY (fr (num (f 0).1 (f 0).2.1 (f 0).2.2.1 (f 0).2.2.2)-hR o Y k h) (eb o B k E)
 | 0,h,E,_,_,c=>c
 |k+1,h,E,x,l,c=>by
  obtain⟨q,_,p⟩:=w;obtain⟨K,L,M,N,G,H,I,J,r,D,A,d,e,e1,e2,s,t,_,_,_⟩:=(p k (by omega)).out;have i:=iU _ _ _ _ (q (k+1) x);have v:2<=(2*k+1+o)*(2*k+2+o):=by
   have:1*2<=(2*k+1+o)*(2*k+2+o):=qM (by omega) (by omega);omega
  have u:(((2*k+1+o)*(2*k+2+o):Nat):Int)=iP k (o:Int):=by
   unfold iP;push_cast;have:(2*((k:Int)+1)-1+(o:Int))=2*k+1+o:=by omega
   rw[this];have:(2*((k:Int)+1)+(o:Int))=2*k+2+o:=by omega
   rw[this];have:(2*(k:Int)+1+1+(o:Int))=2*k+2+o:=by omega
   first|rw[this]|rfl
  have g:=H8 u v d e e1 e2 s t i.1 (aeQ i.2) n j m a l c;refine PA ⟨q,‹_›,p⟩ n j m a k _ _ (by omega) ?_ g;have z:=lO (((2*k+1+o)*(2*k+2+o):Nat):Rat) (by exact_mod_cast zO _);have:=zN (zN (show(0:Rat)<=7/10 by grind) z) l;have:0<=Js:=by unfold Js;grind
  grind
theorem eb0:eb 0 (1/38685626227668133590597632) 10 1<=1/9223372036854775808:=by decide+kernel
theorem eb1:eb 1 (1/38685626227668133590597632) 10 1<=1/9223372036854775808:=by decide+kernel
theorem ND{y:Int×Int×Int×Int}{o:Nat}(i:o=0\/o=1){f:Nat->Int×Int×Int×Int}(d:JB y (o:Int) f){Y:Rat}(e:bY (fr (num y.1 y.2.1 y.2.2.1 y.2.2.2)-Y) (1/38685626227668133590597632))(g:0<=Y)(h:Y<=7/10):
  bY (fr (num (f 0).1 (f 0).2.1 (f 0).2.2.1 (f 0).2.2.2)-hR o Y 10 0) (1/9223372036854775808):=by
 have a:=iU _ _ _ _ (d.1 10 (by omega));have c:bY (fr (num (f 10).1 (f 10).2.1 (f 10).2.2.1 (f 10).2.2.2)-0) 1:=by
  have:=pB a.1;have:=ST (aeQ a.2);unfold bY;constructor<;>grind
 have:=PA d (b:=1/38685626227668133590597632) (B:=1/38685626227668133590597632) (by grind) (by unfold Js;grind) e ⟨by grind,by grind⟩ 10 0 1 (by omega) (by grind) c;rcases i with rfl|rfl
 ·exact this.mono eb0
 ·exact this.mono eb1
end
section
open SM
def kJ(n:Nat):Nat:=if n=0 then 0 else if n=1800000 then 536870912 else if n=5400000 then 1073741824 else if n<=2700000 then aS n/72057594037927936 else aC (5400000-n)/72057594037927936
def FJ(n:Nat):Bool:=n==0||n==1800000||n==5400000
def T(n:Nat):Rat:=if n<=2700000 then tS n else tC (5400000-n)
theorem XP{A:Nat}{x:Rat}(a:bY (fF*x-(A:Rat)) 2)(hF:Far x):((A/72057594037927936:Nat):Rat)*72057594037927936+17000000000<=fF*x/\fF*x<=(((A/72057594037927936:Nat):Rat)+1)*72057594037927936-17000000000:=by
 obtain⟨f,d,g⟩:=hF;have e:A/72057594037927936=f:=by
  have b:((f*72057594037927936:Nat):Rat)<=((A:Nat):Rat):=by
   rw[Rat.natCast_mul];have:((72057594037927936:Nat):Rat)=72057594037927936:=rfl;unfold bY at a;rw[this];grind
  have c:((A:Nat):Rat)<=(((f+1)*72057594037927936-1000000000:Nat):Rat):=by
   have:(((f+1)*72057594037927936-1000000000:Nat):Rat)=((f:Rat)+1)*72057594037927936-1000000000:=by
    rw[show(f+1)*72057594037927936-1000000000=f*72057594037927936+72057593037927936 by omega,xD,Rat.natCast_mul];have:((72057594037927936:Nat):Rat)=72057594037927936:=rfl;rw[this];have:((72057593037927936:Nat):Rat)=72057593037927936:=rfl;rw[this];grind
   unfold bY at a;rw[this];grind
  have h:=qO.1 b;have i:=qO.1 c;omega
 rw[e];exact⟨d,g⟩
theorem aA0{x:Rat}{A f:Nat}(d:bY (fF*x-(A:Rat)) 2)(b:f*2^56+WW<=A)(c:A+WW<=(f+1)*2^56):Far x:=by
 have e1:=qO.2 b;have e2:=qO.2 c;rw[xD]at e2;have a:(BB:Rat)=2147483648:=rfl;unfold bY at d;refine Ep ⟨f,?_,?_⟩
 ·rw[a];grind
 ·rw[a];grind
theorem z7:Far (tS 2700000):=aA0 (f:=759250124) (JD 2700000 (by omega)) (by decide+kernel) (by decide+kernel)
theorem gap(n:Nat)(e:n<=5400000)(c:FJ n=false):(kJ n:Rat)*72057594037927936+17000000000<=fF*T n/\fF*T n<=((kJ n:Rat)+1)*72057594037927936-17000000000:=by
 simp only[FJ,Bool.or_eq_false_iff,beq_eq_false_iff_ne]at c;obtain⟨⟨a,b⟩,d⟩:=c;unfold kJ T;rw[if_neg a,if_neg b,if_neg d];by_cases h:n<=2700000
 ·rw[if_pos h,if_pos h];refine XP (JD n (by omega)) ?_;rcases qJ n 2700000 with h3|h3
  ·exact aGy n h3 a b
  ·have:n=2700000:=by omega
   rw[this];exact z7
 ·rw[if_neg h,if_neg h];exact XP (UM _ (by omega)) (aGx _ (by omega) (by omega))
theorem JK(n:Nat)(l:n<=5400000)(j:FJ n=true):bY (fF*T n-(kJ n:Rat)*72057594037927936) 1000000000:=by
 simp only[FJ,Bool.or_eq_true,beq_iff_eq]at j;rcases j with(rfl|rfl)|rfl
 ·have h:=JD 0 (by omega);have e:aS 0<=100000000:=by decide+kernel
  have k:((aS 0:Nat):Rat)<=((100000000:Nat):Rat):=qO.2 e;have c:((100000000:Nat):Rat)=100000000:=rfl;have z:(0:Rat)<=((aS 0:Nat):Rat):=by exact_mod_cast zO _
  have f:kJ 0=0:=rfl;have a:((0:Nat):Rat)=0:=rfl;rw[f,a];unfold T;rw[if_pos (by omega)];unfold bY at*;rw[c]at k;constructor<;>grind
 ·have h:=JD 1800000 (by omega);have e1:536870912*72057594037927936<=aS 1800000+100000000:=by decide+kernel
  have e2:aS 1800000<=536870912*72057594037927936+100000000:=by decide+kernel
  have b:((536870912*72057594037927936:Nat):Rat)<=((aS 1800000+100000000:Nat):Rat):=qO.2 e1;have i:((aS 1800000:Nat):Rat)<=((536870912*72057594037927936+100000000:Nat):Rat):=qO.2 e2;rw[xD]at b;have c:((100000000:Nat):Rat)=100000000:=rfl;have d:((536870912*72057594037927936:Nat):Rat)=536870912*72057594037927936:=by decide+kernel
  have g:((536870912*72057594037927936+100000000:Nat):Rat)=536870912*72057594037927936+100000000:=by decide+kernel
  rw[c,d]at b;rw[g]at i;have f:kJ 1800000=536870912:=rfl;have a:((536870912:Nat):Rat)=536870912:=rfl;rw[f,a];unfold T;rw[if_pos (by omega)];unfold bY at*;constructor<;>grind
 ·have h:=UM 0 (by omega);have e1:1073741824*72057594037927936<=aC 0+100000000:=by decide+kernel
  have e2:aC 0<=1073741824*72057594037927936+100000000:=by decide+kernel
  have b:((1073741824*72057594037927936:Nat):Rat)<=((aC 0+100000000:Nat):Rat):=qO.2 e1;have i:((aC 0:Nat):Rat)<=((1073741824*72057594037927936+100000000:Nat):Rat):=qO.2 e2;rw[xD]at b;have c:((100000000:Nat):Rat)=100000000:=rfl;have d:((1073741824*72057594037927936:Nat):Rat)=1073741824*72057594037927936:=by decide+kernel
  have g:((1073741824*72057594037927936+100000000:Nat):Rat)=1073741824*72057594037927936+100000000:=by decide+kernel
  rw[c,d]at b;rw[g]at i;have f:kJ 5400000=1073741824:=rfl;have a:((1073741824:Nat):Rat)=1073741824:=rfl;rw[f,a];unfold T;rw[if_neg (by omega)];unfold bY at*;constructor<;>grind
theorem up(n:Nat)(f:n<5400000):1000000000000<=fF*(T (n+1)-T n):=by
 unfold T;rcases qJ n 2700000 with h|h
 ·rw[if_pos (by omega),if_pos (by omega)];exact upS n h
 ·rcases Nat.eq_or_lt_of_le h with h1|h1
  ·rw[<-h1,if_neg (by omega),if_pos (by omega)];have a:=JD 2700000 (by omega);have b:=UM (5400000-(2700000+1)) (by omega);have e:aS 2700000+1000000000004<=aC (5400000-(2700000+1)):=by decide+kernel
   have d:((aS 2700000+1000000000004:Nat):Rat)<=((aC (5400000-(2700000+1)):Nat):Rat):=qO.2 e;rw[xD]at d;have c:((1000000000004:Nat):Rat)=1000000000004:=rfl;rw[c]at d;unfold bY at*;grind
  ·rw[if_neg (by omega),if_neg (by omega)];have:=aEJ (5400000-(n+1)) (by omega);rw[show 5400000-(n+1)+1=5400000-n by omega]at this;exact this
theorem Ey(n:Nat)(b:n<5400000):kJ n<=kJ (n+1)/\(FJ (n+1)=true->kJ n<kJ (n+1)):=by
 have d:=up n b;have lo:(kJ n:Rat)*72057594037927936-1000000000<=fF*T n:=by
  cases a:FJ n
  ·have:=gap n (by omega) a;grind
  ·have:=JK n (by omega) a;unfold bY at this;grind
 cases a:FJ (n+1)
 ·have:=gap (n+1) (by omega) a;have h:((kJ n:Nat):Rat)<((kJ (n+1)+1:Nat):Rat):=by
   rw[xD];have c:((1:Nat):Rat)=1:=rfl;rw[c];grind
  have:=Rat.natCast_lt_natCast.1 h;exact⟨by omega,by intro h;cases h⟩
 ·have:=JK (n+1) (by omega) a;have h:((kJ n:Nat):Rat)<((kJ (n+1):Nat):Rat):=by
   unfold bY at this;grind
  have:=Rat.natCast_lt_natCast.1 h;exact⟨by omega,fun _=>this⟩
end
section
open Go.RowKit
theorem G2(n h x1 x2 i u0 u1 u2 u3 I J K L k s1 E G:Int)(h0:0<n)(h1:n<=2700000)(h2:n≠1800000)(Q:aU k)
  (u:∀w,Calls zB 232 #[jI jJ n] w (dC w (bA h x1 x2 i)))
  (v:∀w,Calls zB 235 #[bA h x1 x2 i,jI jU 1] w (dC w (bA u0 u1 u2 u3)))
  (x:∀w,Calls zB 234 #[bA h x1 x2 i,bA u0 u1 u2 u3] w (dC w (bA I J K L)))
  (y:∀w,Calls zB 233 #[bA h x1 x2 i,bA I J K L] w (dC w (bA k s1 E G)))(w:World):Calls zB 174 #[jI jJ n] w (eV (k/17179869184) false w):=by
 have u:=zA u;have v:=zA v;have x:=zA x;have y:=zA y;unfold bA at u v x y;obtain⟨g0,g1⟩:=Q;have g2:n≠0:=by omega
 have g4:n≠5400000:=by omega
 go_enter Tryz.func174,Tryz.ntmps174;go_wp2_with fail
 refine(u.out _).mono ?_;rintro e l ⟨rfl,j⟩;have z:DG l w.heap.size 0 0 0 0:=cQ j (heap_alloc_new w _);have H:=zA (((zD w.heap.size w).alloc (zC _) (jC #[jI jU 0,jI jU 0,jI jU 0,jI jU 0] 239)).trans (j.mono (by simp)));have R:=z.lt;have N:=zA (z.alloc (jC #[jI jU h,jI jU x1,jI jU x2,jI jU i] 239));have O:=zA (show DG (l.alloc (jC #[jI jU h,jI jU x1,jI jU x2,jI jU i] 239)) l.heap.size h x1 x2 i from heap_alloc_new l _);obtain⟨⟨a0,a1,a2,a3⟩,a4,a5,a6,a7⟩:=lP (zD l.heap.size l) R z;clear j z;go_wp2_with fail
 go_region_with (first
  |(go_at_call 235;refine(v.out _).mono ?_;rintro e s ⟨rfl,a⟩;have o:=cQ a (by exact N.out);have p:=cQ a (by exact O.out);have U:=o.lt;have V:=p.lt;obtain⟨⟨b0,b1,b2,b3⟩,b4,b5,b6,b7⟩:=lP (zD s.heap.size s) U o;obtain⟨⟨c0,c1,c2,c3⟩,c4,c5,c6,c7⟩:=lP (zD s.heap.size s) V p;have o:=zA o;have p:=zA p;have a:=zA a)
  |(go_at_call 234;refine(x.out _).mono ?_;rintro e t ⟨rfl,b⟩;have q:=cQ b (by exact o.out);have A:=cQ b (by exact p.out);have X:=q.lt;have Y:=A.lt;obtain⟨⟨d0,d1,d2,d3⟩,d4,d5,d6,d7⟩:=lP (zD t.heap.size t) X q;obtain⟨⟨e0,e1,e2,e3⟩,e4,e5,e6,e7⟩:=lP (zD t.heap.size t) Y A;have q:=zA q;have A:=zA A;have b:=zA b)
  |(go_at_call 233;refine(y.out _).mono ?_;rintro e B ⟨rfl,c⟩;have r:=cQ c (by exact q.out);have Z:=r.lt;obtain⟨⟨p0,p1,p2,p3⟩,p4,p5,p6,p7⟩:=lP (zD B.heap.size B) Z r;have r:=zA r;have c:=zA c))
 all_goals (
  have g:=H.out.alloc (by have:=H.out.size;omega) (jC #[jI jU h,jI jU x1,jI jU x2,jI jU i] 239);have d:Below w.heap.size w s:=by first
   |exact g.trans (a.out.mono g.size)
   |exact g.drew.trans (a.out.mono g.size)
  have f:Below w.heap.size w t:=by first
   |exact d.trans (b.out.mono d.size)
   |exact d.drew.trans (b.out.mono d.size)
  have m:Below w.heap.size w B:=by first
   |exact f.trans (c.out.mono f.size)
   |exact f.drew.trans (c.out.mono f.size)
  have D:=r.out.write k s1 E G;have l7:=D.lt;obtain⟨⟨q0,q1,q2,q3⟩,q4,q5,q6,q7⟩:=lP (zD _ _) l7 D;have M:=zA (show eV (k/17179869184) false w (.returned (.tuple #[jI jJ (k/17179869184),.bool false])) ((((B.setCell ⟨w.heap.size,0,none⟩ (jI jU k)).setCell ⟨w.heap.size,1,none⟩ (jI jU s1)).setCell ⟨w.heap.size,2,none⟩ (jI jU E)).setCell ⟨w.heap.size,3,none⟩ (jI jU G))from
   ⟨rfl,(((m.setCell (zC _) _).setCell (zC _) _).setCell (zC _) _).setCell (zC _) _⟩)
  clear g d f m D;go_wp2;go_ret2
  exact M.out)
end
section
open Go.RowKit SM
theorem aCh{n:Nat}{v r:Int}(c:n<=2700000)(a:0<=r)(b:r<10800000)(h:v*10800000+r=363771576891766324280234942777729862653393377328392429958772151117938894466185*(n:Int)):bY (fr v-xR n) (1/158456325028528675187087900672):=by
 have e:(v:Rat)*10800000+(r:Rat)=363771576891766324280234942777729862653393377328392429958772151117938894466185*(n:Rat):=by
  have:((v*10800000+r:Int):Rat)=((363771576891766324280234942777729862653393377328392429958772151117938894466185*(n:Int):Int):Rat):=by rw[h]
  rw[yI,yO,yO]at this;exact this
 have j:(0:Rat)<=(r:Rat):=by exact_mod_cast a
 have g:(r:Rat)<=((10800000:Int):Rat):=qU.2 (aeQ b);have c1:((10800000:Int):Rat)=10800000:=rfl;rw[c1]at g;have i:(0:Rat)<=(n:Rat):=by exact_mod_cast zO _
 have f:(n:Rat)<=((2700000:Nat):Rat):=qO.2 c;have d:((2700000:Nat):Rat)=2700000:=rfl;rw[d]at f;clear h a b c;unfold bY fr xR th Gc;generalize (n:Rat)=N at*;generalize (v:Rat)=V at*;generalize (r:Rat)=R at*;constructor<;>grind
theorem aCk{n:Nat}{x y:Int}(i:n<=2700000)(h:bY (fr x-xR n) (1/158456325028528675187087900672))(a:0<=x)(c:x<=115792089237316195423570985008687907853269984665640564039457584007913129639936)(d:y*115792089237316195423570985008687907853269984665640564039457584007913129639936<=x*x)(f:x*x<(y+2)*115792089237316195423570985008687907853269984665640564039457584007913129639936):bY (fr y-xR n*xR n) (1/38685626227668133590597632):=by
 have g:=SU d f;have b:=DE n (by omega);have u0:=pB a;have u1:=ST c;have w:=h.mul (show bY (fr x+xR n) 2 from⟨by grind,by grind⟩);have e:fr y-xR n*xR n=(fr x-xR n)*(fr x+xR n)-(fr x*fr x-fr y):=by grind
 rw[e];have:Js=1/115792089237316195423570985008687907853269984665640564039457584007913129639936:=rfl;rw[this]at g;unfold bY at*;constructor<;>grind
theorem PM{s f:Int}{x:Rat}(h:bY (fr s-x) (1/4611686018427387904))(a:(f:Rat)*72057594037927936+17000000000<=fF*x)(b:fF*x<=((f:Rat)+1)*72057594037927936-17000000000):f*107839786668602559178668060348078522694548577690162289924414440996864<=s/\s<(f+1)*107839786668602559178668060348078522694548577690162289924414440996864:=by
 have g:fF=77371252455336267181195264:=rfl;rw[g]at a b;have c:((107839786668602559178668060348078522694548577690162289924414440996864:Int):Rat)=107839786668602559178668060348078522694548577690162289924414440996864:=rfl;have c1:((1:Int):Rat)=1:=rfl;constructor
 ·apply qU.1;rw[yO,c];unfold bY fr at h;grind
 ·apply Rat.intCast_lt_intCast.1;rw[yO,yI,c,c1];unfold bY fr at h;grind
theorem Aw{a s1 b c f:Int}(h:aU a/\aU s1/\aU b/\aU c)(d:f*107839786668602559178668060348078522694548577690162289924414440996864<=num a s1 b c)(e:num a s1 b c<(f+1)*107839786668602559178668060348078522694548577690162289924414440996864):a/17179869184=f:=by
 obtain⟨⟨_,_⟩,⟨_,_⟩,⟨_,_⟩,⟨_,_⟩⟩:=h;unfold num at*;omega
theorem G1(n:Nat)(h0:0<n)(I:n<=2700000)(h2:n≠1800000)(w:World):Calls zB 174 #[jI jJ (n:Int)] w (eV (kJ n:Int) false w):=by
 obtain⟨a,b,d,g,r,h,M,N,ex,X⟩:=MI (n:Int) (by omega) (by omega);obtain⟨y,f,hy,u,v,U,Y⟩:=Lz a b d g 1 h (by omega) (by omega);have D:=U.1 0 (by omega);obtain⟨i,j,k,l,z,m,o,Z⟩:=TM a b d g (f 0).1 (f 0).2.1 (f 0).2.2.1 (f 0).2.2.2 h.1 h.2.1 h.2.2.1 h.2.2.2 D.1 D.2.1 D.2.2.1 D.2.2.2;obtain⟨q,s1,s,t,c,O,hc,es,H4⟩:=Hl a b d g i j k l h.1 h.2.1 h.2.2.1 h.2.2.2 z.1 z.2.1 z.2.2.1 z.2.2.2;change num a b d g*10800000+r=_ at ex;change num i j k l*_<=num a b d g*num (f 0).1 (f 0).2.1 (f 0).2.2.1 (f 0).2.2.2 at m;change num a b d g*num (f 0).1 (f 0).2.1 (f 0).2.2.1 (f 0).2.2.2<(num i j k l+2)*_ at o;change num q s1 s t=num a b d g-num i j k l+_ at es;have G:=iU _ _ _ _ h;have R:=iU _ _ _ _ D;have bm:=iU _ _ _ _ z;have bs:=iU _ _ _ _ O;have p:=aCh I M N ex;have E:=aCk I p G.1 (aeQ G.2) u v;have B:=Nf n (by omega);have A:=ND (.inr rfl) U E B.1 B.2;have L:=SU m o;have a0:num i j k l<=num a b d g:=by
  have:num a b d g*num (f 0).1 (f 0).2.1 (f 0).2.2.1 (f 0).2.2.2<=num a b d g*115792089237316195423570985008687907853269984665640564039457584007913129639936:=Int.mul_le_mul_of_nonneg_left (by omega) G.1;generalize num a b d g*num (f 0).1 (f 0).2.1 (f 0).2.2.1 (f 0).2.2.2=P at*;omega
 have H:num q s1 s t=num a b d g-num i j k l:=by
  clear m o ex u v;omega
 have x:fr (num q s1 s t)=fr (num a b d g)-fr (num i j k l):=by
  unfold fr;rw[H,Rat.intCast_sub];grind
 have hT:bY (fr (num q s1 s t)-tS n) (1/4611686018427387904):=by
  have u0:=pB R.1;have u1:=ST (aeQ R.2);have xb:=DE n (by omega);have w1:=p.mul (show bY (1-fr (num (f 0).1 (f 0).2.1 (f 0).2.2.1 (f 0).2.2.2)) 1 from⟨by grind,by grind⟩);have w2:=(show bY (xR n) (4/5)from⟨by grind,xb.2⟩).mul A;have e:fr (num q s1 s t)-tS n=(fr (num a b d g)-xR n)*(1-fr (num (f 0).1 (f 0).2.1 (f 0).2.2.1 (f 0).2.2.2))-xR n*(fr (num (f 0).1 (f 0).2.1 (f 0).2.2.1 (f 0).2.2.2)-hR 1 (xR n*xR n) 10 0)+(fr (num a b d g)*fr (num (f 0).1 (f 0).2.1 (f 0).2.2.1 (f 0).2.2.2)-fr (num i j k l)):=by
   rw[x];unfold tS;grind
  rw[e];have:Js=1/115792089237316195423570985008687907853269984665640564039457584007913129639936:=rfl;rw[this]at L;clear e x A E p;unfold bY at*;constructor<;>grind
 have Q:FJ n=false:=by
  simp only[FJ,Bool.or_eq_false_iff,beq_eq_false_iff_ne];omega
 have K:=gap n (by omega) Q;have J:T n=tS n:=by unfold T;rw[if_pos I]
 rw[J,<-Rat.intCast_natCast]at K;have V:=PM hT K.1 K.2;have ht:=Aw O V.1 V.2;have:=G2 (n:Int) a b d g (f 0).1 (f 0).2.1 (f 0).2.2.1 (f 0).2.2.2 i j k l q s1 s t (by omega) (by omega) (by omega) O.1 X Y Z H4 w;rw[ht]at this;exact this
theorem Re(n:Nat)(h0:2700000<n)(h1:n<5400000)(w:World):Calls zB 174 #[jI jJ (n:Int)] w (eV (kJ n:Int) false w):=by
 have X:((5400000-n:Nat):Int)=5400000-(n:Int):=by omega
 obtain⟨D,E,G,H,r,N,s,u,ex,O⟩:=MI ((5400000-n:Nat):Int) (by omega) (by omega);obtain⟨y,f,hy,a,b,K,Q⟩:=Lz D E G H 0 N (by omega) (by omega);have e:=K.1 0 (by omega);obtain⟨i,s1,j,k,c,v,hc,J,R⟩:=Hl 0 0 0 0 (f 0).1 (f 0).2.1 (f 0).2.2.1 (f 0).2.2.2 ⟨by omega,by omega⟩ ⟨by omega,by omega⟩ ⟨by omega,by omega⟩ ⟨by omega,by omega⟩ e.1 e.2.1 e.2.2.1 e.2.2.2;change num D E G H*10800000+r=_ at ex;change num i s1 j k=num 0 0 0 0-num (f 0).1 (f 0).2.1 (f 0).2.2.1 (f 0).2.2.2+_ at J;have I:=iU _ _ _ _ N;have U:=iU _ _ _ _ e;have bs:=iU _ _ _ _ v;have A:=aCh (n:=5400000-n) (by omega) s u ex;have B:=aCk (by omega) A I.1 (aeQ I.2) a b;have d:=Nf (5400000-n) (by omega);have Y:=ND (.inl rfl) K B d.1 d.2;have x:FJ n=false:=by
  simp only[FJ,Bool.or_eq_false_iff,beq_eq_false_iff_ne];omega
 have m:=gap n (by omega) x;have p:T n=tC (5400000-n):=by unfold T;rw[if_neg (by omega)]
 rw[p,<-Rat.intCast_natCast]at m;have hz:num 0 0 0 0=0:=by decide
 have l:bY (1-fr (num (f 0).1 (f 0).2.1 (f 0).2.2.1 (f 0).2.2.2)-tC (5400000-n)) (1/9223372036854775808):=by
  unfold tC;unfold bY at*;constructor<;>grind
 have L:0<num (f 0).1 (f 0).2.1 (f 0).2.2.1 (f 0).2.2.2:=by
  rcases Int.lt_or_eq_of_le U.1 with h|h
  ·exact h
  ·exfalso;rw[<-h]at l;have z:fr 0=0:=by decide+kernel
   rw[z]at l;have g:fF=77371252455336267181195264:=rfl;rw[g]at m;unfold bY at l;generalize tC (5400000-n)=t at*;have l1:(((kJ n:Int)):Rat)<((1073741824:Int):Rat):=by
    have:((1073741824:Int):Rat)=1073741824:=rfl;rw[this];grind
   have l2:((1073741823:Int):Rat)<(((kJ n:Int)):Rat):=by
    have:((1073741823:Int):Rat)=1073741823:=rfl;rw[this];grind
   have:=Rat.intCast_lt_intCast.1 l1;have:=Rat.intCast_lt_intCast.1 l2;omega
 have o:num i s1 j k=115792089237316195423570985008687907853269984665640564039457584007913129639936-num (f 0).1 (f 0).2.1 (f 0).2.2.1 (f 0).2.2.2:=by
  rw[hz]at J;clear ex a b;omega
 have q:fr (num i s1 j k)=1-fr (num (f 0).1 (f 0).2.1 (f 0).2.2.1 (f 0).2.2.2):=by
  have:((115792089237316195423570985008687907853269984665640564039457584007913129639936:Int):Rat)=115792089237316195423570985008687907853269984665640564039457584007913129639936:=rfl;unfold fr;rw[o,Rat.intCast_sub,this];grind
 have V:bY (fr (num i s1 j k)-tC (5400000-n)) (1/4611686018427387904):=by
  rw[q];exact l.mono (by grind)
 have M:=PM V m.1 m.2;have Z:=Aw v M.1 M.2;have:=G0 (n:Int) D E G H (f 0).1 (f 0).2.1 (f 0).2.2.1 (f 0).2.2.2 i s1 j k (by omega) (by omega) v.1 (X ▸ O) Q R w;rw[Z]at this;exact this
theorem F9(n:Nat)(h:n<=5400000)(w:World):Calls zB 174 #[jI jJ (n:Int)] w (eV (kJ n:Int) (FJ n) w):=by
 by_cases c:n=0
 ·subst c;exact aDO w
 by_cases b:n=1800000
 ·subst b;exact aBf w
 by_cases d:n=5400000
 ·subst d;exact aBg w
 have a:FJ n=false:=by
  simp only[FJ,Bool.or_eq_false_iff,beq_eq_false_iff_ne];omega
 rw[a];rcases qJ 2700000 n with h3|h3
 ·exact Re n h3 (by omega) w
 ·exact G1 n (by omega) h3 b w
end
section
open Go.RowKit SM
theorem XO{m n:Nat}(h:m<=n)(b:n<=5400000):kJ m<=kJ n:=by
 induction n with
 |zero=>
  have:m=0:=by omega
  rw[this];exact zC _
 |succ n a=>
  rcases Nat.eq_or_lt_of_le h with h1|h1
  ·rw[h1];exact zC _
  ·exact zJ (a (by omega) (by omega)) (Ey n (by omega)).1
theorem Ww(n:Nat)(a:n<=5400000):kJ n<=1073741824:=XO (n:=5400000) a (zC _)
def lW(n:Int):Nat:=let m:=n%21600000;if m<=5400000 then m.toNat else if m<=10800000 then(10800000-m).toNat else if m<=16200000 then(m-10800000).toNat else(21600000-m).toNat
def mF(n:Int):Bool:=decide (10800000<n%21600000)
theorem AB(n:Int):lW n<=5400000:=by
 unfold lW;have:=qQ n (show(0:Int)<21600000 by omega);have:=yC n (show(21600000:Int)≠0 by omega);generalize n%21600000=m at*;simp only;split
 ·omega
 ·split
  ·omega
  ·split<;>omega
def QS(k:Nat):Int:=if FJ k then(kJ k:Int) else kJ k+1
def mE(n:Int):Int:=if mF n then-QS (lW n) else kJ (lW n)
def iQ(n:Int):Int:=if mF n then-(kJ (lW n):Int) else QS (lW n)
def bI(v:Value)(w:World)(e:Ending)(w':World):Prop:=e=.returned v/\Below w.heap.size w w'
theorem wO(n:Int)(w:World):Calls zB 121 #[jI jJ n] w (bI (.tuple #[jI jJ (mE n),jI jJ (iQ n)]) w):=by
 obtain⟨V,q⟩:∃V,V=Value.tuple #[jI jJ (mE n),jI jJ (iQ n)]:=⟨_,rfl⟩;have c:∀r,Below w.heap.size w r->bI V w (.returned (.tuple #[jI jJ (mE n),jI jJ (iQ n)])) r:=fun r h=>⟨by rw[q],h⟩;rw[<-q];clear q;have g:=zA (NU n);have s:=AB n;have a:=F9 (lW n) s;have o:=Ww (lW n) s;have u:=qQ n (show(0:Int)<21600000 by omega);have t:=yC n (show(21600000:Int)≠0 by omega);unfold mE iQ QS mF lW at c;unfold lW at a o;generalize n%21600000=m at*;simp only at c a o;by_cases c1:m<=5400000
 ·simp only[if_pos c1]at a o;simp only[if_pos c1,show ¬10800000<m by omega,decide_false,Bool.false_eq_true,if_false]at c;have j:(((m).toNat:Nat):Int)=m:=Int.toNat_of_nonneg (by omega);rw[j]at a;generalize kJ (m).toNat=f at*;have a:=zA a;cases d:FJ (m).toNat
  ·rw[d]at c a;simp only[Bool.false_eq_true,if_false]at c;have c:=zA c;clear d j;go_enter Tryz.func121,Tryz.ntmps121;go_wp2_with fail
   refine(g.out _).mono ?_;rintro e k ⟨rfl,rfl⟩;go_wp2_with fail
   refine(a.out _).mono ?_;rintro e k ⟨rfl,b⟩;have i:=zA b;clear b;go_wp2;go_ret2
   exact c.out _ i.out
  ·rw[d]at c a;simp only[if_true]at c;have c:=zA c;clear d j;go_enter Tryz.func121,Tryz.ntmps121;go_wp2_with fail
   refine(g.out _).mono ?_;rintro e k ⟨rfl,rfl⟩;go_wp2_with fail
   refine(a.out _).mono ?_;rintro e k ⟨rfl,b⟩;have i:=zA b;clear b;go_wp2;go_ret2
   exact c.out _ i.out
 by_cases l:m<=10800000
 ·simp only[if_neg c1,if_pos l]at a o;simp only[if_neg c1,if_pos l,show ¬10800000<m by omega,decide_false,Bool.false_eq_true,if_false]at c;have j:(((10800000-m).toNat:Nat):Int)=10800000-m:=Int.toNat_of_nonneg (by omega);rw[j]at a;generalize kJ (10800000-m).toNat=f at*;have a:=zA a;cases d:FJ (10800000-m).toNat
  ·rw[d]at c a;simp only[Bool.false_eq_true,if_false]at c;have c:=zA c;clear d j;go_enter Tryz.func121,Tryz.ntmps121;go_wp2_with fail
   refine(g.out _).mono ?_;rintro e k ⟨rfl,rfl⟩;go_wp2_with fail
   refine(a.out _).mono ?_;rintro e k ⟨rfl,b⟩;have i:=zA b;clear b;go_wp2;go_ret2
   exact c.out _ i.out
  ·rw[d]at c a;simp only[if_true]at c;have c:=zA c;clear d j;go_enter Tryz.func121,Tryz.ntmps121;go_wp2_with fail
   refine(g.out _).mono ?_;rintro e k ⟨rfl,rfl⟩;go_wp2_with fail
   refine(a.out _).mono ?_;rintro e k ⟨rfl,b⟩;have i:=zA b;clear b;go_wp2;go_ret2
   exact c.out _ i.out
 by_cases p:m<=16200000
 ·simp only[if_neg c1,if_neg l,if_pos p]at a o;simp only[if_neg c1,if_neg l,if_pos p,show 10800000<m by omega,decide_true,if_true]at c;have j:(((m-10800000).toNat:Nat):Int)=m-10800000:=Int.toNat_of_nonneg (by omega);rw[j]at a;generalize kJ (m-10800000).toNat=f at*;have a:=zA a;cases d:FJ (m-10800000).toNat
  ·rw[d]at c a;simp only[Bool.false_eq_true,if_false]at c;have c:=zA c;clear d j;go_enter Tryz.func121,Tryz.ntmps121;go_wp2_with fail
   refine(g.out _).mono ?_;rintro e k ⟨rfl,rfl⟩;go_wp2_with fail
   refine(a.out _).mono ?_;rintro e k ⟨rfl,b⟩;have i:=zA b;clear b;go_wp2;go_ret2
   exact c.out _ i.out
  ·rw[d]at c a;simp only[if_true]at c;have c:=zA c;clear d j;go_enter Tryz.func121,Tryz.ntmps121;go_wp2_with fail
   refine(g.out _).mono ?_;rintro e k ⟨rfl,rfl⟩;go_wp2_with fail
   refine(a.out _).mono ?_;rintro e k ⟨rfl,b⟩;have i:=zA b;clear b;go_wp2;go_ret2
   exact c.out _ i.out
 ·simp only[if_neg c1,if_neg l,if_neg p]at a o;simp only[if_neg c1,if_neg l,if_neg p,show 10800000<m by omega,decide_true,if_true]at c;have j:(((21600000-m).toNat:Nat):Int)=10800000-(m-10800000):=by omega
  rw[j]at a;generalize kJ (21600000-m).toNat=f at*;have a:=zA a;cases d:FJ (21600000-m).toNat
  ·rw[d]at c a;simp only[Bool.false_eq_true,if_false]at c;have c:=zA c;clear d j;go_enter Tryz.func121,Tryz.ntmps121;go_wp2_with fail
   refine(g.out _).mono ?_;rintro e k ⟨rfl,rfl⟩;go_wp2_with fail
   refine(a.out _).mono ?_;rintro e k ⟨rfl,b⟩;have i:=zA b;clear b;go_wp2;go_ret2
   exact c.out _ i.out
  ·rw[d]at c a;simp only[if_true]at c;have c:=zA c;clear d j;go_enter Tryz.func121,Tryz.ntmps121;go_wp2_with fail
   refine(g.out _).mono ?_;rintro e k ⟨rfl,rfl⟩;go_wp2_with fail
   refine(a.out _).mono ?_;rintro e k ⟨rfl,b⟩;have i:=zA b;clear b;go_wp2;go_ret2
   exact c.out _ i.out
end
section
open Go.RowKit SM
theorem mK(n:Int):(mE n=iQ n\/iQ n=mE n+1)/\-1073741824<=mE n/\iQ n<=1073741824:=by
 have s:=Ww (lW n) (AB n);have l:FJ (lW n)=false->kJ (lW n)<1073741824:=by
  intro h;have p:lW n≠5400000:=by
   intro d;rw[d]at h;cases h
  have:=XO (m:=lW n+1) (n:=5400000) (by have:=AB n;omega) (zC _);have q:=up (lW n) (by have:=AB n;omega);have a:=gap (lW n) (AB n) h;rcases qJ (kJ (lW n)) 1073741824 with h5|h5
  ·exact h5
  ·exfalso;have e:kJ (lW n)=1073741824:=by omega
   rw[e]at a;have c:((1073741824:Nat):Rat)=1073741824:=rfl;rw[c]at a;have g:∀k,lW n<=k->k<=5400000->fF*T (lW n)<=fF*T k:=by
    intro k i;induction k with
    |zero=>
     intro _;have:lW n=0:=by omega
     rw[this];exact Rat.le_refl
    |succ k o=>
     intro j;rcases Nat.eq_or_lt_of_le i with h7|h7
     ·rw[h7];exact Rat.le_refl
     ·have:=o (by omega) (by omega);have:=up k (by omega);grind
   have r:=g 5400000 (AB n) (zC _);have b:=JK 5400000 (zC _) rfl;have f:kJ 5400000=1073741824:=rfl;rw[f,c]at b;unfold bY at b;grind
 unfold mE iQ QS;cases h:FJ (lW n)
 ·have:=l h;cases mF n
  ·simp only[Bool.false_eq_true,reduceIte];exact⟨by first|exact .inr trivial|exact .inl rfl|exact .inl trivial|omega,by omega,by omega⟩
  ·simp only[Bool.false_eq_true,reduceIte];exact⟨by first|exact .inr trivial|exact .inl rfl|exact .inl trivial|omega,by omega,by omega⟩
 ·cases mF n
  ·simp only[Bool.false_eq_true,reduceIte];exact⟨by first|exact .inr trivial|exact .inl rfl|exact .inl trivial|omega,by omega,by omega⟩
  ·simp only[reduceIte];exact⟨by first|exact .inr trivial|exact .inl rfl|exact .inl trivial|omega,by omega,by omega⟩
def cmp(n v:Int):Int:=if mE n=iQ n/\v=mE n then 0 else if v<=mE n then 1 else -1
theorem Ok(n v:Int)(w:World):Calls zB 120 #[jI jJ n,jI jJ v] w (bI (jI jJ (cmp n v)) w):=by
 obtain⟨V,g⟩:∃V,V=Value.int jJ (cmp n v):=⟨_,rfl⟩;have b:∀i,Below w.heap.size w i->bI V w (.returned (jI jJ (cmp n v))) i:=fun i h=>⟨by rw[g],h⟩;rw[<-g];clear g;have d:=zA (wO n w);obtain⟨h,j,k⟩:=mK n;unfold cmp at b;generalize mE n=lo at*;generalize iQ n=hi at*;rcases h with rfl|rfl
 ·rcases qV v lo with c|c|c
  ·rw[if_neg (by omega),if_pos (by omega)]at b;have b:=zA b;go_enter Tryz.func120,Tryz.ntmps120;go_wp2_with fail
   refine d.out.mono ?_;rintro e f ⟨rfl,a⟩;have d:=zA a;clear a;go_wp2;go_ret;exact b.out _ d.out
  ·subst c;rw[if_pos (by omega)]at b;have b:=zA b;go_enter Tryz.func120,Tryz.ntmps120;go_wp2_with fail
   refine d.out.mono ?_;rintro e f ⟨rfl,a⟩;have d:=zA a;clear a;go_wp2;go_ret;exact b.out _ d.out
  ·rw[if_neg (by omega),if_neg (by omega)]at b;have b:=zA b;go_enter Tryz.func120,Tryz.ntmps120;go_wp2_with fail
   refine d.out.mono ?_;rintro e f ⟨rfl,a⟩;have d:=zA a;clear a;go_wp2;go_ret;exact b.out _ d.out
 ·by_cases c:v<=lo
  ·rw[if_neg (by omega),if_pos (by omega)]at b;have b:=zA b;go_enter Tryz.func120,Tryz.ntmps120;go_wp2_with fail
   refine d.out.mono ?_;rintro e f ⟨rfl,a⟩;have d:=zA a;clear a;go_wp2;go_ret;exact b.out _ d.out
  ·rw[if_neg (by omega),if_neg (by omega)]at b;have b:=zA b;go_enter Tryz.func120,Tryz.ntmps120;go_wp2_with fail
   refine d.out.mono ?_;rintro e f ⟨rfl,a⟩;have d:=zA a;clear a;go_wp2;go_ret;exact b.out _ d.out
end
section
open Go.RowKit SM
theorem SQ(k:Nat)(a:k<5400000):(kJ k:Int)<QS (k+1):=by
 have:=Ey k a;unfold QS;cases h:FJ (k+1)
 ·simp only[Bool.false_eq_true,reduceIte];omega
 ·simp only[reduceIte];have:=this.2 h;omega
theorem aE9(k:Nat)(a:k<5400000):QS k<=QS (k+1):=by
 have h:=SQ k a;have b:QS k<=kJ k+1:=by
  unfold QS;cases h:FJ k
  ·simp only[Bool.false_eq_true,reduceIte];omega
  ·simp only[reduceIte];omega
 omega
theorem RR(n:Int)(b:0<=n)(a:n<=5400000):mE n=kJ n.toNat/\iQ n=QS n.toNat:=by
 have e:n%21600000=n:=by omega
 unfold mE iQ mF lW;simp only[e,if_pos a,show ¬10800000<n by omega,decide_false,Bool.false_eq_true,reduceIte];exact⟨trivial,trivial⟩
theorem RQ(n:Int)(a:n<0)(b:-5400000<=n):mE n=-QS (-n).toNat/\iQ n=-(kJ (-n).toNat:Int):=by
 have e:n%21600000=n+21600000:=by omega
 unfold mE iQ mF lW;simp only[e,show ¬n+21600000<=5400000 by omega,show ¬n+21600000<=10800000 by omega,show 10800000<n+21600000 by omega,decide_true,reduceIte];by_cases h:n+21600000<=16200000
 ·simp only[if_pos h];rw[show(n+21600000-10800000).toNat=(-n).toNat by omega];exact⟨rfl,rfl⟩
 ·simp only[if_neg h];rw[show(21600000-(n+21600000)).toNat=(-n).toNat by omega];exact⟨rfl,rfl⟩
theorem IG(n:Int)(c:-5400000<=n)(d:n<=5400000):mE (-n)=-iQ n/\iQ (-n)=-mE n:=by
 rcases qV n 0 with h|h|h
 ·have a:=RQ n h c;have b:=RR (-n) (by omega) (by omega);rw[a.1,a.2,b.1,b.2];constructor<;>omega
 ·subst h;decide+kernel
 ·have a:=RR n (by omega) d;have b:=RQ (-n) (by omega) (by omega);rw[a.1,a.2,b.1,b.2,Int.neg_neg];constructor<;>omega
theorem Nh(n:Int)(e:-5400000<=n)(f:n<5400000):mE n<iQ (n+1)/\iQ n<=iQ (n+1):=by
 rcases qV n (-1)with h|h|h
 ·have a:=RQ n (by omega) e;have b:=RQ (n+1) (by omega) (by omega);have c:=SQ (-(n+1)).toNat (by omega);have d:=Ey (-(n+1)).toNat (by omega);rw[show(-(n+1)).toNat+1=(-n).toNat by omega]at c d;rw[a.1,a.2,b.2];constructor<;>omega
 ·subst h;decide+kernel
 ·have a:=RR n (by omega) (by omega);have b:=RR (n+1) (by omega) (by omega);have c:=SQ n.toNat (by omega);have d:=aE9 n.toNat (by omega);rw[show n.toNat+1=(n+1).toNat by omega]at c d;rw[a.1,a.2,b.2];constructor<;>omega
theorem nD{m n:Int}(b:-5400000<=m)(h:m<=n)(c:n<=5400000):iQ m<=iQ n:=by
 obtain⟨d,rfl⟩:∃d:Nat,n=m+d:=⟨(n-m).toNat,by omega⟩;clear h;induction d with
 |zero=>simp
 |succ d a=>
  have:=Nh (m+d) (by omega) (by omega);have:=a (by omega);rw[show m+((d+1:Nat):Int)=m+d+1 by omega];omega
theorem aDX{m n:Int}(c:-5400000<=m)(h:m<n)(d:n<=5400000):mE m<iQ n:=by
 have a:=Nh m c (by omega);have b:=nD (m:=m+1) (n:=n) (by omega) (by omega) d;omega
def oJ(v a:Int):Prop:=-5400000<=a/\a<=5400000/\iQ a<=v/\(a=5400000\/v<iQ (a+1))
theorem VD{v a b:Int}(e:oJ v a)(f:oJ v b):a=b:=by
 obtain⟨g,c,i,j⟩:=e;obtain⟨k,d,l,o⟩:=f;rcases qV a b with h|h|h
 ·exfalso;have:=nD (m:=a+1) (n:=b) (by omega) (by omega) d;omega
 ·exact h
 ·exfalso;have:=nD (m:=b+1) (n:=a) (by omega) (by omega) c;omega
theorem Ka:iQ (-5400000)=-1073741824:=by decide+kernel
theorem Iz(v:Int)(e:-1073741824<=v):∃a,oJ v a:=by
 have b:∀d:Nat,d<=10800000->iQ (5400000-d)<=v->∃a,oJ v a:=by
  intro d;induction d with
  |zero=>intro _ h;exact⟨5400000,by omega,by omega,by simpa using h,.inl rfl⟩
  |succ d f=>
   intro g h;by_cases c:iQ (5400000-d)<=v
   ·exact f (by omega) c
   ·refine⟨5400000-((d+1:Nat):Int),by omega,by omega,h,.inr ?_⟩;rw[show(5400000-((d+1:Nat):Int)+1)=5400000-d by omega];omega
 refine b 10800000 (by omega) ?_;rw[show(5400000-((10800000:Nat):Int))=-5400000 by omega,Ka];exact e
open Classical in
def rW(v:Int):Int:=if h:∃a,oJ v a then Classical.choose h else 0
theorem mW(v:Int)(a:-1073741824<=v):oJ v (rW v):=by
 unfold rW;rw[dif_pos (Iz v a)];exact Classical.choose_spec (Iz v a)
theorem Ck{v a:Int}(c:-1073741824<=v)(b:oJ v a):rW v=a:=VD (mW v c) b
theorem aCT(n v:Int):cmp n v<=0↔iQ n<=v:=by
 obtain⟨h,_,_⟩:=mK n;unfold cmp;split
 ·omega
 ·split<;>omega
theorem aCS(n v:Int):-1<=cmp n v/\cmp n v<=1:=by
 unfold cmp;split
 ·omega
 ·split<;>omega
def mB:Value->Int| .int _ x=>x|_=>0
theorem Ts(v:Int)(o:-1073741824<=v)(w:World):Calls zB 87 #[jI jJ v] w (bI (jI jJ (rW v)) w):=by
 obtain⟨V,k⟩:∃V,V=Value.int jJ (rW v):=⟨_,rfl⟩;have j:∀a p,oJ v a->Below w.heap.size w p->bI V w (.returned (jI jJ a)) p:=fun a p h E=>⟨by rw[k,Ck o h],E⟩;rw[<-k];clear k;have j:=zA j;have z:=zA (fun n w=>Ok n v w);have d:=zA (show -5400000<=(-5400000:Int)/\(-5400000:Int)<5400001/\(5400001:Int)<=5400001/\iQ (-5400000)<=v/\((5400001:Int)=5400001\/v<iQ 5400001)from⟨by omega,by omega,by omega,by rw[Ka];exact o,.inl rfl⟩);clear o;go_enter Tryz.func87,Tryz.ntmps87;go_wp2;go_loopw [3,4] (fun l h wr=>∃low b:Int,l=jI jJ low/\h=jI jJ b/\-5400000<=low/\low<b/\b<=5400001/\iQ low<=v/\(b=5400001\/v<iQ b)/\Below w.heap.size w wr) (fun l h _=>(mB h-mB l).toNat)
 case atStart=>exact⟨_,_,rfl,rfl,d.out.1,d.out.2.1,d.out.2.2.1,d.out.2.2.2.1,.inl rfl,zD _ _⟩
 case round=>
  clear d;obtain⟨low,b,rfl,rfl,D,L,M,u,x,y⟩:=hrel;have q:=zA u;have r:=zA x;have i:=zA y;clear u x y;by_cases H:b-low<=1
  ·have A:=zA (j.out low wr ⟨D,by omega,q.out,by
    rcases r.out with h|h
    ·exact .inl (by omega)
    ·exact .inr (by rw[show low+1=b by omega];exact h)⟩ i.out)
   go_wp2;go_ret;exact A.out
  ·have g:∃m,m=(low+b)/2/\low<m/\m<b:=⟨_,rfl,by omega,by omega⟩;obtain⟨m,g,I,J⟩:=g;have B:=zA (z.out m wr);have K:=aCS m v;have t:=zA (aCT m v);generalize cmp m v=c at*;go_wp2_with fail
   rw[<-g];refine B.out.mono ?_;rintro e N ⟨rfl,f⟩;have s:=zA (i.out.trans (f.mono i.out.size));clear f g;by_cases G:c<=0
   ·go_wp2;go_roundw
    case rel=>exact⟨m,b,rfl,rfl,by omega,by omega,by omega,t.out.1 G,r.out,s.out⟩
    case measure=>simp[mB];omega
   ·go_wp2;go_roundw
    case rel=>exact⟨low,m,rfl,rfl,by omega,by omega,by omega,q.out,.inr (by have:=t.out;omega),s.out⟩
    case measure=>simp[mB];omega
end
section
open Go.RowKit
def aG(lo hi:Int):Value:=jA #[jI jJ lo,jI jJ hi]
def aX(lo hi:Int):Bool:=decide (-2147483648<=lo/\lo<=hi/\hi<=2147483648)
theorem gO(lo hi:Int)(w:World):Calls zB 85 #[aG lo hi] w (bI (.bool (aX lo hi)) w):=by
 obtain⟨V,e⟩:∃V,V=Value.bool (aX lo hi):=⟨_,rfl⟩;have c:∀b f,aX lo hi=b->Below w.heap.size w f->bI V w (.returned (.bool b)) f:=fun b f h g=>⟨by rw[e,h],g⟩;have c:=zA c;have d:=zA ((zD w.heap.size w).alloc (zC _) (jC #[jI jJ lo,jI jJ hi] 99));rw[<-e];clear e;unfold aG;by_cases i:-2147483648<=lo
 ·by_cases j:lo<=hi
  ·by_cases k:hi<=2147483648
   ·have a:=zA (c.out true _ (by unfold aX;rw[decide_eq_true];omega) d.out);go_enter Tryz.func85,Tryz.ntmps85;go_wp2;go_ret;exact a.out
   ·have a:=zA (c.out false _ (by unfold aX;rw[decide_eq_false];omega) d.out);go_enter Tryz.func85,Tryz.ntmps85;go_wp2;go_ret;exact a.out
  ·have a:=zA (c.out false _ (by unfold aX;rw[decide_eq_false];omega) d.out);go_enter Tryz.func85,Tryz.ntmps85;go_wp2;go_ret;exact a.out
 ·have a:=zA (c.out false _ (by unfold aX;rw[decide_eq_false];omega) d.out);go_enter Tryz.func85,Tryz.ntmps85;go_wp2;go_ret;exact a.out
end
section
open Go.RowKit
def cV(t:TypeId)(w:World)(b:Nat)(x y:Int):Prop:=w.heap[b]? =some (jC #[jI jJ x,jI jJ y] t (0,0))
theorem cV.lt{t:TypeId}{w:World}{b:Nat}{x y:Int}(h:cV t w b x y):b<w.heap.size:=by
 unfold cV at h;exact(Array.getElem?_eq_some_iff.1 h).1
theorem cV.below{t:TypeId}{w w':World}{b:Nat}{x y:Int}(h:cV t w b x y)(a:Below w.heap.size w w'):cV t w' b x y:=(a.block b h.lt).trans h
theorem aH{t:TypeId}{w w':World}{b:Nat}{x y:Int}(a:Below w.heap.size w w')(h:cV t w b x y):cV t w' b x y:=h.below a
theorem cV.alloc{t:TypeId}{w:World}{b:Nat}{x y:Int}(h:cV t w b x y)(o:Obj):cV t (w.alloc o) b x y:=h.below ((zD _ _).alloc (zC _) _)
theorem cV.write{t:TypeId}{w:World}{b:Nat}{x y:Int}(h:cV t w b x y)(u v:Int):
  cV t ((w.setCell ⟨b,0,none⟩ (jI jJ u)).setCell ⟨b,1,none⟩ (jI jJ v)) b u v:=by
 unfold cV at*;simp[qK,h,Array.getElem?_modify]
theorem cV.other{t:TypeId}{w:World}{b b':Nat}{x y:Int}(h:cV t w b x y)(c:b≠b')(u v:Value):
  cV t ((w.setCell ⟨b',0,none⟩ u).setCell ⟨b',1,none⟩ v) b x y:=by
 unfold cV at*;have a:b'≠b:=fun e=>c e.symm;simp[qK,h,Array.getElem?_modify,a]
theorem aV{t:TypeId}{w:World}{b:Nat}{x y:Int}(h:cV t w b x y):
  (w.cell? ⟨b,0,none⟩=some (jI jJ x)/\w.cell? ⟨b,1,none⟩=some (jI jJ y))/\w.frozen? ⟨b,0,none⟩=false/\w.frozen? ⟨b,1,none⟩=false:=by
 unfold cV at h;refine⟨⟨?_,?_⟩,?_,?_⟩
 ·simp[World.cell?,h]
 ·simp[World.cell?,h]
 ·simp[World.frozen?,h]
 ·simp[World.frozen?,h]
theorem Zn(x y lo hi:Int)(w:World):Calls zB 86 #[aG x y,jI jJ lo,jI jJ hi] w (bI (.tuple #[aG (max x lo) (min y hi),.bool (decide (max x lo<=min y hi))]) w):=by
 have a:=zA (((zD w.heap.size w).alloc (zC _) (jC #[jI jJ (max x lo),jI jJ (min y hi)] 99)).alloc (by simp) (jC #[jI jJ (max x lo),jI jJ (min y hi)] 99));unfold aG;go_enter Tryz.func86,Tryz.ntmps86;go_wp2;go_region_with fail
 all_goals (
  go_wp2;refine bodyPost_ret (v:=.tuple #[aG (max x lo) (min y hi),.bool (decide (max x lo<=min y hi))]) (by simp[results,Tryz.results86,go_sem,aG]) rfl ⟨rfl,?_⟩;first
   |exact a.out.drew
   |exact a.out)
def dG(x y:Int):Int×Int×Int:=if aX x y=false then(0,0,1) else if max x (-1073741824)<=min y 1073741824 then(rW (max x (-1073741824)),-rW (-min y 1073741824),0) else(0,0,2)
def aT(r:Int×Int×Int):Value:=.tuple #[aG r.1 r.2.1,jI jJ r.2.2]
theorem fG(w:World)(o a:Obj):((w.alloc o).alloc a).heap[w.heap.size]? =some o:=by
 rw[zW _ _ _ (by simp),heap_alloc_new]
theorem dP(w:World)(o a:Obj):((w.alloc o).alloc a).heap[w.heap.size+ 1]? =some a:=by
 have:=heap_alloc_new (w.alloc o) a;simpa using this
theorem Tu(x y:Int)(w:World):Calls zB 45 #[aG x y] w (bI (aT (dG x y)) w):=by
 have n:=zA (gO x y);have m:=zA (Zn x y (-1073741824) 1073741824);have N:Below w.heap.size w ((w.alloc (jC #[jI jJ x,jI jJ y] 99)).alloc (jC #[jI jJ 0,jI jJ 0] 31)):=((zD w.heap.size w).alloc (zC _) _).alloc (by simp) _;obtain⟨V,f⟩:∃V,V=aT (dG x y):=⟨_,rfl⟩;rw[<-f];unfold dG at f;unfold aG at n m ⊢;have c:cV 99 ((w.alloc (jC #[jI jJ x,jI jJ y] 99)).alloc (jC #[jI jJ 0,jI jJ 0] 31)) w.heap.size x y:=fG _ _ _;have d:cV 31 ((w.alloc (jC #[jI jJ x,jI jJ y] 99)).alloc (jC #[jI jJ 0,jI jJ 0] 31)) (w.heap.size+1) 0 0:=dP _ _ _;have i:=zA c;have g:=zA d;have b:=zA N;clear c d N;by_cases r:aX x y=false
 ·rw[if_pos r]at f;rw[r]at n;have f:=zA f;clear r m;go_enter Tryz.func45,Tryz.ntmps45;go_wp2_with fail
  refine(n.out _).mono ?_;rintro e w1 ⟨rfl,a⟩;have c:=aH a i.out;have d:=aH a g.out;have G:=c.lt;have H:=d.lt;obtain⟨⟨s,t⟩,z,A⟩:=aV c;obtain⟨⟨o,q⟩,B,D⟩:=aV d;have b:=zA ((b.out.trans (a.mono b.out.size)).setCell (p:=⟨w.heap.size+1,0,none⟩) (by simp) (jI jJ 0)|>.setCell (p:=⟨w.heap.size+1,1,none⟩) (by simp) (jI jJ 0));clear a c d;go_wp2;refine bodyPost_ret (v:=V) (by rw[f.out];simp[results,Tryz.results45,go_sem,aT,aG,o,q]) rfl ⟨rfl,b.out⟩
 ·rw [if_neg r]at f;have l:aX x y=true:=by cases h:aX x y<;>simp_all
  rw[l]at n;have J:-1073741824<=max x (-1073741824):=by omega
  have K:-1073741824<=-min y 1073741824:=by omega
  have a4:max x (-1073741824)<=2147483648/\-2147483648<=min y 1073741824:=by simp[aX]at l;omega
  clear r l;generalize max x (-1073741824)=u at*;generalize min y 1073741824=v at*;by_cases E:u<=v
  ·rw[if_pos E]at f;rw[decide_eq_true E]at m;have hA:=mW u J;have I:=mW (-v) K;have wv:i64.wrap (-v)=-v:=IntWalk.i64_in _ (by omega);have wq:i64.wrap (-(rW (-v)))=-(rW (-v)):=IntWalk.i64_in _ (by have:=I.1;have:=I.2.1;omega);clear hA I;have f:=zA f;go_enter Tryz.func45,Tryz.ntmps45;go_wp2_with fail
   refine(n.out _).mono ?_;rintro e w1 ⟨rfl,a⟩;have c:=aH a i.out;have d:=aH a g.out;have G:=c.lt;have H:=d.lt;obtain⟨⟨s,t⟩,z,A⟩:=aV c;obtain⟨⟨o,q⟩,B,D⟩:=aV d;have b:=zA (b.out.trans (a.mono b.out.size));have i:=zA c;have g:=zA d;clear a c d;go_wp2_with fail
   refine(m.out _).mono ?_;rintro e w2 ⟨rfl,a⟩;have k:=aH a i.out;have j:=aH a g.out;have Z:=k.lt;have k2:=j.lt;obtain⟨⟨R,c1⟩,U,X⟩:=aV k;obtain⟨⟨Y,d1⟩,d2,d3⟩:=aV j;have b:=zA ((b.out.trans (a.mono b.out.size)).setCell (p:=⟨w.heap.size,0,none⟩) (zC _) (jI jJ u)|>.setCell (p:=⟨w.heap.size,1,none⟩) (zC _) (jI jJ v));have i:=zA (k.write u v);have g:=zA (j.other (b':=w.heap.size) (by omega) (jI jJ u) (jI jJ v));clear a k j;go_wp2_with fail
   generalize (w2.setCell ⟨w.heap.size,0,none⟩ (jI jJ u)).setCell ⟨w.heap.size,1,none⟩ (jI jJ v)=w3 at*;have Z:=i.out.lt;have k2:=g.out.lt;obtain⟨⟨e0,e1⟩,e2,e3⟩:=aV i.out;obtain⟨⟨f0,f1⟩,f2,f3⟩:=aV g.out;clear s t z A o q B D R c1 U X Y d1 d2 d3 G H;go_region_with (
    go_at_call 87
    refine(Ts _ (by omega) _).mono ?_;rintro e w4 ⟨rfl,a⟩;have c:=aH a (by exact i.out);have d:=aH a (by exact g.out);have G:=c.lt;have H:=d.lt;obtain⟨⟨s,t⟩,z,A⟩:=aV c;obtain⟨⟨o,q⟩,B,D⟩:=aV d;have b:=zA (show Below w.heap.size w w4 from by first|exact b.out.trans (a.mono b.out.size)|exact b.out.drew.trans (a.mono b.out.size));have i:=zA c;have g:=zA d;clear a c d)
   all_goals (
    have n3:=g.out.write (rW u) (-rW (-v));obtain⟨⟨L,M⟩,r2,r3⟩:=aV n3;have O:=zA ((b.out.setCell (p:=⟨w.heap.size+1,0,none⟩) (by simp) (jI jJ (rW u))).setCell (p:=⟨w.heap.size+1,1,none⟩) (by simp) (jI jJ (-rW (-v))));clear n3;go_wp2;refine bodyPost_ret (v:=V) (by rw[f.out];simp[results,Tryz.results45,go_sem,aT,aG,L,M]) rfl ⟨rfl,?_⟩;first
     |exact O.out
     |exact O.out.drew)
  ·rw[if_neg E]at f;rw[decide_eq_false E]at m;have f:=zA f;go_enter Tryz.func45,Tryz.ntmps45;go_wp2_with fail
   refine(n.out _).mono ?_;rintro e w1 ⟨rfl,a⟩;have c:=aH a i.out;have d:=aH a g.out;have G:=c.lt;have H:=d.lt;obtain⟨⟨s,t⟩,z,A⟩:=aV c;obtain⟨⟨o,q⟩,B,D⟩:=aV d;have b:=zA (b.out.trans (a.mono b.out.size));have i:=zA c;have g:=zA d;clear a c d;go_wp2_with fail
   refine(m.out _).mono ?_;rintro e w2 ⟨rfl,a⟩;have k:=aH a i.out;have j:=aH a g.out;have Z:=k.lt;have k2:=j.lt;obtain⟨⟨R,c1⟩,U,X⟩:=aV k;obtain⟨⟨Y,d1⟩,d2,d3⟩:=aV j;have Q:=(j.other (b':=w.heap.size) (by omega) (jI jJ u) (jI jJ v)).write 0 0;obtain⟨⟨L,M⟩,r2,r3⟩:=aV Q;have b:=zA ((b.out.trans (a.mono b.out.size)).setCell (p:=⟨w.heap.size,0,none⟩) (zC _) (jI jJ u)|>.setCell (p:=⟨w.heap.size,1,none⟩) (zC _) (jI jJ v)|>.setCell (p:=⟨w.heap.size+1,0,none⟩) (by simp) (jI jJ 0)|>.setCell (p:=⟨w.heap.size+1,1,none⟩) (by simp) (jI jJ 0));clear a k j Q;go_wp2;refine bodyPost_ret (v:=V) (by rw[f.out];simp[results,Tryz.results45,go_sem,aT,aG,L,M]) rfl ⟨rfl,b.out⟩
end
section
open Go.RowKit
theorem Tr(x y:Int):(-5400000<=(dG x y).1/\(dG x y).1<=5400000)/\(-5400000<=(dG x y).2.1/\(dG x y).2.1<=5400000)/\(0<=(dG x y).2.2/\(dG x y).2.2<=2):=by
 unfold dG;split
 ·exact⟨by constructor<;>decide,by constructor<;>decide,by constructor<;>decide⟩
 ·split
  ·have c:=mW (max x (-1073741824)) (by omega);have d:=mW (-min y 1073741824) (by omega);obtain⟨a,b,_,_⟩:=c;obtain⟨e,f,_,_⟩:=d;refine⟨⟨a,b⟩,⟨?_,?_⟩,?_,?_⟩<;>simp only<;>omega
  ·exact⟨by constructor<;>decide,by constructor<;>decide,by constructor<;>decide⟩
end
section
open Go.RowKit
end
section
open Ev (Gl)
open Ev
def Cs:List FuncId:=[2,3,4,5,6,7,8,9,10,11,12,13,14,15,16,17,18,19,20,21,22,23,24,25,26,27,28,29,30,31,32,33,34,35,36,37,38,39,40,41,42,43,44,45,46,47,48,49,50,51,52,53,54,55,56,57,58,59,60,61,62,63,64,65,66,67,68,69,70,71,72,73,74,75,76,77,78,79,80,81,82,83,84,85,86,87,88,89,90,91,92,93,94,95,96,97,98,99,100,101,102,103,104,105,106,107,108,109,110,111,112,113,114,115,116,117,118,119,120,121,122,123,124,125,126,127,128,129,130,131,132,133,134,135,136,137,138,139,140,141,142,143,144,145,146,147,148,149,150,151,152,153,154,155,156,157,158,159,160,161,162,163,164,165,166,167,168,169,170,171,172,173,174,175,176,177,178,179,180,181,182,183,184,185,186,187,188,189,190,191,192,193,194,195,196,197,198,199,200,201,202,203,204,205,206,207,208,209,210,211,212,213,214,215,216,217,218,219,220,221,222,223,224,225,226,227,228,229,230,231,232,233,234,235,236,237,238,239,240,243,244,245,246,247,248,249,250,251,252,253,254,255,256,257,258,259,260,261,262,263,264,265,266,267,268,269,270,271,272,273,274,275,276,277,278,279,280,281,282,283,284,285,286,287,288,289,290,291,292,293,294,295,296,297,298,299,300,301,302,303,304,305,306,307,308,309,310,311,312,313,314,315,316,317,318,319,320,321,322,323,324,325,326,327,328,350]
def Um(P:Program)(g:FuncId):Bool:=
 match P.funcs[g]? with
 |some fn=> !(fn.name== "runtime.NumGoroutine")&& !fn.body.isNone
 |none=>false
theorem Un{P:Program}{g:FuncId}(h:Um P g=true):gU P g:=by
 unfold Um at h;split at h
 ·rename_i b a;rw[Bool.and_eq_true,Bool.not_eq_true',Bool.not_eq_true']at h;exact VN a h.1 h.2
 ·cases h
theorem Sx:∀g∈Cs,gU zB g:=fun g a=>Un (List.all_eq_true.1 (show Cs.all (Um zB)=true by kernel_rfl) g a)
theorem mixed:zB.follows .mixedOrders=true:=by kernel_rfl
theorem eB:∀e∈([]:List (TypeId×Nat)),oT zB e:=fun _ h=>nomatch h
def ev6[Gl](E:List (TypeId×Nat))(O:bW)(g:FuncId)(vs:List Value):Option AV:=t8 zB E Cs O 20 6 g (vs.map AV.v) [] [] aAo
theorem aD[Gl]{E:List (TypeId×Nat)}{O:bW}{g:FuncId}{vs:List Value}{V:Value}{t:Option AV}(a:∀e∈E,oT zB e)(b:aO zB O)(c:ev6 E O g vs=t)(h:t=some (.v V)):aF zB g vs V:=PH mixed a Sx b (c.trans h)
def evm[Gl](E:List (TypeId×Nat))(O:bW)(g:FuncId)(ty:TypeId)(k:Int)(vs:List Value):Option (AV×Blk):=t8 zB E Cs O 20 6 g (.p [] 0::vs.map AV.v) [([],⟨[.v (jI jJ k)],ty⟩)] [] Xv
theorem fN[Gl]{E:List (TypeId×Nat)}{O:bW}{g:FuncId}{a:TypeId}{k c:Int}{vs:List Value}{V:Value}{t:Option (AV×Blk)}(b:∀e∈E,oT zB e)(d:aO zB O)(f:evm E O g a k vs=t)(h:t=some (.v V,⟨[.v (jI jJ c)],a⟩)):sO zB g a k vs V c:=Wi mixed b Sx d (f.trans h)
theorem bZ{x:Int}(h:-9223372036854775808<=x/\x<=9223372036854775807):i64.wrap x=x:=IntWalk.i64_in _ h
@[reducible] def mn(x y:Int):Int:=if y<x then y else x
@[reducible] def mx(x y:Int):Int:=if y>x then y else x
theorem eJ(x y:Int):mn x y<=x/\mn x y<=y/\(mn x y=x\/mn x y=y):=by unfold mn;split<;>omega
theorem dY(x y:Int):x<=mx x y/\y<=mx x y/\(mx x y=x\/mx x y=y):=by unfold mx;split<;>omega
def OE(a b:Int):Int:=if 0<b then a/b else -a/ -b
theorem Nt(a b:Int):(0<=a->0<=a.tmod b)/\(a<=0->a.tmod b<=0):=by
 constructor
 ·intro h;exact Int.tmod_nonneg b h
 ·intro h;have:=Int.tmod_nonneg b (show 0<=-a by omega);rw[Int.neg_tmod]at this;omega
theorem Ws(a b:Int)(c:0<b):a/b=(if a.tmod b≠0/\a<0 then a.tdiv b-1 else a.tdiv b):=by
 have i:=Int.mul_tdiv_add_tmod a b;have d:=Nt a b;have f:=Int.tmod_lt_of_pos a c;have g:=Int.tmod_lt_of_pos (-a) c;rw[Int.neg_tmod]at g;split
 ·rename_i h;have e:a.tmod b<0:=by have:=d.2 (by omega);omega
  refine((Int.ediv_emod_unique c (r:=a.tmod b+b)).2 ⟨?_,by omega,by omega⟩).1;rw[Int.mul_sub];omega
 ·rename_i h;have e:0<=a.tmod b:=by
   by_cases q:a<0
   ·have:a.tmod b=0:=by
     by_cases z:a.tmod b=0
     ·exact z
     ·exact absurd ⟨z,q⟩ h
    omega
   ·exact d.1 (by omega)
  exact((Int.ediv_emod_unique c (r:=a.tmod b)).2 ⟨by omega,e,f⟩).1
theorem Wp(a b:Int)(f:b≠0):OE a b=(if a.tmod b≠0/\(decide (a<0)≠decide (b<0)) then a.tdiv b-1 else a.tdiv b):=by
 unfold OE;by_cases h:0<b
 ·rw[if_pos h,Ws a b h];have:decide (b<0)=false:=decide_eq_false (by omega);rw[this];simp
 ·rw [if_neg h,Ws (-a) (-b) (by omega)];have:decide (b<0)=true:=decide_eq_true (by omega);rw[this,Int.neg_tmod,Int.tmod_neg,Int.neg_tdiv_neg];by_cases c:a.tmod b=0
  ·simp[c]
  ·have e:=Nt a b;have d:(0<a)↔(0<=a):=by
    constructor
    ·intro;omega
    ·intro q;rcases agJ 0 a with z|z
     ·exact z
     ·have:a=0:=by omega
      subst this;simp at c
   have:(-a<0)↔¬a<0:=by
    constructor
    ·intro;omega
    ·intro q;rcases agJ 0 a with z|z
     ·omega
     ·have:a=0:=by omega
      subst this;simp at c
   simp[c,d]
theorem Nq(a b m:Int)(c:-m<=a)(d:a<=m):-m<=a.tdiv b/\a.tdiv b<=m:=by
 have h:=Int.natAbs_tdiv a b;have e:(a.tdiv b).natAbs<=a.natAbs:=by rw[h];exact Nat.div_le_self _ _
 omega
def oN(a b:Int):Int×Int×Int:=if aX a b=true then(a,b,0) else(0,0,5)
def aEW:bW:=(85,eP (fun a b=>.bool (aX a b)))::[]
theorem Kb[Gl]:aO zB aEW:=(aA (cX (fun a b W _=>gO a b W)) dK)
theorem KO[Gl](a b:Int):aF zB 117 [jI jJ a,jI jJ b] (aT (oN a b)):=by
 refine aD eB Kb (t:=cond (!(aX a b)) (some (.v (.tuple ⟨[jA ⟨[jI jJ 0,jI jJ 0]⟩,jI jJ 5]⟩))) (some (.v (.tuple ⟨[jA ⟨[jI jJ a,jI jJ b]⟩,jI jJ 0]⟩)))) (by kernel_rfl) ?_;cases c:(aX a b)
 ·rw[Bool.not_false,cond_true];simp[oN,aT,aG, *]
 ·rw[Bool.not_true,cond_false];simp[oN,aT,aG, *]
def dM(a b c d:Int):Bool:=aX a b&&aX c d
def aEX:bW:=(117,eII (fun a b=>aT (oN a b)))::aEW
theorem Kc[Gl]:aO zB aEX:=(aA (Ef KO) Kb)
theorem nT[Gl](a b c d:Int):aF zB 116 [jA ⟨[jI jJ a,jI jJ b]⟩,jA ⟨[jI jJ c,jI jJ d]⟩] (.bool (dM a b c d)):=by
 refine aD eB Kc (t:=cond (aX a b) (some (.v (.bool (aX c d)))) (some (.v (.bool false)))) (by kernel_rfl) ?_;cases e:(aX a b)
 ·rw[cond_false];simp[dM, *]
 ·rw[cond_true];simp[dM, *]
def pJ(a b:Int):Bool:=decide (a<=0/\0<=b)
def aEY:bW:=(116,GU (fun a b c d=>.bool (dM a b c d)))::aEX
theorem SZ[Gl]:aO zB aEY:=(aA (dZ nT) Kc)
theorem FV[Gl](a b:Int):aF zB 125 [jA ⟨[jI jJ a,jI jJ b]⟩] (.bool (pJ a b)):=by
 refine aD eB SZ (t:=cond (decide (a<=0)) (some (.v (.bool (decide (b>=0))))) (some (.v (.bool false)))) (by kernel_rfl) ?_;cases c:(decide (a<=0))
 ·rw[cond_false];replace c:=of_decide_eq_false c;simp[pJ, *]
 ·rw[cond_true];replace c:=of_decide_eq_true c;simp[pJ, *]
def FK(a b:Int):Bool:=decide (b≠0/\-4611686018427387904<=a/\a<=4611686018427387904)
theorem PK[Gl](a b:Int)(h:FK a b=true):aF zB 118 [jI jJ a,jI jJ b] (jI jJ (OE a b)):=by
 refine aD eB SZ (t:=cond (b==0) (none) (cond (b==0) (none) (cond ((Int.tmod a b) != 0) (cond (!((decide (a<0))==(decide (b<0)))) (some (.v (jI jJ (i64.wrap ((i64.wrap (Int.tdiv a b))-1))))) (some (.v (jI jJ (i64.wrap (Int.tdiv a b)))))) (some (.v (jI jJ (i64.wrap (Int.tdiv a b)))))))) (by kernel_rfl) ?_;obtain⟨g,e,f⟩:=of_decide_eq_true h;have t:=Nq a b 4611686018427387904 e f;have e0:(b==0)=false:=beq_eq_false_iff_ne.2 g;rw[e0,bZ (x:=Int.tdiv a b) (by omega),bZ (x:=Int.tdiv a b-1) (by omega),Wp a b g];simp only[cond_false];by_cases c:a.tmod b=0
 ·simp[c]
 ·by_cases d:decide (a<0)=decide (b<0)
  ·simp[c,d]
  ·have e1:(decide (a<0)==decide (b<0))=false:=beq_eq_false_iff_ne.2 d;have e2:(a.tmod b != 0)=true:=bne_iff_ne.2 c;rw[e1,e2];simp[c,d]
def Bn(a b:Int):Int:=-OE (-a) b
theorem aDd(a b:Int)(e:b≠0)(m:Int)(c:-m<=a)(d:a<=m):-m-1<=OE a b/\OE a b<=m:=by
 rw[Wp a b e];have:=Nq a b m c d;split<;>omega
def aEZ:bW:=(118,PF FK (fun a b=>jI jJ (OE a b)))::aEY
theorem Kd[Gl]:aO zB aEZ:=(aA (BA PK) SZ)
theorem OZ[Gl](a b:Int)(f:FK a b=true):aF zB 119 [jI jJ a,jI jJ b] (jI jJ (Bn a b)):=by
 refine aD eB Kd (t:=cond (FK (i64.wrap (0-a)) b) (some (.v (jI jJ (i64.wrap (0-(OE (i64.wrap (0-a)) b)))))) (none)) (by kernel_rfl) ?_;obtain⟨c,d,e⟩:=of_decide_eq_true f;have t:=aDd (-a) b c 4611686018427387904 (by omega) (by omega);have e1:i64.wrap (0-a)=-a:=by rw[bZ (by omega)];omega
 have e2:FK (-a) b=true:=decide_eq_true ⟨c,by omega,by omega⟩;simp only[e1,e2,cond_true];rw[bZ (by omega)];unfold Bn;rw[ajQ]
def aQ(a b c d:Int):Int×Int×Int:=if dM a b c d=true then oN (a+c) (b+d) else(0,0,1)
theorem pR{a b c d:Int}(h:dM a b c d=true):-2147483648<=a/\a<=b/\b<=2147483648/\-2147483648<=c/\c<=d/\d<=2147483648:=by
 simp[dM,aX]at h;omega
def aGD:bW:=(119,PF FK (fun a b=>jI jJ (Bn a b)))::aEZ
theorem ID[Gl]:aO zB aGD:=(aA (BA OZ) Kd)
theorem pO[Gl](a b c d:Int):aF zB 83 [jA ⟨[jI jJ a,jI jJ b]⟩,jA ⟨[jI jJ c,jI jJ d]⟩] (aT (aQ a b c d)):=by
 refine aD eB ID (t:=cond (!(dM a b c d)) (some (.v (.tuple ⟨[jA ⟨[jI jJ 0,jI jJ 0]⟩,jI jJ 1]⟩))) (lt (oN (i64.wrap (a+c)) (i64.wrap (b+d))) fun e=>some (.v (.tuple ⟨[jA ⟨[jI jJ e.1,jI jJ e.2.1]⟩,jI jJ e.2.2]⟩)))) (by kernel_rfl) ?_;unfold aQ;cases h:dM a b c d
 ·rfl
 ·have:=pR h;rw[bZ (by omega),bZ (by omega)];rfl
def Ai(a b c d:Int):Int×Int×Int:=if dM a b c d=true then oN (a-d) (b-c) else(0,0,1)
theorem NM[Gl](a b c d:Int):aF zB 260 [jA ⟨[jI jJ a,jI jJ b]⟩,jA ⟨[jI jJ c,jI jJ d]⟩] (aT (Ai a b c d)):=by
 refine aD eB ID (t:=cond (!(dM a b c d)) (some (.v (.tuple ⟨[jA ⟨[jI jJ 0,jI jJ 0]⟩,jI jJ 1]⟩))) (lt (oN (i64.wrap (a-d)) (i64.wrap (b-c))) fun e=>some (.v (.tuple ⟨[jA ⟨[jI jJ e.1,jI jJ e.2.1]⟩,jI jJ e.2.2]⟩)))) (by kernel_rfl) ?_;unfold Ai;cases h:dM a b c d
 ·rfl
 ·have:=pR h;rw[bZ (by omega),bZ (by omega)];rfl
def YX(a b:Int):Int×Int×Int:=if aX a b=true then(-b,-a,0) else(0,0,1)
theorem LW[Gl](a b:Int):aF zB 218 [jA ⟨[jI jJ a,jI jJ b]⟩] (aT (YX a b)):=by
 refine aD eB ID (t:=cond (!(aX a b)) (some (.v (.tuple ⟨[jA ⟨[jI jJ 0,jI jJ 0]⟩,jI jJ 1]⟩))) (some (.v (.tuple ⟨[jA ⟨[jI jJ (i64.wrap (0-b)),jI jJ (i64.wrap (0-a))]⟩,jI jJ 0]⟩)))) (by kernel_rfl) ?_;unfold YX;cases h:aX a b
 ·rfl
 ·have:-2147483648<=a/\a<=b/\b<=2147483648:=by simpa[aX]using h
  rw[bZ (by omega),bZ (by omega),ajQ,ajQ];rfl
def tR(a b c d:Int):Int:=mn (mn (mn (a*c) (a*d)) (b*c)) (b*d)
def tQ(a b c d:Int):Int:=mx (mx (mx (a*c) (a*d)) (b*c)) (b*d)
def aZ(a b c d:Int):Int×Int×Int:=if dM a b c d=true then oN (tR a b c d/1073741824) (-(-tQ a b c d/1073741824)) else(0,0,1)
theorem IJ{x y:Int}(a:-2147483648<=x)(b:x<=2147483648)(c:-2147483648<=y)(d:y<=2147483648):-4611686018427387904<=x*y/\x*y<=4611686018427387904:=by
 have h:(x*y).natAbs=x.natAbs*y.natAbs:=Int.natAbs_mul x y;have:x.natAbs*y.natAbs<=2147483648*2147483648:=qM (by omega) (by omega);omega
theorem pW[Gl](a b c d:Int):aF zB 84 [jA ⟨[jI jJ a,jI jJ b]⟩,jA ⟨[jI jJ c,jI jJ d]⟩] (aT (aZ a b c d)):=by
 refine aD eB ID (t:=cond (!(dM a b c d)) (some (.v (.tuple ⟨[jA ⟨[jI jJ 0,jI jJ 0]⟩,jI jJ 1]⟩))) (cond (FK (mn (mn (mn (i64.wrap (a*c)) (i64.wrap (a*d))) (i64.wrap (b*c))) (i64.wrap (b*d))) 1073741824) (cond (FK (mx (mx (mx (i64.wrap (a*c)) (i64.wrap (a*d))) (i64.wrap (b*c))) (i64.wrap (b*d))) 1073741824) (lt (oN (OE (mn (mn (mn (i64.wrap (a*c)) (i64.wrap (a*d))) (i64.wrap (b*c))) (i64.wrap (b*d))) 1073741824) (Bn (mx (mx (mx (i64.wrap (a*c)) (i64.wrap (a*d))) (i64.wrap (b*c))) (i64.wrap (b*d))) 1073741824)) fun f=>some (.v (.tuple ⟨[jA ⟨[jI jJ f.1,jI jJ f.2.1]⟩,jI jJ f.2.2]⟩))) (none)) (none))) (by kernel_rfl) ?_;unfold aZ;cases h:dM a b c d
 ·rfl
 ·have:=pR h;have p:=IJ (x:=a) (y:=c) (by omega) (by omega) (by omega) (by omega);have q:=IJ (x:=a) (y:=d) (by omega) (by omega) (by omega) (by omega);have r:=IJ (x:=b) (y:=c) (by omega) (by omega) (by omega) (by omega);have s:=IJ (x:=b) (y:=d) (by omega) (by omega) (by omega) (by omega);rw[bZ (x:=a*c) (by omega),bZ (x:=a*d) (by omega),bZ (x:=b*c) (by omega),bZ (x:=b*d) (by omega)];have e1:mn (mn (mn (a*c) (a*d)) (b*c)) (b*d)=tR a b c d:=rfl;have e2:mx (mx (mx (a*c) (a*d)) (b*c)) (b*d)=tQ a b c d:=rfl;have g:-4611686018427387904<=tR a b c d/\tR a b c d<=4611686018427387904:=by
   have n:=eJ (a*c) (a*d);have o:=eJ (mn (a*c) (a*d)) (b*c);have e:=eJ (mn (mn (a*c) (a*d)) (b*c)) (b*d);rw[e1]at e;omega
  have i:-4611686018427387904<=tQ a b c d/\tQ a b c d<=4611686018427387904:=by
   have n:=dY (a*c) (a*d);have o:=dY (mx (a*c) (a*d)) (b*c);have e:=dY (mx (mx (a*c) (a*d)) (b*c)) (b*d);rw[e2]at e;omega
  rw[e1,e2];have j:FK (tR a b c d) 1073741824=true:=decide_eq_true ⟨by omega,g.1,g.2⟩;have k:FK (tQ a b c d) 1073741824=true:=decide_eq_true ⟨by omega,i.1,i.2⟩;rw[j,k];have l:OE (tR a b c d) 1073741824=tR a b c d/1073741824:=rfl;have m:Bn (tQ a b c d) 1073741824=-(-tQ a b c d/1073741824):=rfl;rw[l,m];rfl
end
end
end Go.Proofs.YtlbklncoihhfcaaGreatDoor
