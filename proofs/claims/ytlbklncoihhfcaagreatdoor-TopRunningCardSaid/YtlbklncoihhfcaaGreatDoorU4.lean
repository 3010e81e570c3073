/-
     .
-/
import Derived.Test.YtlbklncoihhfcaaGreatDoorU3
import Derived.Laws.StructEq
import Derived.Deep.CutRange
import Derived.Deep.CutBlock
set_option maxRecDepth 100000
set_option maxHeartbeats 4000000
open Go.RowKit.Below renaming refl→zD
open _root_.Int renaming add_mul→aiX,lt_trichotomy→qV,mul_nonneg→zX,natCast_ediv→xS,natCast_emod→xG,natCast_mul→yU
open Go.Lib renaming hid→zA
open _root_.Nat renaming le_refl→zC,lt_or_ge→qJ,mod_lt→yX,mul_comm→qH,mul_le_mul→qM,mul_le_mul_left→qD,mul_le_mul_right→zR,pow_succ→yT
open Go.Proofs.Tryz renaming prog→zB
open Go.World renaming drewN→qE,setCell→qK
open Go.IntKind (i64 u64)
open Go.Value renaming int→jI
open Go.IntKind renaming i64→jJ
open Go.IntKind renaming u64→jU
open Go.Obj renaming cells→jC
namespace Go.Proofs.YtlbklncoihhfcaaGreatDoor
section
open Go.RowKit
def gA(V:Int):Value:=bA (V/6277101735386680763835789423207666416102355444464034512896) (V/340282366920938463463374607431768211456%18446744073709551616) (V/18446744073709551616%18446744073709551616) (V%18446744073709551616)
def IU(V:Int):Prop:=0<=V/\V<115792089237316195423570985008687907853269984665640564039457584007913129639936
theorem bJ{V:Int}(h:IU V):∃a b c d:Int,(aU a/\aU b/\aU c/\aU d)/\num a b c d=V/\gA V=bA a b c d:=by
 obtain⟨e,f⟩:=h;refine⟨_,_,_,_,⟨⟨?_,?_⟩,⟨?_,?_⟩,⟨?_,?_⟩,⟨?_,?_⟩⟩,?_,rfl⟩;all_goals (first|omega|(unfold num;omega))
theorem AS{a b c d:Int}(h:aU a/\aU b/\aU c/\aU d):gA (num a b c d)=bA a b c d:=by
 obtain⟨⟨_,_⟩,⟨_,_⟩,⟨_,_⟩,⟨_,_⟩⟩:=h;have e0:num a b c d/6277101735386680763835789423207666416102355444464034512896=a:=by unfold num;omega
 have e1:num a b c d/340282366920938463463374607431768211456%18446744073709551616=b:=by unfold num;omega
 have e2:num a b c d/18446744073709551616%18446744073709551616=c:=by unfold num;omega
 have e:num a b c d%18446744073709551616=d:=by unfold num;omega
 unfold gA;rw[e0,e1,e2,e]
theorem lG(x y b:Int)(d:aU x)(e:aU y)(a:0<=b/\b<=1):∃s c:Int,aU s/\(0<=c/\c<=1)/\s=x+y+b-18446744073709551616*c/\∀w,(callFunc 241 #[jI jU x,jI jU y,jI jU b]).run zB w=.ok (.value (.tuple #[jI jU s,jI jU c])) w:=by
 obtain⟨f,h⟩:=d;obtain⟨g,i⟩:=e;refine⟨(x+y+b)%18446744073709551616,(x+y+b)/18446744073709551616,⟨by omega,by omega⟩,⟨by omega,by omega⟩,by omega,fun w=>kI x y b f g a w⟩
theorem Ui(a b:Int)(E:IU a)(G:IU b)(w:World):Calls zB 322 #[gA a,gA b] w (bI (gA ((a-b)%115792089237316195423570985008687907853269984665640564039457584007913129639936)) w):=by
 obtain⟨t,u,v,x,⟨c,d,e,f⟩,rfl,D⟩:=bJ E;obtain⟨y,z,A,B,⟨g,h,i,j⟩,rfl,eb⟩:=bJ G;rw[D,eb];obtain⟨n,L,r,d3,N,K⟩:=fS x B 0 f j (by omega);obtain⟨m,k,q,d2,e2,J⟩:=fS v A L e i d3;obtain⟨s1,c1,p,d1,e1,I⟩:=fS u z k d h d2;obtain⟨l,O,o,M,e0,E0⟩:=fS t y c1 c g d1;have H:(num t u v x-num y z A B)%115792089237316195423570985008687907853269984665640564039457584007913129639936=num l s1 m n:=by
  obtain⟨_,_⟩:=o;obtain⟨_,_⟩:=p;obtain⟨_,_⟩:=q;obtain⟨_,_⟩:=r;clear E0 I J K;unfold num;omega
 rw[H,AS ⟨o,p,q,r⟩];clear D eb H E G;clear o p q r M d1 d2 d3 e0 e1 e2 N c d e f g h i j;have s:=zA (show ∀c1 k:Array Value,bI (bA l s1 m n) w (.returned (bA l s1 m n)) (((w.alloc (jC c1 284)).alloc (jC k 284)).alloc (jC #[jI jU l,jI jU s1,jI jU m,jI jU n] 284)).drew.drew.drew.drew from fun c1 k=>⟨rfl,((((((zD _ _).alloc (zC _) _).alloc (by simp) _).alloc (by simp;omega) _).drew).drew).drew.drew⟩);unfold bA at s ⊢;go_enter Tryz.func322,Tryz.ntmps322;go_wp2;refine wp_loop_rounds 5 ?_;rw[rounds_succ];go_wp2;go_region
 go_wp2;rw[rounds_succ];go_wp2;go_region
 go_wp2;rw[rounds_succ];go_wp2;go_region
 go_wp2;rw[rounds_succ];go_wp2;go_region
 go_wp2;rw[rounds_succ];go_wp2;simp[bodyPost,results,Tryz.results322,go_sem];exact s.out _ _
theorem Tv(a b:Int)(E:IU a)(G:IU b)(w:World):Calls zB 323 #[gA a,gA b] w (bI (gA ((a+b)%115792089237316195423570985008687907853269984665640564039457584007913129639936)) w):=by
 obtain⟨t,u,v,x,⟨c,d,e,f⟩,rfl,D⟩:=bJ E;obtain⟨y,z,A,B,⟨g,h,i,j⟩,rfl,eb⟩:=bJ G;rw[D,eb];obtain⟨n,L,r,d3,N,K⟩:=lG x B 0 f j (by omega);obtain⟨m,k,q,d2,e2,J⟩:=lG v A L e i d3;obtain⟨s1,c1,p,d1,e1,I⟩:=lG u z k d h d2;obtain⟨l,O,o,M,e0,E0⟩:=lG t y c1 c g d1;have H:(num t u v x+num y z A B)%115792089237316195423570985008687907853269984665640564039457584007913129639936=num l s1 m n:=by
  obtain⟨_,_⟩:=o;obtain⟨_,_⟩:=p;obtain⟨_,_⟩:=q;obtain⟨_,_⟩:=r;clear E0 I J K;unfold num;omega
 rw[H,AS ⟨o,p,q,r⟩];clear D eb H E G;clear o p q r M d1 d2 d3 e0 e1 e2 N c d e f g h i j;have s:=zA (show ∀c1 k:Array Value,bI (bA l s1 m n) w (.returned (bA l s1 m n)) (((w.alloc (jC c1 284)).alloc (jC k 284)).alloc (jC #[jI jU l,jI jU s1,jI jU m,jI jU n] 284)).drew.drew.drew.drew from fun c1 k=>⟨rfl,((((((zD _ _).alloc (zC _) _).alloc (by simp) _).alloc (by simp;omega) _).drew).drew).drew.drew⟩);unfold bA at s ⊢;go_enter Tryz.func323,Tryz.ntmps323;go_wp2;refine wp_loop_rounds 5 ?_;rw[rounds_succ];go_wp2;go_region
 go_wp2;rw[rounds_succ];go_wp2;go_region
 go_wp2;rw[rounds_succ];go_wp2;go_region
 go_wp2;rw[rounds_succ];go_wp2;go_region
 go_wp2;rw[rounds_succ];go_wp2;simp[bodyPost,results,Tryz.results323,go_sem];exact s.out _ _
theorem wP(a n:Int)(D:IU a)(b:0<=n)(c:n<=4611686018427387904)(w:World):Calls zB 290 #[gA a,jI jU n] w (bI (gA (a*n%115792089237316195423570985008687907853269984665640564039457584007913129639936)) w):=by
 obtain⟨d,f,g,h,⟨i,j,k,l⟩,rfl,B⟩:=bJ D;rw[B];obtain⟨x3,y3,t,Q,t3,y,d3,L,q,J,z3⟩:=mC h n 0 4611686018427387904 l b c (by omega) (by omega) (by omega);obtain⟨x2,y2,s,O,t2,x,d2,e2,p,I,z2⟩:=mC g n t3 4611686018427387904 k b c (by omega) d3.1 d3.2;obtain⟨x1,y1,s1,N,t1,v,d1,e1,o,H,z1⟩:=mC f n t2 4611686018427387904 j b c (by omega) d2.1 d2.2;obtain⟨Z,y0,r,M,Y,u,K,e0,m,G,z0⟩:=mC d n t1 4611686018427387904 i b c (by omega) d1.1 d1.2;have E:num d f g h*n%115792089237316195423570985008687907853269984665640564039457584007913129639936=num r s1 s t:=by
  have e:num d f g h*n=d*n*6277101735386680763835789423207666416102355444464034512896+f*n*340282366920938463463374607431768211456+g*n*18446744073709551616+h*n:=by unfold num;grind
  rw[e];obtain⟨_,_⟩:=u;obtain⟨_,_⟩:=v;obtain⟨_,_⟩:=x;obtain⟨_,_⟩:=y;clear m o p q G H I J i j k l;generalize d*n=R at*;generalize f*n=U at*;generalize g*n=V at*;generalize h*n=X at*;unfold num;omega
 rw[E,AS ⟨u,v,x,y⟩];clear B E D e0 e1 e2 L K d1 d2 d3 u v x y;have m:=zA m;have o:=zA o;have p:=zA p;have q:=zA q;have A:=zA (show ∀c1:Array Value,bI (bA r s1 s t) w (.returned (bA r s1 s t)) ((w.alloc (jC c1 284)).alloc (jC #[jI jU r,jI jU s1,jI jU s,jI jU t] 284))from fun c1=>⟨rfl,((zD _ _).alloc (zC _) _).alloc (by simp) _⟩);unfold bA at A ⊢;go_enter Tryz.func290,Tryz.ntmps290;go_wp2;refine wp_loop_rounds 5 ?_;rw[rounds_succ];go_wp2_with (first|(go_at_call 236;refine(q.out _).mono ?_;rintro e z ⟨rfl,rfl⟩))
 rw[rounds_succ];go_wp2_with (first|(go_at_call 236;refine(p.out _).mono ?_;rintro e z ⟨rfl,rfl⟩))
 rw[rounds_succ];go_wp2_with (first|(go_at_call 236;refine(o.out _).mono ?_;rintro e z ⟨rfl,rfl⟩))
 rw[rounds_succ];go_wp2_with (first|(go_at_call 236;refine(m.out _).mono ?_;rintro e z ⟨rfl,rfl⟩))
 rw[rounds_succ];go_wp2_with fail
 simp[bodyPost,results,Tryz.results290,go_sem];exact A.out _
theorem OW(a d:Int)(U:IU a)(k:0<d)(b:d<4294967296)(w:World):Calls zB 305 #[gA a,jI jU d] w (bI (gA (a/d)) w):=by
 obtain⟨D,E,G,H,⟨g,h,i,j⟩,rfl,I⟩:=bJ U;rw[I];obtain⟨X,r0,N,p,M,l,e0,E0⟩:=dQ 0 D d k b (by omega) k g.1 g.2;obtain⟨s1,r1,O,q,d1,m,e1,z⟩:=dQ r0 E d k b M l h.1 h.2;obtain⟨Y,r2,Q,r,d2,n,e2,A⟩:=dQ r1 G d k b d1 m i.1 i.2;obtain⟨Z,r3,R,s,d3,o,e3,B⟩:=dQ r2 H d k b d2 n j.1 j.2;have V:num D E G H/d=num X s1 Y Z:=by
  have e:num D E G H=r3+num X s1 Y Z*d:=by
   clear E0 z A B I;unfold num;grind
  rw[e,Int.add_mul_ediv_right _ _ (by omega),Int.ediv_eq_zero_of_lt d3 o];omega
 rw[V,AS ⟨⟨N,p⟩,⟨O,q⟩,⟨Q,r⟩,⟨R,s⟩⟩];clear I V U;clear N p O q Q r R s M l d1 m d2 n d3 o e0 e1 e2 e3 g h i j k b;have E0:=zA E0;have z:=zA z;have A:=zA A;have B:=zA B;unfold bA;go_enter Tryz.func305,Tryz.ntmps305;go_wp2;refine wp_loop_rounds 5 ?_;rw[rounds_succ];go_wp2_with fail
 refine(E0.out _).mono ?_;rintro e L ⟨rfl,c⟩;obtain⟨w1,rfl,K,J⟩:=mD _ _ _ _ c;clear c;go_wp2_with fail
 rw[rounds_succ];go_wp2_with fail
 refine(z.out _).mono ?_;rintro e L ⟨rfl,c⟩;obtain⟨w2,rfl,x,t⟩:=mD _ _ _ _ c;clear c;rw[K]at t x;go_wp2_with fail
 rw[rounds_succ];go_wp2_with fail
 refine(A.out _).mono ?_;rintro e L ⟨rfl,c⟩;obtain⟨w3,rfl,y,u⟩:=mD _ _ _ _ c;clear c;rw[x]at u y;go_wp2_with fail
 rw[rounds_succ];go_wp2_with fail
 refine(B.out _).mono ?_;rintro e L ⟨rfl,c⟩;obtain⟨w4,rfl,f,v⟩:=mD _ _ _ _ c;clear c;rw[y]at v f;go_wp2_with fail
 rw[rounds_succ];go_wp2_with fail
 have hB:=(((J.trans t).trans u).trans v);simp[bodyPost,results,Tryz.results305,go_sem,f];exact⟨rfl,(hB.alloc (by rw[f];exact zC _) _).alloc (by simp[f]) _⟩
end
section
open Go.RowKit
theorem V6(a b:Int)(j:IU a)(f:IU b)(w:World):Calls zB 291 #[gA a,gA b] w (bI (.bool (decide (a<b))) w):=by
 obtain⟨k,l,m,n,⟨⟨_,_⟩,⟨_,_⟩,⟨_,_⟩,⟨_,_⟩⟩,g,u⟩:=bJ j;obtain⟨o,p,q,r,⟨⟨_,_⟩,⟨_,_⟩,⟨_,_⟩,⟨_,_⟩⟩,i,eb⟩:=bJ f;rw[u,eb];obtain⟨V,s⟩:∃V,V=Value.bool (decide (a<b)):=⟨_,rfl⟩;rw[<-s];have d:∀v:Bool,decide (a<b)=v->∀t,Below w.heap.size w t->bI V w (.returned (.bool v)) t:=fun v h t f=>⟨by rw[s,h],f⟩;have c:=zA (((zD w.heap.size w).alloc (zC _) (jC #[jI jU k,jI jU l,jI jU m,jI jU n] 284)).alloc (by simp) (jC #[jI jU o,jI jU p,jI jU q,jI jU r] 284));unfold num at g i;unfold bA;clear s u eb;rcases qV k o with h|h|h
 ·have e:=zA (d true (by rw[decide_eq_true];omega));clear d g i j f;go_enter Tryz.func291,Tryz.ntmps291;go_wp2;refine wp_loop_rounds 5 ?_;rw[rounds_succ];go_wp2;go_quiet (fail)
  go_wp2;go_quiet (fail)
  go_wp2;go_ret;refine e.out _ ?_;first
   |exact(below_drewN (below_drewN (below_drewN (below_drewN (below_drewN c.out _) _) _) _) _)
   |exact(below_drewN (below_drewN (below_drewN (below_drewN c.out _) _) _) _)
   |exact(below_drewN (below_drewN (below_drewN c.out _) _) _)
   |exact(below_drewN (below_drewN c.out _) _)
   |exact(below_drewN c.out _)
 ·subst h;rcases qV l p with h|h|h
  ·have e:=zA (d true (by rw[decide_eq_true];omega));clear d g i j f;go_enter Tryz.func291,Tryz.ntmps291;go_wp2;refine wp_loop_rounds 5 ?_;rw[rounds_succ];go_wp2;go_quiet (fail)
   go_wp2;rw[rounds_succ];go_wp2;go_quiet (fail)
   go_wp2;go_quiet (fail)
   go_wp2;go_ret;refine e.out _ ?_;first
    |exact(below_drewN (below_drewN (below_drewN (below_drewN (below_drewN c.out _) _) _) _) _)
    |exact(below_drewN (below_drewN (below_drewN (below_drewN c.out _) _) _) _)
    |exact(below_drewN (below_drewN (below_drewN c.out _) _) _)
    |exact(below_drewN (below_drewN c.out _) _)
    |exact(below_drewN c.out _)
  ·subst h;rcases qV m q with h|h|h
   ·have e:=zA (d true (by rw[decide_eq_true];omega));clear d g i j f;go_enter Tryz.func291,Tryz.ntmps291;go_wp2;refine wp_loop_rounds 5 ?_;rw[rounds_succ];go_wp2;go_quiet (fail)
    go_wp2;rw[rounds_succ];go_wp2;go_quiet (fail)
    go_wp2;rw[rounds_succ];go_wp2;go_quiet (fail)
    go_wp2;go_quiet (fail)
    go_wp2;go_ret;refine e.out _ ?_;first
     |exact(below_drewN (below_drewN (below_drewN (below_drewN (below_drewN c.out _) _) _) _) _)
     |exact(below_drewN (below_drewN (below_drewN (below_drewN c.out _) _) _) _)
     |exact(below_drewN (below_drewN (below_drewN c.out _) _) _)
     |exact(below_drewN (below_drewN c.out _) _)
     |exact(below_drewN c.out _)
   ·subst h;rcases qV n r with h|h|h
    ·have e:=zA (d true (by rw[decide_eq_true];omega));clear d g i j f;go_enter Tryz.func291,Tryz.ntmps291;go_wp2;refine wp_loop_rounds 5 ?_;rw[rounds_succ];go_wp2;go_quiet (fail)
     go_wp2;rw[rounds_succ];go_wp2;go_quiet (fail)
     go_wp2;rw[rounds_succ];go_wp2;go_quiet (fail)
     go_wp2;rw[rounds_succ];go_wp2;go_quiet (fail)
     go_wp2;go_quiet (fail)
     go_wp2;go_ret;refine e.out _ ?_;first
      |exact(below_drewN (below_drewN (below_drewN (below_drewN (below_drewN c.out _) _) _) _) _)
      |exact(below_drewN (below_drewN (below_drewN (below_drewN c.out _) _) _) _)
      |exact(below_drewN (below_drewN (below_drewN c.out _) _) _)
      |exact(below_drewN (below_drewN c.out _) _)
      |exact(below_drewN c.out _)
    ·subst h;have e:=zA (d false (by rw[decide_eq_false];omega));clear d g i j f;go_enter Tryz.func291,Tryz.ntmps291;go_wp2;refine wp_loop_rounds 5 ?_;rw[rounds_succ];go_wp2;go_quiet (fail)
     go_wp2;rw[rounds_succ];go_wp2;go_quiet (fail)
     go_wp2;rw[rounds_succ];go_wp2;go_quiet (fail)
     go_wp2;rw[rounds_succ];go_wp2;go_quiet (fail)
     go_wp2;rw[rounds_succ];go_wp2;go_ret;refine e.out _ ?_;first
      |exact(below_drewN (below_drewN (below_drewN (below_drewN (below_drewN c.out _) _) _) _) _)
      |exact(below_drewN (below_drewN (below_drewN (below_drewN c.out _) _) _) _)
      |exact(below_drewN (below_drewN (below_drewN c.out _) _) _)
      |exact(below_drewN (below_drewN c.out _) _)
      |exact(below_drewN c.out _)
    ·have e:=zA (d (decide (n<r)) (by rw[decide_eq_false (by omega),decide_eq_false (by omega)]));clear d g i j f;go_enter Tryz.func291,Tryz.ntmps291;go_wp2;refine wp_loop_rounds 5 ?_;rw[rounds_succ];go_wp2;go_quiet (fail)
     go_wp2;rw[rounds_succ];go_wp2;go_quiet (fail)
     go_wp2;rw[rounds_succ];go_wp2;go_quiet (fail)
     go_wp2;rw[rounds_succ];go_wp2;go_quiet (fail)
     go_wp2;go_quiet (fail)
     go_wp2;go_ret;refine e.out _ ?_;first
      |exact(below_drewN (below_drewN (below_drewN (below_drewN (below_drewN c.out _) _) _) _) _)
      |exact(below_drewN (below_drewN (below_drewN (below_drewN c.out _) _) _) _)
      |exact(below_drewN (below_drewN (below_drewN c.out _) _) _)
      |exact(below_drewN (below_drewN c.out _) _)
      |exact(below_drewN c.out _)
   ·have e:=zA (d (decide (m<q)) (by rw[decide_eq_false (by omega),decide_eq_false (by omega)]));clear d g i j f;go_enter Tryz.func291,Tryz.ntmps291;go_wp2;refine wp_loop_rounds 5 ?_;rw[rounds_succ];go_wp2;go_quiet (fail)
    go_wp2;rw[rounds_succ];go_wp2;go_quiet (fail)
    go_wp2;rw[rounds_succ];go_wp2;go_quiet (fail)
    go_wp2;go_quiet (fail)
    go_wp2;go_ret;refine e.out _ ?_;first
     |exact(below_drewN (below_drewN (below_drewN (below_drewN (below_drewN c.out _) _) _) _) _)
     |exact(below_drewN (below_drewN (below_drewN (below_drewN c.out _) _) _) _)
     |exact(below_drewN (below_drewN (below_drewN c.out _) _) _)
     |exact(below_drewN (below_drewN c.out _) _)
     |exact(below_drewN c.out _)
  ·have e:=zA (d (decide (l<p)) (by rw[decide_eq_false (by omega),decide_eq_false (by omega)]));clear d g i j f;go_enter Tryz.func291,Tryz.ntmps291;go_wp2;refine wp_loop_rounds 5 ?_;rw[rounds_succ];go_wp2;go_quiet (fail)
   go_wp2;rw[rounds_succ];go_wp2;go_quiet (fail)
   go_wp2;go_quiet (fail)
   go_wp2;go_ret;refine e.out _ ?_;first
    |exact(below_drewN (below_drewN (below_drewN (below_drewN (below_drewN c.out _) _) _) _) _)
    |exact(below_drewN (below_drewN (below_drewN (below_drewN c.out _) _) _) _)
    |exact(below_drewN (below_drewN (below_drewN c.out _) _) _)
    |exact(below_drewN (below_drewN c.out _) _)
    |exact(below_drewN c.out _)
 ·have e:=zA (d (decide (k<o)) (by rw[decide_eq_false (by omega),decide_eq_false (by omega)]));clear d g i j f;go_enter Tryz.func291,Tryz.ntmps291;go_wp2;refine wp_loop_rounds 5 ?_;rw[rounds_succ];go_wp2;go_quiet (fail)
  go_wp2;go_quiet (fail)
  go_wp2;go_ret;refine e.out _ ?_;first
   |exact(below_drewN (below_drewN (below_drewN (below_drewN (below_drewN c.out _) _) _) _) _)
   |exact(below_drewN (below_drewN (below_drewN (below_drewN c.out _) _) _) _)
   |exact(below_drewN (below_drewN (below_drewN c.out _) _) _)
   |exact(below_drewN (below_drewN c.out _) _)
   |exact(below_drewN c.out _)
end
section
open Go.RowKit
structure Mac2 (a b o c s c':Int):Prop where
 out:∃hi lo s1 k1 h1 k2:Int,(∀w,Calls zB 236 #[jI jU a,jI jU b] w fun e w'=>e=.returned (.tuple #[jI jU hi,jI jU lo])/\w'=w)/\
  (∀w,(callFunc 241 #[jI jU lo,jI jU o,jI jU 0]).run zB w=.ok (.value (.tuple #[jI jU s1,jI jU k1])) w)/\u64.wrap (hi+k1)=h1/\
  (∀w,(callFunc 241 #[jI jU s1,jI jU c,jI jU 0]).run zB w=.ok (.value (.tuple #[jI jU s,jI jU k2])) w)/\u64.wrap (h1+k2)=c'
theorem bU(a b o c:Int)(l:aU a)(m:aU b)(p:aU o)(n:aU c):∃s c':Int,aU s/\aU c'/\o+a*b+c=s+18446744073709551616*c'/\Mac2 a b o c s c':=by
 obtain⟨f,g⟩:=l;obtain⟨d,i⟩:=m;obtain⟨v,x⟩:=p;obtain⟨j,c1⟩:=n;have q:0<=a*b:=zX f d;have r:a*b<=18446744073709551615*18446744073709551615:=Int.mul_le_mul (by omega) (by omega) d (by decide);have k:∀w,Calls zB 236 #[jI jU a,jI jU b] w fun e t=>e=.returned (.tuple #[jI jU (a*b/18446744073709551616),jI jU (a*b%18446744073709551616)])/\t=w:=fun w=>(uP a b ⟨f,g⟩ ⟨d,i⟩ w).mono fun _ _ h=>⟨h.1,h.2.symm⟩;generalize u:a*b=P at*;refine⟨((P%18446744073709551616+o)%18446744073709551616+c)%18446744073709551616,P/18446744073709551616+(P%18446744073709551616+o)/18446744073709551616+((P%18446744073709551616+o)%18446744073709551616+c)/18446744073709551616,⟨by omega,by omega⟩,⟨by omega,by omega⟩,by omega,
  ⟨P/18446744073709551616,P%18446744073709551616,(P%18446744073709551616+o)%18446744073709551616,(P%18446744073709551616+o)/18446744073709551616,P/18446744073709551616+(P%18446744073709551616+o)/18446744073709551616,((P%18446744073709551616+o)%18446744073709551616+c)/18446744073709551616,k,fun w=>?_,?_,fun w=>?_,?_⟩⟩
 ·have:=kI (P%18446744073709551616) o 0 (by omega) (by omega) (by omega) w;simpa using this
 ·exact bG _ (by omega) (by omega)
 ·have:=kI ((P%18446744073709551616+o)%18446744073709551616) c 0 (by omega) j (by omega) w;simpa using this
 ·exact bG _ (by omega) (by omega)
theorem Oe(a:Option Addr)(w:World):(Instr.arrayAt 284 (.slice a 4 7)).run zB w=.ok (.pointer a) w:=run_arrayAt w 284 209 4 a 4 7 (by kernel_rfl) (by decide)
theorem Ol(v z D E G H I J p1 c1 p2 c2 p3 c3 p4 j p5 c5 p6 c6 p7 c7 p8 m p9 c9 R K U L V d X N Y O a4 Q a5 e:Int)(m1:Mac2 E J 0 0 p1 c1)(m2:Mac2 E I 0 c1 p2 c2)(m3:Mac2 E H 0 c2 p3 c3)(m4:Mac2 E G 0 c3 p4 j)(m5:Mac2 D J p2 0 p5 c5)(m6:Mac2 D I p3 c5 p6 c6)(m7:Mac2 D H p4 c6 p7 c7)(m8:Mac2 D G j c7 p8 m)(m9:Mac2 z J p6 0 p9 c9)(n:Mac2 z I p7 c9 R K)(o:Mac2 z H p8 K U L)(p:Mac2 z G m L V d)(q:Mac2 v J R 0 X N)(r:Mac2 v I U N Y O)(t:Mac2 v H V O a4 Q)(u:Mac2 v G d Q a5 e)(g4:aU j)(g8:aU m)(f:aU d)(g:aU e)(w:World):Calls zB 306 #[bA v z D E,bA G H I J] w (dC w (bA a5 a4 Y X)):=by
 have m1:=zA m1;have m2:=zA m2;have m3:=zA m3;have m4:=zA m4;have m5:=zA m5;have m6:=zA m6;have m7:=zA m7;have m8:=zA m8;have m9:=zA m9;have n:=zA n;have o:=zA o;have p:=zA p;have q:=zA q;have r:=zA r;have t:=zA t;have u:=zA u;have g4:=zA g4;have g8:=zA g8;have f:=zA f;have g:=zA g;unfold bA;go_enter Tryz.func306,Tryz.ntmps306;go_wp2;refine wp_loop_rounds 5 ?_;rw[rounds_succ];go_wp2_with fail
 refine wp_loop_rounds 5 ?_;rw[rounds_succ];go_wp2_with fail
 obtain⟨hi,lo,s,k,h,l,M,A,x,B,y⟩:=m1.out.out;have M:=zA M;go_quiet (first|(go_at_call 236;refine Calls.quiet_of_same (M.out _)))
 simp only[aJ];rename_i nq;have c:=aK w w nq ⟨rfl,zD _ _⟩;generalize qE w nq=w1 at*;obtain⟨a,b⟩:=c;go_wp2_with fail
 clear A x B y;rw[rounds_succ];go_wp2_with fail
 obtain⟨hi,lo,s,k,h,l,M,A,x,B,y⟩:=m2.out.out;have M:=zA M;go_quiet (first|(go_at_call 236;refine Calls.quiet_of_same (M.out _)))
 simp only[aJ];rename_i nq;have c:=aK w1 w nq ⟨a,b⟩;generalize qE w1 nq=w2 at*;clear a b;obtain⟨a,b⟩:=c;go_wp2_with fail
 clear A x B y;rw[rounds_succ];go_wp2_with fail
 obtain⟨hi,lo,s,k,h,l,M,A,x,B,y⟩:=m3.out.out;have M:=zA M;go_quiet (first|(go_at_call 236;refine Calls.quiet_of_same (M.out _)))
 simp only[aJ];rename_i nq;have c:=aK w2 w nq ⟨a,b⟩;generalize qE w2 nq=w3 at*;clear a b;obtain⟨a,b⟩:=c;go_wp2_with fail
 clear A x B y;rw[rounds_succ];go_wp2_with fail
 obtain⟨hi,lo,s,k,h,l,M,A,x,B,y⟩:=m4.out.out;have M:=zA M;go_quiet (first|(go_at_call 236;refine Calls.quiet_of_same (M.out _)))
 simp only[aJ];rename_i nq;have c:=aK w3 w nq ⟨a,b⟩;generalize qE w3 nq=w4 at*;clear a b;obtain⟨a,b⟩:=c;go_wp2_with fail
 clear A x B y;rw[rounds_succ];have Z:u64.wrap j=j:=bG _ g4.out.1 g4.out.2;have i:u64.wrap (0+j)=j:=by rw[Int.zero_add];exact Z
 go_wp2_with fail
 clear Z i;rw[rounds_succ];go_wp2_with fail
 refine wp_loop_rounds 5 ?_;rw[rounds_succ];go_wp2_with fail
 obtain⟨hi,lo,s,k,h,l,M,A,x,B,y⟩:=m5.out.out;have M:=zA M;go_quiet (first|(go_at_call 236;refine Calls.quiet_of_same (M.out _)))
 simp only[aJ];rename_i nq;have c:=aK w4 w nq ⟨a,b⟩;generalize qE w4 nq=w5 at*;clear a b;obtain⟨a,b⟩:=c;go_wp2_with fail
 clear A x B y;rw[rounds_succ];go_wp2_with fail
 obtain⟨hi,lo,s,k,h,l,M,A,x,B,y⟩:=m6.out.out;have M:=zA M;go_quiet (first|(go_at_call 236;refine Calls.quiet_of_same (M.out _)))
 simp only[aJ];rename_i nq;have c:=aK w5 w nq ⟨a,b⟩;generalize qE w5 nq=w6 at*;clear a b;obtain⟨a,b⟩:=c;go_wp2_with fail
 clear A x B y;rw[rounds_succ];go_wp2_with fail
 obtain⟨hi,lo,s,k,h,l,M,A,x,B,y⟩:=m7.out.out;have M:=zA M;go_quiet (first|(go_at_call 236;refine Calls.quiet_of_same (M.out _)))
 simp only[aJ];rename_i nq;have c:=aK w6 w nq ⟨a,b⟩;generalize qE w6 nq=w7 at*;clear a b;obtain⟨a,b⟩:=c;go_wp2_with fail
 clear A x B y;rw[rounds_succ];go_wp2_with fail
 obtain⟨hi,lo,s,k,h,l,M,A,x,B,y⟩:=m8.out.out;have M:=zA M;go_quiet (first|(go_at_call 236;refine Calls.quiet_of_same (M.out _)))
 simp only[aJ];rename_i nq;have c:=aK w7 w nq ⟨a,b⟩;generalize qE w7 nq=w8 at*;clear a b;obtain⟨a,b⟩:=c;go_wp2_with fail
 clear A x B y;rw[rounds_succ];have Z:u64.wrap m=m:=bG _ g8.out.1 g8.out.2;have i:u64.wrap (0+m)=m:=by rw[Int.zero_add];exact Z
 go_wp2_with fail
 clear Z i;rw[rounds_succ];go_wp2_with fail
 refine wp_loop_rounds 5 ?_;rw[rounds_succ];go_wp2_with fail
 obtain⟨hi,lo,s,k,h,l,M,A,x,B,y⟩:=m9.out.out;have M:=zA M;go_quiet (first|(go_at_call 236;refine Calls.quiet_of_same (M.out _)))
 simp only[aJ];rename_i nq;have c:=aK w8 w nq ⟨a,b⟩;generalize qE w8 nq=w9 at*;clear a b;obtain⟨a,b⟩:=c;go_wp2_with fail
 clear A x B y;rw[rounds_succ];go_wp2_with fail
 obtain⟨hi,lo,s,k,h,l,M,A,x,B,y⟩:=n.out.out;have M:=zA M;go_quiet (first|(go_at_call 236;refine Calls.quiet_of_same (M.out _)))
 simp only[aJ];rename_i nq;have c:=aK w9 w nq ⟨a,b⟩;generalize qE w9 nq=a6 at*;clear a b;obtain⟨a,b⟩:=c;go_wp2_with fail
 clear A x B y;rw[rounds_succ];go_wp2_with fail
 obtain⟨hi,lo,s,k,h,l,M,A,x,B,y⟩:=o.out.out;have M:=zA M;go_quiet (first|(go_at_call 236;refine Calls.quiet_of_same (M.out _)))
 simp only[aJ];rename_i nq;have c:=aK a6 w nq ⟨a,b⟩;generalize qE a6 nq=a7 at*;clear a b;obtain⟨a,b⟩:=c;go_wp2_with fail
 clear A x B y;rw[rounds_succ];go_wp2_with fail
 obtain⟨hi,lo,s,k,h,l,M,A,x,B,y⟩:=p.out.out;have M:=zA M;go_quiet (first|(go_at_call 236;refine Calls.quiet_of_same (M.out _)))
 simp only[aJ];rename_i nq;have c:=aK a7 w nq ⟨a,b⟩;generalize qE a7 nq=a9 at*;clear a b;obtain⟨a,b⟩:=c;go_wp2_with fail
 clear A x B y;rw[rounds_succ];have Z:u64.wrap d=d:=bG _ f.out.1 f.out.2;have i:u64.wrap (0+d)=d:=by rw[Int.zero_add];exact Z
 go_wp2_with fail
 clear Z i;rw[rounds_succ];go_wp2_with fail
 refine wp_loop_rounds 5 ?_;rw[rounds_succ];go_wp2_with fail
 obtain⟨hi,lo,s,k,h,l,M,A,x,B,y⟩:=q.out.out;have M:=zA M;go_quiet (first|(go_at_call 236;refine Calls.quiet_of_same (M.out _)))
 simp only[aJ];rename_i nq;have c:=aK a9 w nq ⟨a,b⟩;generalize qE a9 nq=b4 at*;clear a b;obtain⟨a,b⟩:=c;go_wp2_with fail
 clear A x B y;rw[rounds_succ];go_wp2_with fail
 obtain⟨hi,lo,s,k,h,l,M,A,x,B,y⟩:=r.out.out;have M:=zA M;go_quiet (first|(go_at_call 236;refine Calls.quiet_of_same (M.out _)))
 simp only[aJ];rename_i nq;have c:=aK b4 w nq ⟨a,b⟩;generalize qE b4 nq=b5 at*;clear a b;obtain⟨a,b⟩:=c;go_wp2_with fail
 clear A x B y;rw[rounds_succ];go_wp2_with fail
 obtain⟨hi,lo,s,k,h,l,M,A,x,B,y⟩:=t.out.out;have M:=zA M;go_quiet (first|(go_at_call 236;refine Calls.quiet_of_same (M.out _)))
 simp only[aJ];rename_i nq;have c:=aK b5 w nq ⟨a,b⟩;generalize qE b5 nq=b6 at*;clear a b;obtain⟨a,b⟩:=c;go_wp2_with fail
 clear A x B y;rw[rounds_succ];go_wp2_with fail
 obtain⟨hi,lo,s,k,h,l,M,A,x,B,y⟩:=u.out.out;have M:=zA M;go_quiet (first|(go_at_call 236;refine Calls.quiet_of_same (M.out _)))
 simp only[aJ];rename_i nq;have c:=aK b6 w nq ⟨a,b⟩;generalize qE b6 nq=b7 at*;clear a b;obtain⟨a,b⟩:=c;go_wp2_with fail
 clear A x B y;rw[rounds_succ];have Z:u64.wrap e=e:=bG _ g.out.1 g.out.2;have i:u64.wrap (0+e)=e:=by rw[Int.zero_add];exact Z
 go_wp2_with fail
 clear Z i;rw[rounds_succ];have HA:=Oe;go_wp2_with fail
 simp[bodyPost,results,Tryz.results306,go_sem,a];exact⟨rfl,(((b.alloc (by rw[a];exact zC _) _).alloc (by simp[a]) _).alloc (by simp[a];omega) _).alloc (by simp[a];omega) _⟩
theorem VJ(a b:Int)(ha:IU a)(hb:IU b)(w:World):Calls zB 306 #[gA a,gA b] w (bI (gA (a*b/6277101735386680763835789423207666416102355444464034512896%115792089237316195423570985008687907853269984665640564039457584007913129639936)) w):=by
 obtain⟨c,d,e,f,⟨k,l,m,n⟩,rfl,ea⟩:=bJ ha;obtain⟨g,h,i,j,⟨o,p,q,r⟩,rfl,eb⟩:=bJ hb;rw[ea,eb];have s:aU 0:=⟨by omega,by omega⟩;obtain⟨p1,c1,u1,v1,e1,m1⟩:=bU f j 0 0 n r s s;obtain⟨p2,c2,u2,v2,e2,m2⟩:=bU f i 0 c1 n q s v1;obtain⟨p3,c3,u3,v3,e3,m3⟩:=bU f h 0 c2 n p s v2;obtain⟨p4,c4,u4,v4,e4,m4⟩:=bU f g 0 c3 n o s v3;obtain⟨p5,c5,u5,v5,e5,m5⟩:=bU e j p2 0 m r u2 s;obtain⟨p6,c6,u6,v6,e6,m6⟩:=bU e i p3 c5 m q u3 v5;obtain⟨p7,c7,u7,v7,e7,m7⟩:=bU e h p4 c6 m p u4 v6;obtain⟨p8,c8,u8,v8,e8,m8⟩:=bU e g c4 c7 m o v4 v7;obtain⟨p9,c9,u9,v9,e9,m9⟩:=bU d j p6 0 l r u6 s;obtain⟨V,B,u10,Z,a9,L⟩:=bU d i p7 c9 l q u7 v9;obtain⟨X,D,u11,a4,b4,M⟩:=bU d h p8 B l p u8 Z;obtain⟨Y,E,u12,z,b5,N⟩:=bU d g c8 D l o v8 a4;obtain⟨u,G,u13,a5,b6,O⟩:=bU c j V 0 k r u10 s;obtain⟨v,H,u14,a6,b7,Q⟩:=bU c i X G k q u11 a5;obtain⟨x,I,u15,a7,b8,R⟩:=bU c h Y H k p u12 a6;obtain⟨y,J,u16,A,b9,U⟩:=bU c g E I k o z a7;have HM:=Ol c d e f g h i j p1 c1 p2 c2 p3 c3 p4 c4 p5 c5 p6 c6 p7 c7 p8 c8 p9 c9 V B X D Y E u G v H x I y J m1 m2 m3 m4 m5 m6 m7 m8 m9 L M N O Q R U v4 v8 z A w;clear m1 m2 m3 m4 m5 m6 m7 m8 m9 L M N O Q R U;have t:num c d e f*num g h i j=J*726838724295606890549323807888004534353641360687318060281490199180639288113397923326191050713763565560762521606266177933534601628614656+y*39402006196394479212279040100143613805079739270465446667948293404245721771497210611414266254884915640806627990306816+x*2135987035920910082395021706169552114602704522356652769947041607822219725780640550022962086936576+v*115792089237316195423570985008687907853269984665640564039457584007913129639936+u*6277101735386680763835789423207666416102355444464034512896+p9*340282366920938463463374607431768211456+p5*18446744073709551616+p1:=by
  have K:num c d e f*num g h i j=c*g*39402006196394479212279040100143613805079739270465446667948293404245721771497210611414266254884915640806627990306816+c*h*2135987035920910082395021706169552114602704522356652769947041607822219725780640550022962086936576+c*i*115792089237316195423570985008687907853269984665640564039457584007913129639936+c*j*6277101735386680763835789423207666416102355444464034512896+d*g*2135987035920910082395021706169552114602704522356652769947041607822219725780640550022962086936576+d*h*115792089237316195423570985008687907853269984665640564039457584007913129639936+d*i*6277101735386680763835789423207666416102355444464034512896+d*j*340282366920938463463374607431768211456+e*g*115792089237316195423570985008687907853269984665640564039457584007913129639936+e*h*6277101735386680763835789423207666416102355444464034512896+e*i*340282366920938463463374607431768211456+e*j*18446744073709551616+f*g*6277101735386680763835789423207666416102355444464034512896+f*h*340282366920938463463374607431768211456+f*i*18446744073709551616+f*j*1:=by unfold num;grind
  rw[K];clear K HM ea eb ha hb s k l m n o p q r u1 v1 u2 v2 u3 v3 u4 v4 u5 v5 u6 v6 u7 v7 u8 v8 u9 v9 u10 Z u11 a4 u12 z u13 a5 u14 a6 u15 a7 u16 A;generalize c*g=c0 at*;generalize c*h=d0 at*;generalize c*i=d5 at*;generalize c*j=d6 at*;generalize d*g=d7 at*;generalize d*h=d8 at*;generalize d*i=d9 at*;generalize d*j=f0 at*;generalize e*g=f1 at*;generalize e*h=f2 at*;generalize e*i=f3 at*;generalize e*j=f4 at*;generalize f*g=f5 at*;generalize f*h=f6 at*;generalize f*i=f7 at*;generalize f*j=f8 at*;omega
 have hs:num c d e f*num g h i j/6277101735386680763835789423207666416102355444464034512896%115792089237316195423570985008687907853269984665640564039457584007913129639936=num y x v u:=by
  rw[t];obtain⟨_,_⟩:=A;obtain⟨_,_⟩:=u16;obtain⟨_,_⟩:=u15;obtain⟨_,_⟩:=u14;obtain⟨_,_⟩:=u13;obtain⟨_,_⟩:=u9;obtain⟨_,_⟩:=u5;obtain⟨_,_⟩:=u1;clear HM ea eb ha hb s k l m n o p q r t e1 e2 e3 e4 e5 e6 e7 e8 e9 a9 b4 b5 b6 b7 b8 b9;unfold num;omega
 rw[hs,AS ⟨u16,u15,u14,u13⟩];exact HM
end
section
open Go.RowKit
def Blk(w:World)(b:Nat)(a0 a1 a2 a3:Int):Prop:=w.heap[b]? =some (jC #[jI jU a0,jI jU a1,jI jU a2,jI jU a3] 284 (0,0))
theorem Blk.lt{w:World}{b:Nat}{a c d e:Int}(h:Blk w b a c d e):b<w.heap.size:=by
 unfold Blk at h;exact(Array.getElem?_eq_some_iff.1 h).1
theorem bF{w w':World}{b:Nat}{a c d e:Int}(f:Below w.heap.size w w')(h:Blk w b a c d e):Blk w' b a c d e:=(f.block b h.lt).trans h
theorem Blk.alloc{w:World}{b:Nat}{a c d e:Int}(h:Blk w b a c d e)(o:Obj):Blk (w.alloc o) b a c d e:=bF ((zD _ _).alloc (zC _) _) h
theorem Blk.write{w:World}{b:Nat}{f g i j:Int}(h:Blk w b f g i j)(a c d e:Int):
  Blk ((((w.setCell ⟨b,0,none⟩ (jI jU a)).setCell ⟨b,1,none⟩ (jI jU c)).setCell ⟨b,2,none⟩ (jI jU d)).setCell ⟨b,3,none⟩ (jI jU e)) b a c d e:=by
 unfold Blk at*;simp[qK,h,Array.getElem?_modify]
theorem Blk.other{w:World}{b b':Nat}{c d f g:Int}(h:Blk w b c d f g)(i:b≠b')(j k l m:Value):
  Blk ((((w.setCell ⟨b',0,none⟩ j).setCell ⟨b',1,none⟩ k).setCell ⟨b',2,none⟩ l).setCell ⟨b',3,none⟩ m) b c d f g:=by
 unfold Blk at*;have a:b'≠b:=fun e=>i e.symm;simp[qK,h,Array.getElem?_modify,a]
theorem eS{w:World}{b:Nat}{a c d e:Int}(h:Blk w b a c d e):
  (w.cell? ⟨b,0,none⟩=some (jI jU a)/\w.cell? ⟨b,1,none⟩=some (jI jU c)/\w.cell? ⟨b,2,none⟩=some (jI jU d)/\w.cell? ⟨b,3,none⟩=some (jI jU e))/\
  w.frozen? ⟨b,0,none⟩=false/\w.frozen? ⟨b,1,none⟩=false/\w.frozen? ⟨b,2,none⟩=false/\w.frozen? ⟨b,3,none⟩=false:=by
 unfold Blk at h;refine⟨⟨?_,?_,?_,?_⟩,?_,?_,?_,?_⟩<;>simp[World.cell?,World.frozen?,h]
theorem aDC(w:World):Calls zB 304 #[] w (bI (gA 19720096697726538562396133364228268891463450865190089732560) w):=by
 have e:gA 19720096697726538562396133364228268891463450865190089732560=bA 3 2611923443488327891 1376283091369227076 11820040416388919760:=by unfold gA;simp
 rw[e];have a:=zA ((zD w.heap.size w).alloc (zC _) (jC #[jI jU 3,jI jU 2611923443488327891,jI jU 1376283091369227076,jI jU 11820040416388919760] 284));unfold bA;go_enter Tryz.func304,Tryz.ntmps304;go_wp2;refine bodyPost_ret (v:=bA 3 2611923443488327891 1376283091369227076 11820040416388919760) (by simp[results,Tryz.results304,go_sem,bA]) rfl ⟨rfl,a.out⟩
theorem aEL(a b c d e f g h:Int)(w:World):(Op.equalIn 10000 284 (.agg #[jI jU a,jI jU b,jI jU c,jI jU d]) (.agg #[jI jU e,jI jU f,jI jU g,jI jU h])).run zB w=.ok (a==e&&(b==f&&(c==g&&d==h))) w:=by
 have u3:=Tryz.underlying209;have m:=Tryz.isAgg209;have n:=Tryz.sizeOf209;rw[show(10000:Nat)=9999+1 from rfl,Op.equalIn];simp only[Sem.run_bind,run_underlying Tryz.underlying284,Result.andThen_ok];simp only[Std.Legacy.Range.forIn_eq_forIn_range',Std.Legacy.Range.size,Nat.sub_zero,Nat.add_sub_cancel,Nat.div_one,List.range'_succ,List.range'_zero,List.forIn_cons,List.forIn_nil];go_simp
 by_cases i:a=e<;>by_cases j:b=f<;>by_cases k:c=g<;>by_cases l:d=h<;>simp[i,j,k,l]
end
section
open Go.RowKit
def oR(term sq n:Nat):Nat:=(term*sq/6277101735386680763835789423207666416102355444464034512896%115792089237316195423570985008687907853269984665640564039457584007913129639936)/((n+1)*(n+2))
def OO(minus:Bool)(sum term:Nat):Nat:=if minus then(sum+115792089237316195423570985008687907853269984665640564039457584007913129639936-term)%115792089237316195423570985008687907853269984665640564039457584007913129639936 else(sum+term)%115792089237316195423570985008687907853269984665640564039457584007913129639936
def GK:Nat->Bool->Nat->Nat->Nat->Nat->Nat
 | 0,_,sum,_,_,_=>sum
 |f+1,minus,sum,term,sq,n=>if term=0 then sum else GK f (!minus) (OO minus sum (oR term sq n)) (oR term sq n) sq (n+2)
def aCl(w:World)(b:Nat)(V:Nat):Prop:=∃a0 a1 a2 a3:Int,(aU a0/\aU a1/\aU a2/\aU a3)/\num a0 a1 a2 a3=(V:Int)/\gA (V:Int)=bA a0 a1 a2 a3/\Blk w b a0 a1 a2 a3
def aCn(w:World)(b7 b8:Nat)(F Q n R:Nat)(v2 v9:Value)(wr:World):Prop:=
 ∃(j:Nat) (m:Bool) (S T:Nat),v2=jI jU ((n+2*j:Nat):Int)/\v9=.bool m/\aCl wr b7 S/\aCl wr b8 T/\aCl wr (w.heap.size+1) Q/\Blk wr (w.heap.size+1+1) 0 0 0 0/\T*2^j<=F/\j<=200/\GK (300-j) m S T Q (n+2*j)=R/\Below w.heap.size w wr
theorem aBb(T Q n:Nat)(b:Q<=6277101735386680763835789423207666416102355444464034512896):2*oR T Q n<=T:=by
 unfold oR;have c:T*Q/6277101735386680763835789423207666416102355444464034512896<=T:=by
  have:T*Q<=T*6277101735386680763835789423207666416102355444464034512896:=qD _ b;exact Nat.div_le_of_le_mul (by rw[qH _ T];exact this)
 have d:=Nat.mod_le (T*Q/6277101735386680763835789423207666416102355444464034512896) 115792089237316195423570985008687907853269984665640564039457584007913129639936;generalize T*Q/6277101735386680763835789423207666416102355444464034512896%115792089237316195423570985008687907853269984665640564039457584007913129639936=P at*;have a:1*2<=(n+1)*(n+2):=qM (by omega) (by omega);have e:=Nat.div_mul_le_self P ((n+1)*(n+2));have f:P/((n+1)*(n+2))*(1*2)<=P/((n+1)*(n+2))*((n+1)*(n+2)):=qD _ a;omega
theorem NC(F Q n:Nat)(hF:F<1606938044258990275541962092341162602522202993782792835301376)(hQ:Q<=6277101735386680763835789423207666416102355444464034512896)(hn:n<=1)(w:World):
  Calls zB 307 #[gA (F:Int),gA (Q:Int),jI jU (n:Int)] w (bI (gA (GK 300 true F F Q n:Int)) w):=by
 obtain⟨R,hR⟩:∃R,R=GK 300 true F F Q n:=⟨_,rfl⟩;rw[<-hR];obtain⟨c,d,g,i,wf,nf,ef⟩:=bJ (V:=(F:Int)) ⟨by omega,by omega⟩;obtain⟨E,G,H,I,wq,nq,eq⟩:=bJ (V:=(Q:Int)) ⟨by omega,by omega⟩;have HI:∀p7 p8 l k,(p7=Value.pointer (some ⟨l,0,none⟩)/\p8=Value.pointer (some ⟨k,0,none⟩))->((l=w.heap.size+1+1+1/\k=w.heap.size+1+1+1+1)\/(k=w.heap.size+1+1+1/\l=w.heap.size+1+1+1+1))->
   ∃K L:Nat,p7=Value.pointer (some ⟨K,0,none⟩)/\p8=Value.pointer (some ⟨L,0,none⟩)/\K≠L/\w.heap.size+2<K/\w.heap.size+2<L/\
   aCn w K L F Q n R (jI jU (n:Int)) (.bool true) ((((((w.alloc (jC #[jI jU c,jI jU d,jI jU g,jI jU i] 284)).alloc (jC #[jI jU E,jI jU G,jI jU H,jI jU I] 284)).alloc (jC #[jI jU 0,jI jU 0,jI jU 0,jI jU 0] 284)).alloc (jC #[jI jU c,jI jU d,jI jU g,jI jU i] 284)).alloc (jC #[jI jU c,jI jU d,jI jU g,jI jU i] 284)).drew):=by
  intro p7 p8 l k ⟨e7,e8⟩ b;have A3:=heap_alloc_new (((w.alloc (jC #[jI jU c,jI jU d,jI jU g,jI jU i] 284)).alloc (jC #[jI jU E,jI jU G,jI jU H,jI jU I] 284)).alloc (jC #[jI jU 0,jI jU 0,jI jU 0,jI jU 0] 284)) (jC #[jI jU c,jI jU d,jI jU g,jI jU i] 284);have A4:=heap_alloc_new ((((w.alloc (jC #[jI jU c,jI jU d,jI jU g,jI jU i] 284)).alloc (jC #[jI jU E,jI jU G,jI jU H,jI jU I] 284)).alloc (jC #[jI jU 0,jI jU 0,jI jU 0,jI jU 0] 284)).alloc (jC #[jI jU c,jI jU d,jI jU g,jI jU i] 284)) (jC #[jI jU c,jI jU d,jI jU g,jI jU i] 284);have A2:=heap_alloc_new ((w.alloc (jC #[jI jU c,jI jU d,jI jU g,jI jU i] 284)).alloc (jC #[jI jU E,jI jU G,jI jU H,jI jU I] 284)) (jC #[jI jU 0,jI jU 0,jI jU 0,jI jU 0] 284);have A1:=heap_alloc_new (w.alloc (jC #[jI jU c,jI jU d,jI jU g,jI jU i] 284)) (jC #[jI jU E,jI jU G,jI jU H,jI jU I] 284);have s:Below w.heap.size w (((((w.alloc (jC #[jI jU c,jI jU d,jI jU g,jI jU i] 284)).alloc (jC #[jI jU E,jI jU G,jI jU H,jI jU I] 284)).alloc (jC #[jI jU 0,jI jU 0,jI jU 0,jI jU 0] 284)).alloc (jC #[jI jU c,jI jU d,jI jU g,jI jU i] 284)).alloc (jC #[jI jU c,jI jU d,jI jU g,jI jU i] 284)):=
   (((((zD _ _).alloc (zC _) _).alloc (by simp) _).alloc (by simp;omega) _).alloc (by simp;omega) _).alloc (by simp;omega) _
  have B3:=(show Blk _ _ c d g i from A3).alloc (jC #[jI jU c,jI jU d,jI jU g,jI jU i] 284);have B4:=(show Blk _ _ c d g i from A4);have B2:=((show Blk _ _ 0 0 0 0 from A2).alloc (jC #[jI jU c,jI jU d,jI jU g,jI jU i] 284)).alloc (jC #[jI jU c,jI jU d,jI jU g,jI jU i] 284);have B1:=(((show Blk _ _ E G H I from A1).alloc (jC #[jI jU 0,jI jU 0,jI jU 0,jI jU 0] 284)).alloc (jC #[jI jU c,jI jU d,jI jU g,jI jU i] 284)).alloc (jC #[jI jU c,jI jU d,jI jU g,jI jU i] 284);have s1:(w.alloc (jC #[jI jU c,jI jU d,jI jU g,jI jU i] 284)).heap.size=w.heap.size+1:=by simp
  have s2:((w.alloc (jC #[jI jU c,jI jU d,jI jU g,jI jU i] 284)).alloc (jC #[jI jU E,jI jU G,jI jU H,jI jU I] 284)).heap.size=w.heap.size+1+1:=by simp
  have s3:(((w.alloc (jC #[jI jU c,jI jU d,jI jU g,jI jU i] 284)).alloc (jC #[jI jU E,jI jU G,jI jU H,jI jU I] 284)).alloc (jC #[jI jU 0,jI jU 0,jI jU 0,jI jU 0] 284)).heap.size=w.heap.size+1+1+1:=by simp
  have s4:((((w.alloc (jC #[jI jU c,jI jU d,jI jU g,jI jU i] 284)).alloc (jC #[jI jU E,jI jU G,jI jU H,jI jU I] 284)).alloc (jC #[jI jU 0,jI jU 0,jI jU 0,jI jU 0] 284)).alloc (jC #[jI jU c,jI jU d,jI jU g,jI jU i] 284)).heap.size=w.heap.size+1+1+1+1:=by simp
  rw[s1]at B1;rw[s2]at B2;rw[s3]at B3;rw[s4]at B4;have c9:GK (300-0) true F F Q (n+2*0)=R:=hR.symm;rcases b with⟨h7,h8⟩|⟨h8,h7⟩
  ·exact⟨l,k,e7,e8,by omega,by omega,by omega,0,true,F,F,rfl,rfl,⟨_,_,_,_,wf,nf,ef,by rw[h7];exact B3⟩,⟨_,_,_,_,wf,nf,ef,by rw[h8];exact B4⟩,⟨_,_,_,_,wq,nq,eq,B1⟩,B2,by simp,by omega,c9,s.drew⟩
  ·exact⟨l,k,e7,e8,by omega,by omega,by omega,0,true,F,F,rfl,rfl,⟨_,_,_,_,wf,nf,ef,by rw[h7];exact B4⟩,⟨_,_,_,_,wf,nf,ef,by rw[h8];exact B3⟩,⟨_,_,_,_,wq,nq,eq,B1⟩,B2,by simp,by omega,c9,s.drew⟩
 rw[ef,eq];have HI:=zA HI;unfold bA;go_enter Tryz.func307,Tryz.ntmps307;go_upto_region 1 with fail
 go_cut [7,8]from 10 to 11 (fun p7 p8 wx=>∃K L:Nat,p7=Value.pointer (some ⟨K,0,none⟩)/\p8=Value.pointer (some ⟨L,0,none⟩)/\K≠L/\w.heap.size+2<K/\w.heap.size+2<L/\aCn w K L F Q n R (jI jU (n:Int)) (.bool true) wx)
 case first=>
  go_region_with fail
  all_goals (
   go_wp2_with fail
   go_meet
   first
    |exact HI.out _ _ _ _ ⟨rfl,rfl⟩ (.inl ⟨rfl,rfl⟩)
    |exact HI.out _ _ _ _ ⟨rfl,rfl⟩ (.inr ⟨rfl,rfl⟩))
 case rest=>
  obtain⟨l,k,rfl,rfl,X,h7,h8,hcut⟩:=hcut;have HC:=zA hcut;clear hcut HI hR wf nf ef wq nq eq;go_wp2_with fail
  go_loopw [2,9] (fun a m wr=>aCn w l k F Q n R a m wr) (fun a _ _=>1000-L8 a)
  case atStart=>exact HC.out
  case round=>
   clear HC;obtain⟨j,m,S,T,rfl,rfl,⟨s0,s1,s2,s3,ws,ns,es,r⟩,⟨t0,t1,t2,t3,wt,nt,et,O⟩,⟨E,G,H,I,wq,nq,eq,kQ⟩,kZ,hT,hj,hs,b⟩:=hrel;have l7:=r.lt;have l8:=O.lt;obtain⟨⟨a0,a1,a2,a3⟩,a4,a5,a6,a7⟩:=eS r;obtain⟨⟨b0,b1,b2,b3⟩,b4,b5,b6,e9⟩:=eS O;obtain⟨⟨c0,c1,c2,c3⟩,c4,c5,c6,K⟩:=eS kQ;obtain⟨⟨d0,d1,d2,d3⟩,d4,d5,d6,d7⟩:=eS kZ;have s:=zA b;have KS:=zA r;have KT:=zA O;have J:=zA kQ;have D:=zA kZ;have HS:=zA hs;have WS:=zA ws;have WT:=zA wt;have WQ:=zA wq;have NS:=zA ns;have NT:=zA nt;have NQ:=zA nq;have ES:=zA es;have ET:=zA et;have EQ:=zA eq;clear b r O kQ kZ hs ws wt wq ns nt nq es et eq;rcases Nat.eq_zero_or_pos T with hz|hz
   ·subst hz;have hw:t0=0/\t1=0/\t2=0/\t3=0:=by
     have e:=NT.out;obtain⟨⟨_,_⟩,⟨_,_⟩,⟨_,_⟩,⟨_,_⟩⟩:=WT.out;unfold num at e;omega
    obtain⟨rfl,rfl,rfl,rfl⟩:=hw;have d8:R=S:=by
     have h:=HS.out;obtain⟨f,hf⟩:∃f,300-j=f+1:=⟨299-j,by omega⟩;rw[hf,GK,if_pos rfl]at h;exact h.symm
    have KF:=D.out.write s0 s1 s2 s3;obtain⟨⟨r0,r1,r2,r3⟩,r4,r5,r6,r7⟩:=eS KF;have HF:=zA ((((s.out.setCell (p:=⟨w.heap.size+1+1,0,none⟩) (by simp;omega) (jI jU s0)).setCell (p:=⟨w.heap.size+1+1,1,none⟩) (by simp;omega) (jI jU s1)).setCell (p:=⟨w.heap.size+1+1,2,none⟩) (by simp;omega) (jI jU s2)).setCell (p:=⟨w.heap.size+1+1,3,none⟩) (by simp;omega) (jI jU s3));have e4:=zA d8;have HE:∀wr:World,(Op.equalIn 10000 284 (.agg #[jI jU 0,jI jU 0,jI jU 0,jI jU 0]) (.agg #[jI jU 0,jI jU 0,jI jU 0,jI jU 0])).run zB wr=.ok true wr:=fun wr=>aEL _ _ _ _ _ _ _ _ wr;clear KF d8 hT;go_wp2;refine bodyPost_ret (v:=gA (R:Int)) (by rw[e4.out,ES.out];simp[results,Tryz.results307,go_sem,bA,r0,r1,r2,r3]) rfl ⟨rfl,HF.out⟩
   ·have f5:j<200:=by
     rcases qJ j 200 with h|h
     ·exact h
     ·exfalso;have h1:2^200<=2^j:=Nat.pow_le_pow_right (by omega) h;have h2:1*2^j<=T*2^j:=zR _ hz;have h3:(2:Nat)^200=1606938044258990275541962092341162602522202993782792835301376:=by decide
      omega
    have e3:(t0==0&&(t1==0&&(t2==0&&t3==0)))=false:=by
     cases h:(t0==0&&(t1==0&&(t2==0&&t3==0)))
     ·rfl
     ·exfalso;simp only[Bool.and_eq_true,beq_iff_eq]at h;obtain⟨rfl,rfl,rfl,rfl⟩:=h;have e:=NT.out;unfold num at e;omega
    have HE:∀wr:World,(Op.equalIn 10000 284 (.agg #[jI jU t0,jI jU t1,jI jU t2,jI jU t3]) (.agg #[jI jU 0,jI jU 0,jI jU 0,jI jU 0])).run zB wr=.ok false wr:=fun wr=>by rw[aEL,e3]
    generalize hN:n+2*j=N at*;have f4:N<=500:=by omega
    have a9:T<1606938044258990275541962092341162602522202993782792835301376:=by
     have:T*1<=T*2^j:=qD _ (Nat.one_le_two_pow);omega
    have Z:S<115792089237316195423570985008687907853269984665640564039457584007913129639936:=by
     have:=iU _ _ _ _ WS.out;have e:=NS.out;omega
    have hU:=aBb T Q N hQ;have B:=VJ (T:Int) (Q:Int) ⟨by omega,by omega⟩ ⟨by omega,by omega⟩;obtain⟨m0,m1,m2,m3,wm,nm,em⟩:=bJ (V:=((T*Q/6277101735386680763835789423207666416102355444464034512896%115792089237316195423570985008687907853269984665640564039457584007913129639936:Nat):Int)) ⟨by omega,by omega⟩;have hM:((T:Int)*(Q:Int)/6277101735386680763835789423207666416102355444464034512896%115792089237316195423570985008687907853269984665640564039457584007913129639936)=((T*Q/6277101735386680763835789423207666416102355444464034512896%115792089237316195423570985008687907853269984665640564039457584007913129639936:Nat):Int):=by rw[xG,xS,yU];rfl
    rw[ET.out,EQ.out,hM,em]at B;have e5:2<=(N+1)*(N+2):=qM (show 1<=N+1 by omega) (show 2<=N+2 by omega);have e6:(N+1)*(N+2)<=501*502:=qM (by omega) (by omega);have u:=OW ((T*Q/6277101735386680763835789423207666416102355444464034512896%115792089237316195423570985008687907853269984665640564039457584007913129639936:Nat):Int) (((N+1)*(N+2):Nat):Int) ⟨by omega,by omega⟩ (by omega) (by omega);obtain⟨u0,u1,u2,u3,wu,nu,U⟩:=bJ (V:=(oR T Q N:Int)) ⟨by omega,by omega⟩;have d9:(((T*Q/6277101735386680763835789423207666416102355444464034512896%115792089237316195423570985008687907853269984665640564039457584007913129639936:Nat):Int)/(((N+1)*(N+2):Nat):Int))=(oR T Q N:Int):=by unfold oR;rw[xS]
    rw[em,d9,U]at u;have t:GK (300-(j+1)) (!m) (OO m S (oR T Q N)) (oR T Q N) Q (n+2*(j+1))=R:=by
     have h:=HS.out;obtain⟨f,hf⟩:∃f,300-j=f+1:=⟨299-j,by omega⟩;rw[hf,GK,if_neg (by omega)]at h;rw[show 300-(j+1)=f by omega,show n+2*(j+1)=N+2 by omega];exact h
    have M:oR T Q N*2^(j+1)<=F:=by
     have:oR T Q N*2*2^j<=T*2^j:=zR _ (by omega);rw[yT,qH (2^j) 2,<-Nat.mul_assoc];omega
    obtain⟨x,y,z,A,wv,nv,ev⟩:=bJ (V:=(OO m S (oR T Q N):Int)) ⟨by omega,by unfold OO;split<;>omega⟩;have Y:(((N+1)*(N+2):Nat):Int)=((N:Int)+1)*((N:Int)+2):=by push_cast;rfl
    have W1:u64.wrap ((N:Int)+1)=(N:Int)+1:=bG _ (by omega) (by omega);have W2:u64.wrap ((N:Int)+2)=(N:Int)+2:=bG _ (by omega) (by omega);have W3:u64.wrap (((N:Int)+1)*((N:Int)+2))=((N:Int)+1)*((N:Int)+2):=by rw[<-Y];exact bG _ (by omega) (by omega)
    rw[Y]at u;have o:∀w,m=false->Calls zB 323 #[bA s0 s1 s2 s3,bA u0 u1 u2 u3] w (bI (bA x y z A) w):=fun w hm=>by
     have h:=Tv (S:Int) (oR T Q N:Int) ⟨by omega,by omega⟩ ⟨by omega,by omega⟩ w;have e:((S:Int)+(oR T Q N:Int))%115792089237316195423570985008687907853269984665640564039457584007913129639936=(OO m S (oR T Q N):Int):=by
      subst hm;unfold OO;rw[if_neg (by simp),xG,Int.natCast_add];rfl
     rw[ES.out,U,e,ev]at h;exact h
    have q:∀w,m=true->Calls zB 322 #[bA s0 s1 s2 s3,bA u0 u1 u2 u3] w (bI (bA x y z A) w):=fun w hm=>by
     have h:=Ui (S:Int) (oR T Q N:Int) ⟨by omega,by omega⟩ ⟨by omega,by omega⟩ w;have e:((S:Int)-(oR T Q N:Int))%115792089237316195423570985008687907853269984665640564039457584007913129639936=(OO m S (oR T Q N):Int):=by
      subst hm;unfold OO;rw[if_pos rfl];omega
     rw[ES.out,U,e,ev]at h;exact h
    have B:=zA B;have u:=zA u;have o:=zA o;have q:=zA q;have t:=zA t;have M:=zA M;have wu:=zA wu;have wv:=zA wv;have nu:=zA nu;have nv:=zA nv;have U:=zA U;have ev:=zA ev;have b9:=zA (show(N:Int)+2=((n+2*(j+1):Nat):Int) by omega);have hN:=zA hN;clear hU hM e5 e6 d9 Y wm nm em e3 hT a9 Z hF hQ;generalize OO m S (oR T Q N)=S' at*;generalize oR T Q N=T' at*;unfold bA at B u o q;go_wp2_with fail
    refine(B.out _).mono ?_;rintro e w1 ⟨rfl,b⟩;have KS:=zA (bF b KS.out);have KT:=zA (bF b KT.out);have J:=zA (bF b J.out);have D:=zA (bF b D.out);have s:=zA (s.out.trans (b.mono s.out.size));clear b;go_wp2_with fail
    refine(u.out _).mono ?_;rintro e w2 ⟨rfl,b⟩;have O:=bF b KT.out;have l9:=O.lt;obtain⟨⟨g0,g1,g2,g3⟩,g4,g5,g6,g7⟩:=eS O;have r:=(bF b KS.out).other X (jI jU u0) (jI jU u1) (jI jU u2) (jI jU u3);have l6:=r.lt;obtain⟨⟨i0,i1,i2,i3⟩,i4,i5,i6,i7⟩:=eS r;have kU:=O.write u0 u1 u2 u3;obtain⟨⟨p0,p1,p2,p3⟩,p4,p5,p6,p7⟩:=eS kU;have J:=zA ((bF b J.out).other (b':=k) (by omega) (jI jU u0) (jI jU u1) (jI jU u2) (jI jU u3));have D:=zA ((bF b D.out).other (b':=k) (by omega) (jI jU u0) (jI jU u1) (jI jU u2) (jI jU u3));have s:=zA (((((s.out.trans (b.mono s.out.size)).setCell (p:=⟨k,0,none⟩) (by simp;omega) (jI jU u0)).setCell (p:=⟨k,1,none⟩) (by simp;omega) (jI jU u1)).setCell (p:=⟨k,2,none⟩) (by simp;omega) (jI jU u2)).setCell (p:=⟨k,3,none⟩) (by simp;omega) (jI jU u3));have KS:=zA r;have KU:=zA kU;clear b O r kU KT;cases m
    ·have H9:=zA (fun w=>o.out w rfl);clear q o;go_wp2_with fail
     generalize (((w2.setCell ⟨k,0,none⟩ (jI jU u0)).setCell ⟨k,1,none⟩ (jI jU u1)).setCell ⟨k,2,none⟩ (jI jU u2)).setCell ⟨k,3,none⟩ (jI jU u3)=w3 at*;refine(H9.out _).mono ?_;rintro e w4 ⟨rfl,b⟩;have r:=bF b KS.out;have l5:=r.lt;obtain⟨⟨x0,x1,x2,x3⟩,x4,x5,x6,x7⟩:=eS r;have KF:=zA (r.write x y z A);have KU:=zA ((bF b KU.out).other X.symm (jI jU x) (jI jU y) (jI jU z) (jI jU A));have J:=zA ((bF b J.out).other (b':=l) (by omega) (jI jU x) (jI jU y) (jI jU z) (jI jU A));have D:=zA ((bF b D.out).other (b':=l) (by omega) (jI jU x) (jI jU y) (jI jU z) (jI jU A));have s:=zA (((((s.out.trans (b.mono s.out.size)).setCell (p:=⟨l,0,none⟩) (by simp;omega) (jI jU x)).setCell (p:=⟨l,1,none⟩) (by simp;omega) (jI jU y)).setCell (p:=⟨l,2,none⟩) (by simp;omega) (jI jU z)).setCell (p:=⟨l,3,none⟩) (by simp;omega) (jI jU A));clear b r;go_wp2;go_roundw
     case rel=>exact⟨j+1,_,S',T',congrArg (Value.int jU) b9.out,rfl,⟨_,_,_,_,wv.out,nv.out,ev.out,KF.out⟩,⟨_,_,_,_,wu.out,nu.out,U.out,KU.out⟩,⟨_,_,_,_,WQ.out,NQ.out,EQ.out,J.out⟩,D.out,M.out,by omega,t.out,s.out⟩
     case measure=>simp[L8];omega
    ·have H9:=zA (fun w=>q.out w rfl);clear o q;go_wp2_with fail
     generalize (((w2.setCell ⟨k,0,none⟩ (jI jU u0)).setCell ⟨k,1,none⟩ (jI jU u1)).setCell ⟨k,2,none⟩ (jI jU u2)).setCell ⟨k,3,none⟩ (jI jU u3)=w3 at*;refine(H9.out _).mono ?_;rintro e w4 ⟨rfl,b⟩;have r:=bF b KS.out;have l5:=r.lt;obtain⟨⟨x0,x1,x2,x3⟩,x4,x5,x6,x7⟩:=eS r;have KF:=zA (r.write x y z A);have KU:=zA ((bF b KU.out).other X.symm (jI jU x) (jI jU y) (jI jU z) (jI jU A));have J:=zA ((bF b J.out).other (b':=l) (by omega) (jI jU x) (jI jU y) (jI jU z) (jI jU A));have D:=zA ((bF b D.out).other (b':=l) (by omega) (jI jU x) (jI jU y) (jI jU z) (jI jU A));have s:=zA (((((s.out.trans (b.mono s.out.size)).setCell (p:=⟨l,0,none⟩) (by simp;omega) (jI jU x)).setCell (p:=⟨l,1,none⟩) (by simp;omega) (jI jU y)).setCell (p:=⟨l,2,none⟩) (by simp;omega) (jI jU z)).setCell (p:=⟨l,3,none⟩) (by simp;omega) (jI jU A));clear b r;go_wp2;go_roundw
     case rel=>exact⟨j+1,_,S',T',congrArg (Value.int jU) b9.out,rfl,⟨_,_,_,_,wv.out,nv.out,ev.out,KF.out⟩,⟨_,_,_,_,wu.out,nu.out,U.out,KU.out⟩,⟨_,_,_,_,WQ.out,NQ.out,EQ.out,J.out⟩,D.out,M.out,by omega,t.out,s.out⟩
     case measure=>simp[L8];omega
end
section
open Go.RowKit
def oK(k:Nat):Nat:=19720096697726538562396133364228268891463450865190089732560*k/10800000
def Nd(k:Nat):Nat:=oK k*oK k/6277101735386680763835789423207666416102355444464034512896
def iN(k:Nat):Nat:=GK 300 true (oK k) (oK k) (Nd k) 1
def OD(k:Nat):Nat:=GK 300 true 6277101735386680763835789423207666416102355444464034512896 6277101735386680763835789423207666416102355444464034512896 (Nd k) 0
def NG(k:Nat):Nat:=if k<=2700000 then iN k else OD (5400000-k)
def JR(k:Nat):Nat:=if k<=2700000 then OD k else iN (5400000-k)
theorem AP(k:Nat)(a:k<=2700000):oK k<6277101735386680763835789423207666416102355444464034512896:=by unfold oK;omega
theorem aDV(k:Nat)(a:k<=2700000):Nd k<6277101735386680763835789423207666416102355444464034512896:=by
 have h:=AP k a;unfold Nd;generalize oK k=t at*;have:t*t<=t*6277101735386680763835789423207666416102355444464034512896:=qD _ (by omega);generalize t*t=P at*;omega
theorem mP:∀(f:Nat) (m:Bool) (s t q n:Nat),s<115792089237316195423570985008687907853269984665640564039457584007913129639936->GK f m s t q n<115792089237316195423570985008687907853269984665640564039457584007913129639936
 | 0,_,s,_,_,_,h=>h
 |f+1,m,s,t,q,n,h=>by
  unfold GK;split
  ·exact h
  ·exact mP f _ _ _ _ _ (by unfold OO;split<;>omega)
theorem JQ(k:Nat)(hk:k<=2700000)(w:World):Calls zB 289 #[jI jJ (k:Int)] w (bI (.tuple #[gA (iN k:Int),gA (OD k:Int)]) w):=by
 have ht:=AP k hk;have hq:=aDV k hk;have q:=aDC;have r:=wP 19720096697726538562396133364228268891463450865190089732560 (k:Int) ⟨by omega,by omega⟩ (by omega) (by omega);obtain⟨e0,e1,e2,e3,_,_,ee⟩:=bJ (V:=19720096697726538562396133364228268891463450865190089732560) ⟨by omega,by omega⟩;have hP:19720096697726538562396133364228268891463450865190089732560*(k:Int)%115792089237316195423570985008687907853269984665640564039457584007913129639936=19720096697726538562396133364228268891463450865190089732560*(k:Int):=by omega
 obtain⟨m0,m1,m2,m3,_,_,em⟩:=bJ (V:=19720096697726538562396133364228268891463450865190089732560*(k:Int)) ⟨by omega,by omega⟩;have s:=OW (19720096697726538562396133364228268891463450865190089732560*(k:Int)) 10800000 ⟨by omega,by omega⟩ (by omega) (by omega);have hA:19720096697726538562396133364228268891463450865190089732560*(k:Int)/10800000=(oK k:Int):=by unfold oK;rw[xS,yU];rfl
 obtain⟨y,t1,t2,t3,_,_,E⟩:=bJ (V:=(oK k:Int)) ⟨by omega,by omega⟩;have t:=VJ (oK k:Int) (oK k:Int) ⟨by omega,by omega⟩ ⟨by omega,by omega⟩;have hQ:(oK k:Int)*(oK k:Int)/6277101735386680763835789423207666416102355444464034512896%115792089237316195423570985008687907853269984665640564039457584007913129639936=(Nd k:Int):=by
  have:(oK k:Int)*(oK k:Int)/6277101735386680763835789423207666416102355444464034512896=(Nd k:Int):=by unfold Nd;rw[xS,yU];rfl
  rw[this];omega
 obtain⟨j,l,m,n,_,_,eq⟩:=bJ (V:=(Nd k:Int)) ⟨by omega,by omega⟩;have f:=NC (oK k) (Nd k) 1 (by omega) (by omega) (by omega);have g:=NC 6277101735386680763835789423207666416102355444464034512896 (Nd k) 0 (by omega) (by omega) (by omega);have u:=mP 300 true (oK k) (oK k) (Nd k) 1 (by omega);have x:=mP 300 true 6277101735386680763835789423207666416102355444464034512896 6277101735386680763835789423207666416102355444464034512896 (Nd k) 0 (by omega);change iN k<_ at u;change OD k<_ at x;obtain⟨I,s1,J,K,_,_,es⟩:=bJ (V:=(iN k:Int)) ⟨by omega,by omega⟩;obtain⟨A,c1,B,D,_,_,ec⟩:=bJ (V:=(OD k:Int)) ⟨by omega,by omega⟩;have eo:gA ((6277101735386680763835789423207666416102355444464034512896:Nat):Int)=bA 1 0 0 0:=by unfold gA;simp
 change ∀w,Calls zB 307 #[_,_,_] w (bI (gA (iN k:Int)) w)at f;change ∀w,Calls zB 307 #[_,_,_] w (bI (gA (OD k:Int)) w)at g;rw[ee]at q;rw[ee,hP,em]at r;rw[em,hA,E]at s;rw[E,hQ,eq]at t;rw[E,eq,es]at f;rw[eo,eq,ec]at g;rw[es,ec];rw[show((1:Nat):Int)=1 from rfl]at f;rw[show((0:Nat):Int)=0 from rfl]at g;have hw:u64.wrap (k:Int)=(k:Int):=bG _ (by omega) (by omega);replace q:=zA q;replace r:=zA r;replace s:=zA s;replace t:=zA t;replace f:=zA f;replace g:=zA g;clear u x ee hP em hA E hQ eq es ec eo ht hq;have c:=zA (show Blk _ w.heap.size 0 0 0 0 from fG w (jC #[jI jU 0,jI jU 0,jI jU 0,jI jU 0] 284) (jC #[jI jU 0,jI jU 0,jI jU 0,jI jU 0] 284));have d:=zA (show Blk _ (w.heap.size+1) 0 0 0 0 from dP w (jC #[jI jU 0,jI jU 0,jI jU 0,jI jU 0] 284) (jC #[jI jU 0,jI jU 0,jI jU 0,jI jU 0] 284));have b:=zA (((zD w.heap.size w).alloc (zC _) (jC #[jI jU 0,jI jU 0,jI jU 0,jI jU 0] 284)).alloc (by simp) (jC #[jI jU 0,jI jU 0,jI jU 0,jI jU 0] 284));unfold bA at q r s t f g ⊢;go_enter Tryz.func289,Tryz.ntmps289;go_wp2_with fail
 refine(q.out _).mono ?_;rintro e w1 ⟨rfl,a⟩;have c:=zA (bF a c.out);have d:=zA (bF a d.out);have b:=zA (b.out.trans (a.mono b.out.size));clear a;go_wp2_with fail
 refine(r.out _).mono ?_;rintro e w2 ⟨rfl,a⟩;have c:=zA (bF a c.out);have d:=zA (bF a d.out);have b:=zA (b.out.trans (a.mono b.out.size));clear a;go_wp2_with fail
 refine(s.out _).mono ?_;rintro e w3 ⟨rfl,a⟩;have c:=zA ((bF a c.out).alloc (jC #[jI jU y,jI jU t1,jI jU t2,jI jU t3] 284));have d:=zA ((bF a d.out).alloc (jC #[jI jU y,jI jU t1,jI jU t2,jI jU t3] 284));have o:=zA (show Blk _ w3.heap.size y t1 t2 t3 from heap_alloc_new w3 (jC #[jI jU y,jI jU t1,jI jU t2,jI jU t3] 284));have b:=zA ((b.out.trans (a.mono b.out.size)).alloc (by have:=b.out.size;have:=a.size;omega) (jC #[jI jU y,jI jU t1,jI jU t2,jI jU t3] 284));clear a;go_wp2_with fail
 refine(t.out _).mono ?_;rintro e w4 ⟨rfl,a⟩;have c:=zA ((bF a c.out).alloc (jC #[jI jU j,jI jU l,jI jU m,jI jU n] 284));have d:=zA ((bF a d.out).alloc (jC #[jI jU j,jI jU l,jI jU m,jI jU n] 284));have o:=zA ((bF a o.out).alloc (jC #[jI jU j,jI jU l,jI jU m,jI jU n] 284));have z:=zA (show Blk _ w4.heap.size j l m n from heap_alloc_new w4 (jC #[jI jU j,jI jU l,jI jU m,jI jU n] 284));have b:=zA ((b.out.trans (a.mono b.out.size)).alloc (by have:=b.out.size;have:=a.size;omega) (jC #[jI jU j,jI jU l,jI jU m,jI jU n] 284));clear a;go_wp2_with fail
 generalize w4.alloc (jC #[jI jU j,jI jU l,jI jU m,jI jU n] 284)=w5 at*;have l2:=c.out.lt;have l3:=d.out.lt;have l4:=o.out.lt;have l5:=z.out.lt;obtain⟨⟨L,M,N,O⟩,a6,a7,a9,b0⟩:=eS c.out;obtain⟨⟨Q,R,U,X⟩,b1,b2,b3,b4⟩:=eS d.out;obtain⟨⟨Y,Z,a0,a1⟩,b5,b6,b7,b8⟩:=eS o.out;obtain⟨⟨a2,a3,a4,a5⟩,b9,c4,c5,c6⟩:=eS z.out;clear q r s t;go_region_with (
  go_at_call 307
  first|with_reducible refine(f.out _).mono ?_ |with_reducible refine(g.out _).mono ?_
  rintro e w6 ⟨rfl,a⟩;have h:=bF a (by exact c.out);have i:=bF a (by exact d.out);have G:=bF a (by exact o.out);have H:=bF a (by exact z.out);have l2:=h.lt;have l3:=i.lt;have l4:=G.lt;have l5:=H.lt;obtain⟨⟨L,M,N,O⟩,a6,a7,a9,b0⟩:=eS h;obtain⟨⟨Q,R,U,X⟩,b1,b2,b3,b4⟩:=eS i;obtain⟨⟨Y,Z,a0,a1⟩,b5,b6,b7,b8⟩:=eS G;obtain⟨⟨a2,a3,a4,a5⟩,b9,c4,c5,c6⟩:=eS H;have b:=zA (show Below w.heap.size w w6 from by first|exact b.out.trans (a.mono b.out.size)|exact b.out.drew.trans (a.mono b.out.size));have c:=zA h;have d:=zA i;have o:=zA G;have z:=zA H;clear a h i G H)
 all_goals (
  have h:=(c.out.write I s1 J K).other (b':=w.heap.size+1) (by omega) (jI jU A) (jI jU c1) (jI jU B) (jI jU D);have i:=(d.out.other (b':=w.heap.size) (by omega) (jI jU I) (jI jU s1) (jI jU J) (jI jU K)).write A c1 B D;obtain⟨⟨r0,r1,r2,r3⟩,g0,g1,g2,g3⟩:=eS h;obtain⟨⟨r4,r5,r6,r7⟩,g4,g5,g6,g7⟩:=eS i;have HF:=zA (((((((((b.out).setCell (p:=⟨w.heap.size,0,none⟩) (by first|exact zC _|simp) (jI jU I)).setCell (p:=⟨w.heap.size,1,none⟩) (by first|exact zC _|simp) (jI jU s1)).setCell (p:=⟨w.heap.size,2,none⟩) (by first|exact zC _|simp) (jI jU J)).setCell (p:=⟨w.heap.size,3,none⟩) (by first|exact zC _|simp) (jI jU K)).setCell (p:=⟨w.heap.size+1,0,none⟩) (by first|exact zC _|simp) (jI jU A)).setCell (p:=⟨w.heap.size+1,1,none⟩) (by first|exact zC _|simp) (jI jU c1)).setCell (p:=⟨w.heap.size+1,2,none⟩) (by first|exact zC _|simp) (jI jU B)).setCell (p:=⟨w.heap.size+1,3,none⟩) (by first|exact zC _|simp) (jI jU D));clear h i;go_wp2;refine bodyPost_ret (v:=.tuple #[bA I s1 J K,bA A c1 B D]) (by simp[results,Tryz.results289,go_sem,bA,r0,r1,r2,r3,r4,r5,r6,r7]) rfl ⟨rfl,?_⟩;first
   |exact HF.out
   |exact HF.out.drew)
end
section
open Go.RowKit
theorem VY(k:Nat)(hk:2700000<k)(Q:k<=5400000)(w:World):Calls zB 289 #[jI jJ (k:Int)] w (bI (.tuple #[gA (OD (5400000-k):Int),gA (iN (5400000-k):Int)]) w):=by
 have j:=JQ (5400000-k) (by omega);rw[show((5400000-k:Nat):Int)=5400000-(k:Int) by omega]at j;have n:=mP 300 true (oK (5400000-k)) (oK (5400000-k)) (Nd (5400000-k)) 1 (by have:=AP (5400000-k) (by omega);omega);have o:=mP 300 true 6277101735386680763835789423207666416102355444464034512896 6277101735386680763835789423207666416102355444464034512896 (Nd (5400000-k)) 0 (by omega);change iN (5400000-k)<_ at n;change OD (5400000-k)<_ at o;obtain⟨d,s1,f,g,_,_,E⟩:=bJ (V:=(iN (5400000-k):Int)) ⟨by omega,by omega⟩;obtain⟨a,c1,b,c,_,_,D⟩:=bJ (V:=(OD (5400000-k):Int)) ⟨by omega,by omega⟩;rw[E,D]at j;rw[E,D];replace j:=zA j;clear n o E D;have l:=zA (show Blk _ w.heap.size 0 0 0 0 from fG w (jC #[jI jU 0,jI jU 0,jI jU 0,jI jU 0] 284) (jC #[jI jU 0,jI jU 0,jI jU 0,jI jU 0] 284));have m:=zA (show Blk _ (w.heap.size+1) 0 0 0 0 from dP w (jC #[jI jU 0,jI jU 0,jI jU 0,jI jU 0] 284) (jC #[jI jU 0,jI jU 0,jI jU 0,jI jU 0] 284));have q:=zA (((zD w.heap.size w).alloc (zC _) (jC #[jI jU 0,jI jU 0,jI jU 0,jI jU 0] 284)).alloc (by simp) (jC #[jI jU 0,jI jU 0,jI jU 0,jI jU 0] 284));unfold bA at j ⊢;go_enter Tryz.func289,Tryz.ntmps289;go_wp2_with fail
 refine(j.out _).mono ?_;rintro e w1 ⟨rfl,r⟩;have h:=bF r l.out;have i:=bF r m.out;have R:=h.lt;have U:=i.lt;obtain⟨⟨s,t,u,x⟩,G,H,I,J⟩:=eS h;obtain⟨⟨y,z,A,B⟩,K,L,M,N⟩:=eS i;have l:=zA ((h.other (b':=w.heap.size+1) (by omega) (jI jU d) (jI jU s1) (jI jU f) (jI jU g)).write a c1 b c);have m:=zA ((i.write d s1 f g).other (b':=w.heap.size) (by omega) (jI jU a) (jI jU c1) (jI jU b) (jI jU c));have q:=zA (((((((((q.out.trans (r.mono q.out.size)).setCell (p:=⟨w.heap.size+1,0,none⟩) (by first|exact zC _|simp) (jI jU d)).setCell (p:=⟨w.heap.size+1,1,none⟩) (by first|exact zC _|simp) (jI jU s1)).setCell (p:=⟨w.heap.size+1,2,none⟩) (by first|exact zC _|simp) (jI jU f)).setCell (p:=⟨w.heap.size+1,3,none⟩) (by first|exact zC _|simp) (jI jU g)).setCell (p:=⟨w.heap.size,0,none⟩) (by first|exact zC _|simp) (jI jU a)).setCell (p:=⟨w.heap.size,1,none⟩) (by first|exact zC _|simp) (jI jU c1)).setCell (p:=⟨w.heap.size,2,none⟩) (by first|exact zC _|simp) (jI jU b)).setCell (p:=⟨w.heap.size,3,none⟩) (by first|exact zC _|simp) (jI jU c));clear r h i;go_wp2_with fail
 generalize ((((((((w1).setCell ⟨w.heap.size+1,0,none⟩ (jI jU d)).setCell ⟨w.heap.size+1,1,none⟩ (jI jU s1)).setCell ⟨w.heap.size+1,2,none⟩ (jI jU f)).setCell ⟨w.heap.size+1,3,none⟩ (jI jU g)).setCell ⟨w.heap.size,0,none⟩ (jI jU a)).setCell ⟨w.heap.size,1,none⟩ (jI jU c1)).setCell ⟨w.heap.size,2,none⟩ (jI jU b)).setCell ⟨w.heap.size,3,none⟩ (jI jU c)=w5 at*;have R:=l.out.lt;have U:=m.out.lt;obtain⟨⟨s,t,u,x⟩,G,H,I,J⟩:=eS l.out;obtain⟨⟨y,z,A,B⟩,K,L,M,N⟩:=eS m.out;go_region_with fail
 all_goals (
  have h:=(l.out.write a c1 b c).other (b':=w.heap.size+1) (by omega) (jI jU d) (jI jU s1) (jI jU f) (jI jU g);have i:=(m.out.other (b':=w.heap.size) (by omega) (jI jU a) (jI jU c1) (jI jU b) (jI jU c)).write d s1 f g;obtain⟨⟨X,Y,Z,r3⟩,g0,g1,g2,g3⟩:=eS h;obtain⟨⟨r4,r5,r6,r7⟩,g4,g5,g6,g7⟩:=eS i;have O:=zA (((((((((q.out).setCell (p:=⟨w.heap.size,0,none⟩) (by first|exact zC _|simp) (jI jU a)).setCell (p:=⟨w.heap.size,1,none⟩) (by first|exact zC _|simp) (jI jU c1)).setCell (p:=⟨w.heap.size,2,none⟩) (by first|exact zC _|simp) (jI jU b)).setCell (p:=⟨w.heap.size,3,none⟩) (by first|exact zC _|simp) (jI jU c)).setCell (p:=⟨w.heap.size+1,0,none⟩) (by first|exact zC _|simp) (jI jU d)).setCell (p:=⟨w.heap.size+1,1,none⟩) (by first|exact zC _|simp) (jI jU s1)).setCell (p:=⟨w.heap.size+1,2,none⟩) (by first|exact zC _|simp) (jI jU f)).setCell (p:=⟨w.heap.size+1,3,none⟩) (by first|exact zC _|simp) (jI jU g));clear h i;go_wp2;refine bodyPost_ret (v:=.tuple #[bA a c1 b c,bA d s1 f g]) (by simp[results,Tryz.results289,go_sem,bA,X,Y,Z,r3,r4,r5,r6,r7]) rfl ⟨rfl,?_⟩;exact O.out.drew)
theorem Dd(k:Nat)(a:k<=5400000)(w:World):Calls zB 289 #[jI jJ (k:Int)] w (bI (.tuple #[gA (NG k:Int),gA (JR k:Int)]) w):=by
 unfold NG JR;rcases qJ 2700000 k with h|h
 ·rw[if_neg (by omega),if_neg (by omega)];exact VY k h a w
 ·rw[if_pos h,if_pos h];exact JQ k h w
end
section
open Go.RowKit
def wJ:Nat:=115792089237316195423570985008687907853269984665640564039457584007913129639936
def GJ(x y k:Nat):Bool:=if k=0 then true else if k=2700000 then decide (x<=y) else !decide (JR k*y%wJ<NG k*x%wJ)
theorem aBe(k:Nat)(a:k<=5400000):NG k<wJ/\JR k<wJ:=by
 unfold NG JR iN OD wJ;rcases qJ 2700000 k with h|h
 ·rw[if_neg (by omega),if_neg (by omega)];exact⟨mP _ _ _ _ _ _ (by omega),mP _ _ _ _ _ _ (by have:=AP (5400000-k) (by omega);omega)⟩
 ·rw[if_pos h,if_pos h];exact⟨mP _ _ _ _ _ _ (by have:=AP k h;omega),mP _ _ _ _ _ _ (by omega)⟩
theorem aDl{w0 W w1:World}{b c d:Nat}{m n o q r s t v7 u v:Value}(h:(W.cell? ⟨b,0,none⟩=some m/\W.cell? ⟨b,1,none⟩=some n/\W.cell? ⟨c,0,none⟩=some o/\W.cell? ⟨c,1,none⟩=some q/\W.cell? ⟨c,2,none⟩=some r/\W.cell? ⟨c,3,none⟩=some s/\W.cell? ⟨d,0,none⟩=some t/\W.cell? ⟨d,1,none⟩=some v7/\W.cell? ⟨d,2,none⟩=some u/\W.cell? ⟨d,3,none⟩=some v)/\Below w0.heap.size w0 W)(a:Below W.heap.size W w1):
  (w1.cell? ⟨b,0,none⟩=some m/\w1.cell? ⟨b,1,none⟩=some n/\w1.cell? ⟨c,0,none⟩=some o/\w1.cell? ⟨c,1,none⟩=some q/\w1.cell? ⟨c,2,none⟩=some r/\w1.cell? ⟨c,3,none⟩=some s/\w1.cell? ⟨d,0,none⟩=some t/\w1.cell? ⟨d,1,none⟩=some v7/\w1.cell? ⟨d,2,none⟩=some u/\w1.cell? ⟨d,3,none⟩=some v)/\Below w0.heap.size w0 w1:=by
 obtain⟨⟨i,w,j,x,y,z,k,A,B,D⟩,l⟩:=h;have g:=World.block_lt_of_cell? W _ i;have e:=World.block_lt_of_cell? W _ j;have f:=World.block_lt_of_cell? W _ k;exact⟨⟨(a.cell (p:=⟨b,0,none⟩) g).trans i,(a.cell (p:=⟨b,1,none⟩) g).trans w,(a.cell (p:=⟨c,0,none⟩) e).trans j,(a.cell (p:=⟨c,1,none⟩) e).trans x,(a.cell (p:=⟨c,2,none⟩) e).trans y,(a.cell (p:=⟨c,3,none⟩) e).trans z,(a.cell (p:=⟨d,0,none⟩) f).trans k,(a.cell (p:=⟨d,1,none⟩) f).trans A,(a.cell (p:=⟨d,2,none⟩) f).trans B,(a.cell (p:=⟨d,3,none⟩) f).trans D⟩,l.trans (a.mono l.size)⟩
theorem ZN(x y k:Nat)(hx:x<=2147483648)(hy:y<=2147483648)(hk:k<=5400000)(w:World):Calls zB 267 #[aG (x:Int) (y:Int),jI jJ (k:Int)] w (bI (.bool (GJ x y k)) w):=by
 obtain⟨V,a⟩:∃V,V=Value.bool (GJ x y k):=⟨_,rfl⟩;rw[<-a];have t:=zA (show cV 235 _ w.heap.size (x:Int) (y:Int)from heap_alloc_new w (jC #[jI jJ (x:Int),jI jJ (y:Int)] 235));have f:=zA ((zD w.heap.size w).alloc (zC _) (jC #[jI jJ (x:Int),jI jJ (y:Int)] 235));unfold GJ at a;by_cases h0:k=0
 ·subst h0;rw[show((0:Nat):Int)=0 from rfl];rw[if_pos rfl]at a;replace a:=zA a;unfold aG;go_enter Tryz.func267,Tryz.ntmps267;go_wp2;go_ret;exact⟨by rw[a.out];rfl,f.out⟩
 by_cases h1:k=2700000
 ·subst h1;rw[show((2700000:Nat):Int)=2700000 from rfl];rw[if_neg (by omega),if_pos rfl]at a;replace a:=zA a;unfold aG;go_enter Tryz.func267,Tryz.ntmps267;go_wp2;go_ret;exact⟨by rw[a.out];simp,f.out⟩
 rw[if_neg h0,if_neg h1]at a;have s:=aBe k hk;unfold wJ at s;have o:=Dd k hk;obtain⟨l,s1,m,n,_,_,O⟩:=bJ (V:=(NG k:Int)) ⟨by omega,by omega⟩;obtain⟨g,c1,h,i,_,_,N⟩:=bJ (V:=(JR k:Int)) ⟨by omega,by omega⟩;have p:=wP (JR k:Int) (y:Int) ⟨by omega,by omega⟩ (by omega) (by omega);have q:=wP (NG k:Int) (x:Int) ⟨by omega,by omega⟩ (by omega) (by omega);have e2:(JR k:Int)*(y:Int)%115792089237316195423570985008687907853269984665640564039457584007913129639936=((JR k*y%wJ:Nat):Int):=by rw[xG,yU];rfl
 have Y:(NG k:Int)*(x:Int)%115792089237316195423570985008687907853269984665640564039457584007913129639936=((NG k*x%wJ:Nat):Int):=by rw[xG,yU];rfl
 have U:JR k*y%wJ<wJ:=yX _ (by decide);have X:NG k*x%wJ<wJ:=yX _ (by decide);rw[e2]at p;rw[Y]at q;clear e2 Y;generalize JR k*y%wJ=A at*;generalize NG k*x%wJ=B at*;unfold wJ at U X;have r:=V6 (A:Int) (B:Int) ⟨by omega,by omega⟩ ⟨by omega,by omega⟩;obtain⟨p0,p1,p2,p3,_,_,M⟩:=bJ (V:=(A:Int)) ⟨by omega,by omega⟩;obtain⟨q0,q1,q2,q3,_,_,eb⟩:=bJ (V:=(B:Int)) ⟨by omega,by omega⟩;have Z:decide ((A:Int)<(B:Int))=decide (A<B):=by simp
 rw[O,N]at o;rw[N,M]at p;rw[O,eb]at q;rw[M,eb,Z]at r;generalize decide (A<B)=d at*;have wx:u64.wrap (x:Int)=(x:Int):=bG _ (by omega) (by omega);have wy:u64.wrap (y:Int)=(y:Int):=bG _ (by omega) (by omega);unfold bA at o p q r;replace o:=zA o;replace p:=zA p;replace q:=zA q;replace r:=zA r;replace a:=zA a;clear s O N M eb Z U X;unfold aG;go_enter Tryz.func267,Tryz.ntmps267;go_wp2_with fail
 refine(o.out _).mono ?_;rintro e b ⟨rfl,j⟩;have t:=zA (((aH j t.out).alloc (jC #[jI jU l,jI jU s1,jI jU m,jI jU n] 284)).alloc (jC #[jI jU g,jI jU c1,jI jU h,jI jU i] 284));have Q:=zA (show Blk _ b.heap.size l s1 m n from fG b (jC #[jI jU l,jI jU s1,jI jU m,jI jU n] 284) (jC #[jI jU g,jI jU c1,jI jU h,jI jU i] 284));have R:=zA (show Blk _ (b.heap.size+1) g c1 h i from dP b (jC #[jI jU l,jI jU s1,jI jU m,jI jU n] 284) (jC #[jI jU g,jI jU c1,jI jU h,jI jU i] 284));have f:=zA (((f.out.trans (j.mono f.out.size)).alloc (by have:=f.out.size;have:=j.size;omega) (jC #[jI jU l,jI jU s1,jI jU m,jI jU n] 284)).alloc (by have:=f.out.size;have:=j.size;simp;omega) (jC #[jI jU g,jI jU c1,jI jU h,jI jU i] 284));clear j;go_wp2_with fail
 generalize (b.alloc (jC #[jI jU l,jI jU s1,jI jU m,jI jU n] 284)).alloc (jC #[jI jU g,jI jU c1,jI jU h,jI jU i] 284)=u at*;have l1:=t.out.lt;have l5:=Q.out.lt;have l6:=R.out.lt;obtain⟨⟨v,z⟩,a0,a1⟩:=aV t.out;obtain⟨⟨D,E,G,H⟩,a2,a3,a4,a5⟩:=eS Q.out;obtain⟨⟨I,J,K,L⟩,a6,a7,a9,b0⟩:=eS R.out;clear o;go_region_held3 (fun c=>(c.cell? ⟨w.heap.size,0,none⟩=some (jI jJ (x:Int))/\c.cell? ⟨w.heap.size,1,none⟩=some (jI jJ (y:Int))/\c.cell? ⟨b.heap.size,0,none⟩=some (jI jU l)/\c.cell? ⟨b.heap.size,1,none⟩=some (jI jU s1)/\c.cell? ⟨b.heap.size,2,none⟩=some (jI jU m)/\c.cell? ⟨b.heap.size,3,none⟩=some (jI jU n)/\c.cell? ⟨b.heap.size+1,0,none⟩=some (jI jU g)/\c.cell? ⟨b.heap.size+1,1,none⟩=some (jI jU c1)/\c.cell? ⟨b.heap.size+1,2,none⟩=some (jI jU h)/\c.cell? ⟨b.heap.size+1,3,none⟩=some (jI jU i))/\Below u.heap.size u c)
  (first|exact⟨⟨v,z,D,E,G,H,I,J,K,L⟩,(zD _ _).drew⟩|exact aDl (by assumption) (by assumption))
  (first
   |(go_at_call 290;(first|with_reducible refine(p.out _).mono ?_ |with_reducible refine(q.out _).mono ?_);rintro e w6 ⟨rfl,j⟩)
   |(go_at_call 291;(with_reducible refine(r.out _).mono ?_);rintro e w6 ⟨rfl,j⟩))
 have hh:Below u.heap.size u w6:=And.right (by assumption);have HF:=zA (f.out.trans (hh.mono f.out.size));clear hh;go_wp2;go_ret;exact⟨by rw[a.out];rfl,HF.out⟩
end
section
open Go.RowKit
def oQ(x y:Int):Nat->Int×Int
 | 0=>(x,y)
 |j+1=>((oQ x y j).2,-(oQ x y j).1)
def qr(x y:Int):Nat:=if 0<x/\0<=y then 0 else if 0<y/\x<=0 then 1 else if x<0/\y<=0 then 2 else 3
theorem Gn(x y:Int)(a:-2147483648<=x/\x<=2147483648)(b:-2147483648<=y/\y<=2147483648):∀j,(-2147483648<=(oQ x y j).1/\(oQ x y j).1<=2147483648)/\(-2147483648<=(oQ x y j).2/\(oQ x y j).2<=2147483648)
 | 0=>⟨a,b⟩
 |j+1=>by
  have:=Gn x y a b j;simp only[oQ];omega
theorem aCa(x y:Int):qr x y<=3:=by
 unfold qr;split
 ·omega
 ·split
  ·omega
  ·split<;>omega
theorem aDH(x y:Int)(j:Nat)(h:j<qr x y):¬(0<(oQ x y j).1/\0<=(oQ x y j).2):=by
 unfold qr at h;split at h
 ·omega
 ·split at h
  ·obtain rfl:j=0:=by omega
   simp only[oQ];omega
  ·split at h
   ·rcases(show j=0\/j=1 by omega)with rfl|rfl<;>simp only[oQ]<;>omega
   ·rcases(show j=0\/j=1\/j=2 by omega)with rfl|rfl|rfl<;>simp only[oQ]<;>omega
theorem aG0(x y:Int)(h:¬(x=0/\y=0)):0<(oQ x y (qr x y)).1/\0<=(oQ x y (qr x y)).2:=by
 unfold qr;split
 ·simp only[oQ];omega
 ·split
  ·simp only[oQ];omega
  ·split
   ·simp only[oQ];omega
   ·simp only[oQ];omega
def EY(f:Nat->Bool):Nat->Nat->Nat->Nat
 | 0,low,_=>low
 |n+1,low,high=>if high-low<=1 then low else if f ((low+high)/2) then EY f n ((low+high)/2) high else EY f n low ((low+high)/2)
def Yf(x y:Int):Nat:=EY (GJ (oQ x y (qr x y)).1.toNat (oQ x y (qr x y)).2.toNat) 23 0 5400000
def sS(x y:Int):Int:=5400000*(qr x y:Int)+(Yf x y:Int)
def XH(x y:Int):Bool:=(Yf x y==0&&(oQ x y (qr x y)).2==0)||(Yf x y==2700000&&(oQ x y (qr x y)).1==(oQ x y (qr x y)).2)
theorem Ys{x v:Int}(f:-2147483648<=x/\x<=2147483648)(e:-2147483648<=v/\v<=2147483648):-4611686018427387904<=x*v/\x*v<=4611686018427387904:=by
 have a:=zX (show 0<=2147483648-x by omega) (show 0<=2147483648-v by omega);have b:=zX (show 0<=2147483648+x by omega) (show 0<=2147483648+v by omega);have c:=zX (show 0<=2147483648-x by omega) (show 0<=2147483648+v by omega);have d:=zX (show 0<=2147483648+x by omega) (show 0<=2147483648-v by omega);rw[Int.sub_mul,Int.mul_sub,Int.mul_sub]at a;rw[aiX,Int.mul_add,Int.mul_add]at b;rw[Int.sub_mul,Int.mul_add,Int.mul_add]at c;rw[aiX,Int.mul_sub,Int.mul_sub]at d;generalize x*v=P at*;omega
theorem JL(x y u v:Int)(d:-2147483648<=x/\x<=2147483648)(e:-2147483648<=y/\y<=2147483648)(b:-2147483648<=u/\u<=2147483648)(c:-2147483648<=v/\v<=2147483648)(w:World):
  Calls zB 230 #[aG x y,aG u v] w (bI (.bool (decide (y*u<=x*v))) w):=by
 have a:=zA (((zD w.heap.size w).alloc (zC _) (jC #[jI jJ x,jI jJ y] 235)).alloc (by simp) (jC #[jI jJ u,jI jJ v] 235));have f:=Ys d c;have g:=Ys e b;have h:i64.wrap (x*v)=x*v:=IntWalk.i64_in _ (by omega);have i:i64.wrap (y*u)=y*u:=IntWalk.i64_in _ (by omega);unfold aG;go_enter Tryz.func230,Tryz.ntmps230;go_wp2;go_ret;exact⟨rfl,a.out⟩
end
section
open Go.RowKit
theorem ZT(j:Int)(a:0<=j)(h:j<=2):(16200000-mB (jI jJ (5400000*j+5400000))).toNat<(16200000-mB (jI jJ (5400000*j))).toNat:=by
 simp only[mB];omega
theorem aAA{L N H:Int}(a:L<N)(b:N<H):(mB (jI jJ N)-mB (jI jJ L)).toNat<(mB (jI jJ H)-mB (jI jJ L)).toNat:=by
 simp only[mB];omega
theorem aAz{L N H:Int}(a:L<N)(b:N<H):(mB (jI jJ H)-mB (jI jJ N)).toNat<(mB (jI jJ H)-mB (jI jJ L)).toNat:=by
 simp only[mB];omega
theorem OU(x y:Int)(hx:-2147483648<=x/\x<=2147483648)(hy:-2147483648<=y/\y<=2147483648)(h0:¬(x=0/\y=0))(w:World):
  Calls zB 231 #[aG x y] w (bI (.tuple #[jI jJ (sS x y),.bool (XH x y)]) w):=by
 obtain⟨V,hV⟩:∃V,V=Value.tuple #[jI jJ (sS x y),.bool (XH x y)]:=⟨_,rfl⟩;rw[<-hV];unfold sS XH Yf at hV;have hq:=aCa x y;have G:=aG0 x y h0;have O:=zA (aDH x y);have a9:=zA (Gn x y hx hy);have I:=Gn x y hx hy (qr x y);have HX:(((oQ x y (qr x y)).1.toNat:Nat):Int)=(oQ x y (qr x y)).1:=Int.toNat_of_nonneg (by omega);have HY:(((oQ x y (qr x y)).2.toNat:Nat):Int)=(oQ x y (qr x y)).2:=Int.toNat_of_nonneg (by omega);have Z:=zA (show cV 235 _ w.heap.size x y from heap_alloc_new w (jC #[jI jJ x,jI jJ y] 235));have i:=zA ((zD w.heap.size w).alloc (zC _) (jC #[jI jJ x,jI jJ y] 235));have b8:=zA (show(oQ x y 0).1=x/\(oQ x y 0).2=y from⟨rfl,rfl⟩);have a7:=zA (show ∀j,(oQ x y (j+1)).1=(oQ x y j).2/\(oQ x y (j+1)).2=-(oQ x y j).1 from fun j=>⟨rfl,rfl⟩);generalize (oQ x y (qr x y)).1.toNat=X at*;generalize (oQ x y (qr x y)).2.toNat=Y at*;rw[<-HX,<-HY]at hV G I;generalize qr x y=Q at*;replace HX:=zA HX;replace HY:=zA HY;replace hV:=zA hV;clear hx hy h0;unfold aG;go_enter Tryz.func231,Tryz.ntmps231;go_wp2;go_loopw [4] (fun t wr=>∃j:Nat,j<=Q/\t=jI jJ (5400000*(j:Int))/\cV 235 wr w.heap.size (oQ x y j).1 (oQ x y j).2/\Below w.heap.size w wr) (fun t _=>(16200000-mB t).toNat)
 case atStart=>exact⟨0,by omega,by simp,Z.out,i.out⟩
 case round=>
  clear Z i;obtain⟨j,hj,rfl,A,s⟩:=hrel;have b0:=a9.out j;have l1:=A.lt;obtain⟨⟨a0,a1⟩,a2,a3⟩:=aV A;have i:=zA s;rcases qJ j Q with u|hge
  ·have B:=O.out j u;have z:=zA (a7.out j);generalize (oQ x y j).1=a at*;generalize (oQ x y j).2=b at*;have K2:=zA (A.write b (-a));have q:=zA ((s.setCell (p:=⟨w.heap.size,0,none⟩) (zC _) (jI jJ b)).setCell (p:=⟨w.heap.size,1,none⟩) (zC _) (jI jJ (-a)));clear A s;replace G:=zA G;replace I:=zA I;obtain⟨⟨_,_⟩,_,_⟩:=b0;have b1:(j:Int)<=2:=by omega
   have u:=zA u;clear hq hj;by_cases ha:0<a
   ·have c5:¬0<=b:=fun h=>B ⟨ha,h⟩;clear B;go_wp2;go_roundw
    case rel=>exact⟨j+1,u.out,by go_num,by rw[z.out.1,z.out.2];exact K2.out,q.out⟩
    case measure=>exact ZT j (by omega) b1
   ·clear B;go_wp2;go_roundw
    case rel=>exact⟨j+1,u.out,by go_num,by rw[z.out.1,z.out.2];exact K2.out,q.out⟩
    case measure=>exact ZT j (by omega) b1
  ·obtain rfl:j=Q:=by omega
   have K:=HX.out;have M:=HY.out;generalize (oQ x y j).1=a at*;generalize (oQ x y j).2=b at*;obtain⟨g1,g2⟩:=G;obtain⟨⟨g3,g4⟩,g5,g6⟩:=I;have c3:0<a:=by omega
   have c6:0<=b:=by omega
   have c4:a<=2147483648:=by omega
   have c7:b<=2147483648:=by omega
   have b9:X<=2147483648:=by omega
   have c0:Y<=2147483648:=by omega
   have c8:(j:Int)<=3:=by omega
   have b6:Hid (∀k:Nat,k<=5400000->∀w,Calls zB 267 #[aG a b,jI jJ (k:Int)] w (bI (.bool (GJ X Y k)) w)):=zA (fun k hk w=>by rw[<-K,<-M];exact ZN X Y k b9 c0 hk w);have Z:=zA A;have b7:=zA (And.intro K M);clear hq hj hge HX HY b8 a7 O a9 b0 A s g1 g2 g3 g4 g5 g6;have d:=hV.out;rw[K,M]at d;clear hV b7 K M;generalize hR:EY (GJ X Y) 23 0 5400000=R at d;replace d:=zA d;have hR:=zA hR;go_wp2;go_loopw [5,6] (fun lo hi b5=>∃n l h:Nat,lo=jI jJ (l:Int)/\hi=jI jJ (h:Int)/\l<h/\h<=5400000/\h-l<=2^n/\EY (GJ X Y) n l h=R/\cV 235 b5 w.heap.size a b/\Below w.heap.size w b5) (fun lo hi _=>(mB hi-mB lo).toNat)
   case atStart=>exact⟨23,0,5400000,rfl,rfl,by omega,by omega,by omega,hR.out,Z.out,i.out⟩
   case round=>
    clear hR Z i a0 a1 a2 a3 l1;obtain⟨n,l,h,rfl,rfl,a5,hh,B,z,A,s⟩:=hrel;have l1:=A.lt;obtain⟨⟨a0,a1⟩,a2,a3⟩:=aV A;have Z:=zA A;have i:=zA s;have B:=zA B;have z:=zA z;clear A s;by_cases hc:h-l<=1
    ·have c:R=l:=by
      have:=z.out;cases n with
      |zero=>exact this.symm
      |succ n=>rw[EY,if_pos hc]at this;exact this.symm
     have a4:(h:Int)-(l:Int)<=1:=by omega
     obtain⟨L,f⟩:∃L:Int,L=(l:Int):=⟨_,rfl⟩;obtain⟨H,E⟩:∃H:Int,H=(h:Int):=⟨_,rfl⟩;have i1:0<=L:=by omega
     have i3:H-L<=1:=by omega
     have i4:H<=5400000:=by omega
     have i5:L<H:=by omega
     rw[<-f,<-E];replace f:=zA f;replace E:=zA E;have o:=zA (show(R:Int)=L by have:=f.out;omega);clear a5 hh hc a4 B z;have wj:i64.wrap (5400000*(j:Int))=5400000*(j:Int):=IntWalk.i64_in _ (by omega);have wl:i64.wrap (5400000*(j:Int)+L)=5400000*(j:Int)+L:=IntWalk.i64_in _ (by omega);by_cases z1:L=0
     ·by_cases z2:b=0
      ·have g:(R==0&&b==0||R==2700000&&a==b)=true:=by (have:R=0:=by (have:=o.out;omega));simp[this,z2]
       have D:=zA (show ∀nq,bI V w (.returned (.tuple #[jI jJ (5400000*(j:Int)+L),.bool true])) (wr.drewN nq)from fun nq=>⟨by rw[d.out,g,c,f.out],below_drewN i.out nq⟩);clear g c;go_wp2;go_quiet (fail)
       go_wp2;refine bodyPost_ret (v:=.tuple #[jI jJ (5400000*(j:Int)+L),.bool true]) (by simp[results,Tryz.results231,go_sem,z1,z2]) rfl (D.out _)
      ·have g:(R==0&&b==0||R==2700000&&a==b)=false:=by (have:R=0:=by (have:=o.out;omega));simp[this,z2]
       have D:=zA (show ∀nq,bI V w (.returned (.tuple #[jI jJ (5400000*(j:Int)+L),.bool false])) (wr.drewN nq)from fun nq=>⟨by rw[d.out,g,c,f.out],below_drewN i.out nq⟩);clear g c;go_wp2;go_quiet (fail)
       go_wp2;refine bodyPost_ret (v:=.tuple #[jI jJ (5400000*(j:Int)+L),.bool false]) (by simp[results,Tryz.results231,go_sem,z1,z2]) rfl (D.out _)
     ·by_cases z2:L=2700000
      ·by_cases z3:a=b
       ·have g:(R==0&&b==0||R==2700000&&a==b)=true:=by (have:R=2700000:=by (have:=o.out;omega));simp[this,z3]
        have D:=zA (show ∀nq,bI V w (.returned (.tuple #[jI jJ (5400000*(j:Int)+L),.bool true])) (wr.drewN nq)from fun nq=>⟨by rw[d.out,g,c,f.out],below_drewN i.out nq⟩);clear g c;go_wp2;go_quiet (fail)
        go_wp2;refine bodyPost_ret (v:=.tuple #[jI jJ (5400000*(j:Int)+L),.bool true]) (by simp[results,Tryz.results231,go_sem,z2,z3]) rfl (D.out _)
       ·have g:(R==0&&b==0||R==2700000&&a==b)=false:=by (have:R=2700000:=by (have:=o.out;omega));simp[this,z3]
        have D:=zA (show ∀nq,bI V w (.returned (.tuple #[jI jJ (5400000*(j:Int)+L),.bool false])) (wr.drewN nq)from fun nq=>⟨by rw[d.out,g,c,f.out],below_drewN i.out nq⟩);clear g c;go_wp2;go_quiet (fail)
        go_wp2;refine bodyPost_ret (v:=.tuple #[jI jJ (5400000*(j:Int)+L),.bool false]) (by simp[results,Tryz.results231,go_sem,z2,z3]) rfl (D.out _)
      ·have g:(R==0&&b==0||R==2700000&&a==b)=false:=by (have h1:R≠0:=by (have:=o.out;omega));(have h2:R≠2700000:=by (have:=o.out;omega));simp[h1,h2]
       have D:=zA (show ∀nq,bI V w (.returned (.tuple #[jI jJ (5400000*(j:Int)+L),.bool false])) (wr.drewN nq)from fun nq=>⟨by rw[d.out,g,c,f.out],below_drewN i.out nq⟩);clear g c;go_wp2;go_quiet (fail)
       go_wp2;refine bodyPost_ret (v:=.tuple #[jI jJ (5400000*(j:Int)+L),.bool false]) (by simp[results,Tryz.results231,go_sem]) rfl (D.out _)
    ·obtain⟨n,rfl⟩:∃n',n=n'+1:=⟨n-1,by
      have:=B.out;cases n with
      |zero=>simp at this;omega
      |succ n=>omega⟩
     obtain⟨m,hm,b2,b3⟩:∃m,m=(l+h)/2/\l<m/\m<h:=⟨_,rfl,by omega,by omega⟩;have hp:2^(n+1)=2*2^n:=by rw[yT];omega
     have b4:((l:Int)+(h:Int))/2=(m:Int):=by omega
     have c2:i64.wrap (((l:Int)+(h:Int)).tdiv 2)=(m:Int):=by rw[Int.tdiv_eq_ediv_of_nonneg (by omega),b4];exact IntWalk.i64_in _ (by omega)
     clear b4;have HM:=zA (b6.out m (by omega));have a6:=z.out;rw[EY,if_neg hc,<-hm]at a6;have J:m-l<=2^n/\h-m<=2^n:=by have:=B.out;omega
     have a4:¬(h:Int)-(l:Int)<=1:=by omega
     generalize GJ X Y m=r at*;have HS:=zA a6;have J:=zA J;have hm:=zA hm;clear B z a6 hp;unfold aG at HM;obtain⟨L,f⟩:∃L:Int,L=(l:Int):=⟨_,rfl⟩;obtain⟨H,E⟩:∃H:Int,H=(h:Int):=⟨_,rfl⟩;obtain⟨N,hN⟩:∃N:Int,N=(m:Int):=⟨_,rfl⟩;have i1:0<=L:=by omega
     have i2:L<N:=by omega
     have i3:N<H:=by omega
     have i4:H<=5400000:=by omega
     have i5:1<H-L:=by omega
     rw[<-f,<-E];rw[<-f,<-E,<-hN]at c2;rw[<-hN]at HM;have hF:=zA (And.intro b2 (And.intro b3 (And.intro a5 hh)));replace f:=zA f;replace E:=zA E;replace hN:=zA hN;clear b2 b3 a5 hh hc a4;go_wp2_with fail
     refine(HM.out _).mono ?_;rintro e w1 ⟨rfl,s⟩;have K2:=zA (aH s Z.out);have q:=zA (i.out.trans (s.mono i.out.size));clear s;cases r
     ·have U:=zA (show EY (GJ X Y) n l m=R from HS.out);clear HS;go_wp2;go_roundw
      case rel=>exact⟨n,l,m,congrArg (Value.int jJ) f.out,congrArg (Value.int jJ) hN.out,hF.out.1,by have:=hF.out;omega,J.out.1,U.out,K2.out,q.out⟩
      case measure=>exact aAA i2 i3
     ·have U:=zA (show EY (GJ X Y) n m h=R from HS.out);clear HS;go_wp2;go_roundw
      case rel=>exact⟨n,m,h,congrArg (Value.int jJ) hN.out,congrArg (Value.int jJ) E.out,hF.out.2.1,hF.out.2.2.2,J.out.2,U.out,K2.out,q.out⟩
      case measure=>exact aAz i2 i3
end
end Go.Proofs.YtlbklncoihhfcaaGreatDoor
