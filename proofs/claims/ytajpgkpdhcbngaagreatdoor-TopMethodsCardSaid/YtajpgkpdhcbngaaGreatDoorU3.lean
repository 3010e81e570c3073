/-
    .
-/
import Derived.Test.YtajpgkpdhcbngaaGreatDoorU2
import Derived.Deep.RegionHeld3
set_option maxRecDepth 100000
set_option maxHeartbeats 4000000
open Go.RowKit.Below renaming heap_alloc→ahX,refl→aeX
open _root_.Int renaming emod_lt_of_pos→agQ,emod_nonneg→aiQ,le_of_lt→aoJ,lt_trichotomy→alQ,mul_le_mul→anJ,mul_le_mul_of_nonneg_left→agX,toNat_of_nonneg→ajQ
open Go.Lib renaming hid→aaX
open _root_.Nat renaming eq_or_lt_of_le→amX,le_refl→aaJ,le_trans→ahJ,lt_or_ge→adZ,zero_le→afX
open _root_.Rat renaming intCast_add→acQ,intCast_le_intCast→ahQ,intCast_mul→acX,intCast_natCast→alZ,intCast_sub→abZ,le_refl→ayJ,mul_nonneg→aaQ,natCast_add→ahZ,natCast_le_natCast→acZ,natCast_mul→afJ
open Go.Proofs.Tryz renaming prog→aaZ
open Go.World renaming setCell→ayQ
open Go.IntKind (i64 u64)
namespace Go.Proofs.YtajpgkpdhcbngaaGreatDoor
section
open Go.RowKit
theorem nM {w w1:World} {x y z u:Value} {t:TypeId} {B b:Nat} (hb:Below B w w1) (hB:b<B) (h:w.heap[b]? =some (.cells #[x,y,z,u] t (0,0))):
  (w1.cell? ⟨b,0,none⟩=some x∧w1.cell? ⟨b,1,none⟩=some y∧w1.cell? ⟨b,2,none⟩=some z∧w1.cell? ⟨b,3,none⟩=some u)∧
  w1.frozen? ⟨b,0,none⟩=false∧w1.frozen? ⟨b,1,none⟩=false∧w1.frozen? ⟨b,2,none⟩=false∧w1.frozen? ⟨b,3,none⟩=false:=by
 have h1:w1.heap[b]? =some (.cells #[x,y,z,u] t (0,0)):=(hb.block b hB).trans h;refine ⟨⟨?_,?_,?_,?_⟩,?_,?_,?_,?_⟩
 ·simp [World.cell?,h1]
 ·simp [World.cell?,h1]
 ·simp [World.cell?,h1]
 ·simp [World.cell?,h1]
 ·simp [World.frozen?,h1]
 ·simp [World.frozen?,h1]
 ·simp [World.frozen?,h1]
 ·simp [World.frozen?,h1]
theorem MW (w:World) (o o':Obj):((w.alloc o).alloc o').heap[w.heap.size]? =some o:=by
 rw [ahX _ _ _ (by simp),heap_alloc_new]
theorem vO (a b c N:Int) (ha:bQ a) (hb0:0≤b) (hb1:b≤N) (hN:N<9223372036854775808) (hc0:0≤c) (hc1:c≤N):∃hi lo s k t:Int,bQ s∧(0≤t∧t≤N)∧a*b+c=s+18446744073709551616*t∧
  (∀w,Calls aaZ 192 #[.int .u64 a,.int .u64 b] w (fun e w'=>e=.returned (.tuple #[.int .u64 hi,.int .u64 lo])∧w'=w))∧
  (∀w,(callFunc 193 #[.int .u64 lo,.int .u64 c,.int .u64 0]).run aaZ w=.ok (.value (.tuple #[.int .u64 s,.int .u64 k])) w)∧u64.wrap (hi+k)=t:=by
 obtain ⟨a0,a1⟩:=ha;have hp0:0≤a*b:=Int.mul_nonneg a0 hb0;have hp1:a*b≤18446744073709551615*N:=anJ (by omega) hb1 hb0 (by decide);have hM:∀w,Calls aaZ 192 #[.int .u64 a,.int .u64 b] w fun e w'=>e=.returned (.tuple #[.int .u64 (a*b/18446744073709551616),.int .u64 (a*b%18446744073709551616)])∧w'=w:=
  fun w=>(wT a b ⟨a0,a1⟩ ⟨hb0,by omega⟩ w).mono fun _ _ h=>⟨h.1,h.2.symm⟩
 generalize hP:a*b=P at*;refine ⟨P/18446744073709551616,P%18446744073709551616,(P%18446744073709551616+c)%18446744073709551616,(P%18446744073709551616+c)/18446744073709551616,P/18446744073709551616+(P%18446744073709551616+c)/18446744073709551616,⟨by omega,by omega⟩,⟨by omega,by omega⟩,by omega,hM,fun w=>?_,?_⟩
 ·have:=mQ (P%18446744073709551616) c 0 (by omega) hc0 (by omega) w;simpa using this
 ·exact cY _ (by omega) (by omega)
theorem KI (n:Int) (h0:0≤n) (h1:n≤2700000):
  ∃s0 s1 s2 s3 r:Int,(bQ s0∧bQ s1∧bQ s2∧bQ s3)∧0≤r∧r<10800000∧(s0*6277101735386680763835789423207666416102355444464034512896+s1*340282366920938463463374607431768211456+s2*18446744073709551616+s3)*10800000+r=363771576891766324280234942777729862653393377328392429958772151117938894466185*n∧∀w,Calls aaZ 218 #[.int .i64 n] w (gC w (cO s0 s1 s2 s3)):=by
 obtain ⟨x3,y3,s3,k3,t3,g3,d3,e3,M3,A3,z3⟩:=vO 589684135938649225 n 0 2700000 ⟨by omega,by omega⟩ h0 h1 (by omega) (by omega) (by omega);obtain ⟨x2,y2,s2,k2,t2,g2,d2,e2,M2,A2,z2⟩:=vO 11820040416388919760 n t3 2700000 ⟨by omega,by omega⟩ h0 h1 (by omega) d3.1 d3.2;obtain ⟨x1,y1,s1,k1,t1,g1,d1,e1,M1,A1,z1⟩:=vO 1376283091369227076 n t2 2700000 ⟨by omega,by omega⟩ h0 h1 (by omega) d2.1 d2.2;obtain ⟨x0,y0,s0,k0,t0,g0,d0,e0,M0,A0,z0⟩:=vO 2611923443488327891 n t1 2700000 ⟨by omega,by omega⟩ h0 h1 (by omega) d1.1 d1.2;obtain ⟨q0,q1,q2,q3,r,hq,hr0,hr1,hq',HD⟩:=ndiv_ex s0 s1 s2 s3 ((t0+3*n)%10800000) 10800000 g0 g1 g2 g3 (by omega) (by omega) (by omega) (by omega);have ht:t0+3*n<10800000:=by
  obtain ⟨_,_⟩:=g0;obtain ⟨_,_⟩:=g1;obtain ⟨_,_⟩:=g2;obtain ⟨_,_⟩:=g3;clear hq' HD M0 M1 M2 M3 A0 A1 A2 A3;omega
 have htm:(t0+3*n)%10800000=t0+3*n:=Int.emod_eq_of_lt (by omega) ht;refine ⟨q0,q1,q2,q3,r,hq,hr0,hr1,?_,fun w=>?_⟩
 ·rw [htm] at hq';clear HD M0 M1 M2 M3 A0 A1 A2 A3;omega
 have w1:u64.wrap n=n:=cY _ (by omega) (by omega);have w2:u64.wrap (3*n)=3*n:=cY _ (by omega) (by omega);have w3:u64.wrap (t0+3*n)=t0+3*n:=cY _ (by omega) (by omega);have w4:(t0+3*n).tmod 10800000=(t0+3*n)%10800000:=Int.tmod_eq_emod_of_nonneg (by omega);have w5:u64.wrap ((t0+3*n)%10800000)=(t0+3*n)%10800000:=cY _ (by omega) (by omega);clear htm ht hq hq' hr0 hr1 e0 e1 e2 e3 d0 d1 d2 d3 g0 g1 g2 g3;generalize (t0+3*n)%10800000=m at*;have M0:=aaX M0;have M1:=aaX M1;have M2:=aaX M2;have M3:=aaX M3;have HD:=aaX HD;unfold cO at HD;go_enter Tryz.func218,Tryz.ntmps218;go_wp2;refine wp_loop_rounds 5 ?_;rw [rounds_succ];go_wp2_with (first | (go_at_call 192;refine (M3.out _).mono ?_;rintro e w' ⟨rfl,rfl⟩))
 rw [rounds_succ];go_wp2_with (first | (go_at_call 192;refine (M2.out _).mono ?_;rintro e w' ⟨rfl,rfl⟩))
 rw [rounds_succ];go_wp2_with (first | (go_at_call 192;refine (M1.out _).mono ?_;rintro e w' ⟨rfl,rfl⟩))
 rw [rounds_succ];go_wp2_with (first | (go_at_call 192;refine (M0.out _).mono ?_;rintro e w' ⟨rfl,rfl⟩))
 rw [rounds_succ];go_wp2_with fail
 refine (HD.out _).mono ?_;rintro e w' ⟨rfl,hb⟩;obtain ⟨⟨c0,c1,c2,c3⟩,f0,f1,f2,f3⟩:=nM hb (by simp;omega) (MW w _ _);have HB:=aaX hb;have hsz:=hb.size;clear hb;go_wp2_with fail
 have HF:=aaX (show Below w.heap.size w ((((w'.setCell ⟨w.heap.size,0,none⟩ (.int .u64 q0)).setCell ⟨w.heap.size,1,none⟩ (.int .u64 q1)).setCell ⟨w.heap.size,2,none⟩ (.int .u64 q2)).setCell ⟨w.heap.size,3,none⟩ (.int .u64 q3)) from
  (((((((aeX _ _).alloc (aaJ _) _).alloc (by simp) _).trans (HB.out.mono (by simp;omega))).setCell (aaJ _) _).setCell (aaJ _) _).setCell (aaJ _) _).setCell (aaJ _) _)
 simp [bodyPost,results,Tryz.results218,go_sem,c0,c1,c2,c3];exact ⟨rfl,HF.out⟩
end
section
open Go.RowKit
def num (a0 a1 a2 a3:Int):Int:=(a0*6277101735386680763835789423207666416102355444464034512896+a1*340282366920938463463374607431768211456+a2*18446744073709551616+a3)
theorem mC (a0 a1 a2 a3:Int) (h:(bQ a0∧bQ a1∧bQ a2∧bQ a3)):0≤num a0 a1 a2 a3∧num a0 a1 a2 a3<115792089237316195423570985008687907853269984665640564039457584007913129639936:=by
 obtain ⟨⟨_,_⟩,⟨_,_⟩,⟨_,_⟩,⟨_,_⟩⟩:=h;unfold num;omega
def AY (w:World) (b:Nat) (a0 a1 a2 a3:Int):Prop:=w.heap[b]? =some (.cells #[.int .u64 a0,.int .u64 a1,.int .u64 a2,.int .u64 a3] 237 (0,0))
theorem AY.lt {w:World} {b:Nat} {a0 a1 a2 a3:Int} (h:AY w b a0 a1 a2 a3):b<w.heap.size:=by
 unfold AY at h;exact (Array.getElem?_eq_some_iff.1 h).1
theorem AY.below {w w':World} {b:Nat} {a0 a1 a2 a3:Int} (h:AY w b a0 a1 a2 a3) (hb:Below w.heap.size w w'):AY w' b a0 a1 a2 a3:=(hb.block b h.lt).trans h
structure Step (y0 y1 y2 y3 u0 u1 u2 u3 d v0 v1 v2 v3:Int):Prop where
 out:∃q0 q1 q2 q3 m0 m1 m2 m3 r:Int,(bQ q0∧bQ q1∧bQ q2∧bQ q3)∧(bQ m0∧bQ m1∧bQ m2∧bQ m3)∧0≤r∧r<d∧num y0 y1 y2 y3=num q0 q1 q2 q3*d+r∧num m0 m1 m2 m3*115792089237316195423570985008687907853269984665640564039457584007913129639936≤num q0 q1 q2 q3*num u0 u1 u2 u3∧num q0 q1 q2 q3*num u0 u1 u2 u3<(num m0 m1 m2 m3+2)*115792089237316195423570985008687907853269984665640564039457584007913129639936∧num v0 v1 v2 v3=num q0 q1 q2 q3-num m0 m1 m2 m3∧
  (∀w,Calls aaZ 252 #[cO y0 y1 y2 y3,.int .u64 0,.int .u64 d] w (gC w (cO q0 q1 q2 q3)))∧
  (∀w,Calls aaZ 220 #[cO q0 q1 q2 q3,cO u0 u1 u2 u3] w (gC w (cO m0 m1 m2 m3)))∧
  (∀w,Calls aaZ 219 #[cO q0 q1 q2 q3,cO m0 m1 m2 m3] w (gC w (cO v0 v1 v2 v3)))
theorem step_ex (y0 y1 y2 y3 u0 u1 u2 u3 d:Int) (hy:(bQ y0∧bQ y1∧bQ y2∧bQ y3)) (hu:(bQ u0∧bQ u1∧bQ u2∧bQ u3)) (hd:0<d) (hd2:d<4294967296):
  ∃v0 v1 v2 v3:Int,(bQ v0∧bQ v1∧bQ v2∧bQ v3)∧Step y0 y1 y2 y3 u0 u1 u2 u3 d v0 v1 v2 v3:=by
 obtain ⟨q0,q1,q2,q3,r,hq,hr0,hr1,e1,H1⟩:=ndiv_ex y0 y1 y2 y3 0 d hy.1 hy.2.1 hy.2.2.1 hy.2.2.2 hd hd2 (by omega) hd;obtain ⟨m0,m1,m2,m3,hm,e2,e3,H2⟩:=SJ q0 q1 q2 q3 u0 u1 u2 u3 hq.1 hq.2.1 hq.2.2.1 hq.2.2.2 hu.1 hu.2.1 hu.2.2.1 hu.2.2.2;obtain ⟨v0,v1,v2,v3,k,hv,hk,e4,H3⟩:=sub_ex q0 q1 q2 q3 m0 m1 m2 m3 hq.1 hq.2.1 hq.2.2.1 hq.2.2.2 hm.1 hm.2.1 hm.2.2.1 hm.2.2.2;have bq:=mC q0 q1 q2 q3 hq;have bu:=mC u0 u1 u2 u3 hu;have bm:=mC m0 m1 m2 m3 hm;have bv:=mC v0 v1 v2 v3 hv;have hqu:num q0 q1 q2 q3*num u0 u1 u2 u3≤num q0 q1 q2 q3*115792089237316195423570985008687907853269984665640564039457584007913129639936:=agX (by omega) bq.1;change num m0 m1 m2 m3*_≤num q0 q1 q2 q3*num u0 u1 u2 u3 at e2;change num q0 q1 q2 q3*num u0 u1 u2 u3<(num m0 m1 m2 m3+2)*_ at e3;change num v0 v1 v2 v3=num q0 q1 q2 q3-num m0 m1 m2 m3+_ at e4;change _+num y0 y1 y2 y3=num q0 q1 q2 q3*d+r at e1;refine ⟨v0,v1,v2,v3,hv,⟨q0,q1,q2,q3,m0,m1,m2,m3,r,hq,hm,hr0,hr1,by omega,e2,e3,?_,H1,H2,H3⟩⟩;generalize num q0 q1 q2 q3*num u0 u1 u2 u3=P at*;omega
inductive Chain (y0 y1 y2 y3 o:Int):Nat→Int→Int→Int→Int→Prop
 | start:Chain y0 y1 y2 y3 o 34 0 0 0 0
 | next (k:Nat) (u0 u1 u2 u3 v0 v1 v2 v3:Int) (h:Chain y0 y1 y2 y3 o (k+1) u0 u1 u2 u3) (hs:Step y0 y1 y2 y3 u0 u1 u2 u3 ((2*((k:Int)+1)-1+o)*(2*((k:Int)+1)+o)) v0 v1 v2 v3):Chain y0 y1 y2 y3 o k v0 v1 v2 v3
end
section
open Go.RowKit
def UI (v:Int×Int×Int×Int):Prop:=bQ v.1∧bQ v.2.1∧bQ v.2.2.1∧bQ v.2.2.2
theorem zeros:UI (0,0,0,0):=⟨⟨by decide,by decide⟩,⟨by decide,by decide⟩,⟨by decide,by decide⟩,⟨by decide,by decide⟩⟩
def lY (k:Nat) (o:Int):Int:=(2*((k:Int)+1)-1+o)*(2*((k:Int)+1)+o)
theorem IP (k:Nat) (o:Int) (hk:k<34) (h0:0≤o) (h1:o≤1):0<lY k o∧lY k o<4294967296:=by
 unfold lY;have hK:∃K:Int,K=(k:Int)∧0≤K∧K<34:=⟨k,rfl,by omega,by omega⟩;obtain ⟨K,e,k0,k1⟩:=hK;rw [←e];have p:=Int.mul_pos (show 0<2*(K+1)-1+o by omega) (show 0<2*(K+1)+o by omega);have q:=anJ (show 2*(K+1)-1+o≤70 by omega) (show 2*(K+1)+o≤70 by omega) (by omega) (by omega);omega
def GJ (y:Int×Int×Int×Int) (o:Int) (f:Nat→Int×Int×Int×Int):Prop:=
 (∀k,k≤34→UI (f k))∧f 34=(0,0,0,0)∧∀k,k<34→Step y.1 y.2.1 y.2.2.1 y.2.2.2 (f (k+1)).1 (f (k+1)).2.1 (f (k+1)).2.2.1 (f (k+1)).2.2.2 (lY k o) (f k).1 (f k).2.1 (f k).2.2.1 (f k).2.2.2
theorem series_ex (y:Int×Int×Int×Int) (o:Int) (hy:UI y) (h0:0≤o) (h1:o≤1):∃f,GJ y o f:=by
 have key:∀n,n≤34→∃f:Nat→Int×Int×Int×Int,(∀k,34-n≤k→k≤34→UI (f k))∧f 34=(0,0,0,0)∧∀k,34-n≤k→k<34→Step y.1 y.2.1 y.2.2.1 y.2.2.2 (f (k+1)).1 (f (k+1)).2.1 (f (k+1)).2.2.1 (f (k+1)).2.2.2 (lY k o) (f k).1 (f k).2.1 (f k).2.2.1 (f k).2.2.2:=by
  intro n;induction n with
  | zero=>intro _;exact ⟨fun _=>(0,0,0,0),fun _ _ _=>zeros,rfl,fun k hk hk'=>by omega⟩
  | succ n ih=>
   intro hn;obtain ⟨f,g1,g2,g3⟩:=ih (by omega);have hd:=IP (33-n) o (by omega) h0 h1;obtain ⟨v0,v1,v2,v3,hv,hs⟩:=step_ex y.1 y.2.1 y.2.2.1 y.2.2.2 (f (34-n)).1 (f (34-n)).2.1 (f (34-n)).2.2.1 (f (34-n)).2.2.2 (lY (33-n) o) hy (g1 _ (by omega) (by omega)) hd.1 hd.2;refine ⟨fun k=>if k=33-n then (v0,v1,v2,v3) else f k,fun k h2 h3=>?_,?_,fun k h2 h3=>?_⟩
   ·by_cases h:k=33-n
    ·simp only [h,if_true];exact hv
    ·simp only [h,if_false];exact g1 k (by omega) h3
   ·simp only [show ¬34=33-n by omega,if_false];exact g2
   ·by_cases h:k=33-n
    ·subst h;simp only [if_true,if_false,show 33-n+1=34-n by omega,show ¬34-n=33-n by omega];exact hs
    ·simp only [h,if_false,show ¬k+1=33-n by omega];exact g3 k (by omega) h3
 obtain ⟨f,g1,g2,g3⟩:=key 34 (by omega);exact ⟨f,fun k hk=>g1 k (by omega) hk,g2,fun k hk=>g3 k (by omega) hk⟩
end
section
open Go.RowKit
def LRel (w:World) (b5 b6:Nat) (y:Int×Int×Int×Int) (f:Nat→Int×Int×Int×Int) (K:Value) (wr:World) (k:Nat):Prop:=
 k≤34∧K=.int .u64 (k:Int)∧AY wr (w.heap.size+1) 0 0 0 0∧AY wr b5 y.1 y.2.1 y.2.2.1 y.2.2.2∧AY wr b6 (f k).1 (f k).2.1 (f k).2.2.1 (f k).2.2.2∧Below w.heap.size w wr
theorem GT (w:World) (o o':Obj):((w.alloc o).alloc o').heap[w.heap.size+ 1]? =some o':=by
 have:=heap_alloc_new (w.alloc o) o';simpa using this
theorem AY.alloc {w:World} {b:Nat} {a0 a1 a2 a3:Int} (h:AY w b a0 a1 a2 a3) (o:Obj):AY (w.alloc o) b a0 a1 a2 a3:=h.below ((aeX _ _).alloc (aaJ _) _)
theorem fN {w w':World} {b:Nat} {a0 a1 a2 a3:Int} (hb:Below w.heap.size w w') (h:AY w b a0 a1 a2 a3):AY w' b a0 a1 a2 a3:=h.below hb
theorem AY.write {w:World} {b:Nat} {a0 a1 a2 a3:Int} (h:AY w b a0 a1 a2 a3) (v0 v1 v2 v3:Int):
  AY ((((w.setCell ⟨b,0,none⟩ (.int .u64 v0)).setCell ⟨b,1,none⟩ (.int .u64 v1)).setCell ⟨b,2,none⟩ (.int .u64 v2)).setCell ⟨b,3,none⟩ (.int .u64 v3)) b v0 v1 v2 v3:=by
 unfold AY at*;simp [ayQ,h,Array.getElem?_modify]
theorem AY.other {w:World} {b b':Nat} {a0 a1 a2 a3:Int} (h:AY w b a0 a1 a2 a3) (hb:b<b') (v0 v1 v2 v3:Value):
  AY ((((w.setCell ⟨b',0,none⟩ v0).setCell ⟨b',1,none⟩ v1).setCell ⟨b',2,none⟩ v2).setCell ⟨b',3,none⟩ v3) b a0 a1 a2 a3:=
 ((((aeX b' w).setCell (aaJ _) _).setCell (aaJ _) _).setCell (aaJ _) _ |>.setCell (aaJ _) _).block b hb |>.trans h
def uOf:Value→Nat | .int _ x=>x.toNat | _=>0
theorem less_walk (x0 x1 x2 x3 o:Int) (y:Int×Int×Int×Int) (f:Nat→Int×Int×Int×Int) (h0:0≤o) (h1:o≤1) (hf:GJ y o f)
  (H:∀w,Calls aaZ 220 #[cO x0 x1 x2 x3,cO x0 x1 x2 x3] w (gC w (cO y.1 y.2.1 y.2.2.1 y.2.2.2))) (w:World):Calls aaZ 221 #[cO x0 x1 x2 x3,.int .u64 o] w (gC w (cO (f 0).1 (f 0).2.1 (f 0).2.2.1 (f 0).2.2.2)):=by
 have HF:=aaX hf;have H:=aaX H;obtain ⟨y0,y1,y2,y3⟩:=y;clear hf;unfold cO at H;unfold cO;go_enter Tryz.func221,Tryz.ntmps221;go_wp2_with fail
 refine (H.out _).mono ?_;rintro e w' ⟨rfl,hb⟩;have HB:=aaX hb;have hsz:=hb.size;clear hb;go_wp2_with fail
 have HS:=aaX (show LRel w w'.heap.size (w'.heap.size+1) (y0,y1,y2,y3) f (.int .u64 34) ((w'.alloc (.cells #[.int .u64 y0,.int .u64 y1,.int .u64 y2,.int .u64 y3] 237)).alloc (.cells #[.int .u64 0,.int .u64 0,.int .u64 0,.int .u64 0] 237)) 34 from
  ⟨aaJ _,rfl,(((AY.below (show AY _ (w.heap.size+1) 0 0 0 0 from GT w _ _) HB.out).alloc _).alloc _),MW w' _ _,by rw [HF.out.2.1];exact GT w' _ _,
   ((((aeX _ _).alloc (aaJ _) _).alloc (by simp) _).trans (HB.out.mono (by simp;omega))).alloc (by simp at hsz;omega) _ |>.alloc (by simp at hsz ⊢;omega) _⟩)
 clear HB;go_loopw [7] (fun K wr=>∃k,LRel w w'.heap.size (w'.heap.size+1) (y0,y1,y2,y3) f K wr k) (fun K _=>uOf K)
 case atStart=>exact ⟨_,HS.out⟩
 case round=>
  clear HS;obtain ⟨k,hk,rfl,n1,n2,n3,hb⟩:=hrel;have HB:=aaX hb;have N1:=aaX n1;have N2:=aaX n2;have N3:=aaX n3;have l1:=n1.lt;have l2:=n2.lt;have l3:=n3.lt;obtain ⟨⟨a0,a1,a2,a3⟩,a4,a5,a6,a7⟩:=nM (aeX (wr.heap.size) wr) l1 n1;obtain ⟨⟨b0,b1,b2,b3⟩,b4,b5,b6,b7⟩:=nM (aeX (wr.heap.size) wr) l2 n2;obtain ⟨⟨c0,c1,c2,c3⟩,c4,c5,c6,c7⟩:=nM (aeX (wr.heap.size) wr) l3 n3;clear n1 n2 n3 hb;rcases Nat.eq_zero_or_pos k with rfl | hkp
  ·have HG:=aaX (show Below w.heap.size w ((((wr.setCell ⟨w.heap.size+1,0,none⟩ (.int .u64 (f 0).1)).setCell ⟨w.heap.size+1,1,none⟩ (.int .u64 (f 0).2.1)).setCell ⟨w.heap.size+1,2,none⟩ (.int .u64 (f 0).2.2.1)).setCell ⟨w.heap.size+1,3,none⟩ (.int .u64 (f 0).2.2.2)) from
    (((HB.out.setCell (Nat.le_succ _) _).setCell (Nat.le_succ _) _).setCell (Nat.le_succ _) _).setCell (Nat.le_succ _) _)
   go_wp2_with fail
   simp [bodyPost,results,Tryz.results221,go_sem,a0,a1,a2,a3];exact ⟨rfl,HG.out⟩
  ·obtain ⟨j,rfl⟩:∃j,k=j+1:=⟨k-1,by omega⟩;obtain ⟨hd0,hd1⟩:=IP j o (by omega) h0 h1;obtain ⟨q0,q1,q2,q3,m0,m1,m2,m3,r,hq,hm,hr0,hr1,hqy,hm1,hm2,hv,H1,H2,H3⟩:=(HF.out.2.2 j (by omega)).out;clear hq hm hr0 hr1 hqy hm1 hm2 hv;have H1:=aaX H1;have H2:=aaX H2;have H3:=aaX H3;have e1:u64.wrap (2*((j:Int)+1))=2*((j:Int)+1):=cY _ (by omega) (by omega);have e2:u64.wrap (2*((j:Int)+1)-1)=2*((j:Int)+1)-1:=cY _ (by omega) (by omega);have e3:u64.wrap (2*((j:Int)+1)-1+o)=2*((j:Int)+1)-1+o:=cY _ (by omega) (by omega);have e4:u64.wrap (2*((j:Int)+1)+o)=2*((j:Int)+1)+o:=cY _ (by omega) (by omega);have e5:u64.wrap ((2*((j:Int)+1)-1+o)*(2*((j:Int)+1)+o))=lY j o:=cY (lY j o) (by omega) (by omega);clear hd0 hd1;generalize f (j+1)=u at*;obtain ⟨u0,u1,u2,u3⟩:=u;generalize hDv:lY j o=D at*;clear hDv;unfold cO at H1;go_wp2_with fail
   refine (H1.out _).mono ?_;rintro e w2 ⟨rfl,hb2⟩;have l4:=hb2.size;have M1:=aaX (N1.out.below hb2);have M2:=aaX (N2.out.below hb2);have M3:=aaX (N3.out.below hb2);have HB2:=aaX (HB.out.trans (hb2.mono (by omega)));clear hb2 a0 a1 a2 a3 a4 a5 a6 a7 b0 b1 b2 b3 b4 b5 b6 b7 c0 c1 c2 c3 c4 c5 c6 c7;obtain ⟨⟨c0,c1,c2,c3⟩,c4,c5,c6,c7⟩:=nM (aeX (w2.heap.size) w2) (by omega) M3.out;go_wp2_with fail
   have NQ:=aaX (show AY (w2.alloc (.cells #[.int .u64 q0,.int .u64 q1,.int .u64 q2,.int .u64 q3] 237)) w2.heap.size q0 q1 q2 q3 from heap_alloc_new w2 _);have M4:=aaX (M3.out.alloc (.cells #[.int .u64 q0,.int .u64 q1,.int .u64 q2,.int .u64 q3] 237));unfold cO at H2 H3;have l7:w'.heap.size+1<w2.heap.size:=M3.out.lt;go_region_with (first
    | (go_at_call 220;refine (H2.out _).mono ?_;rintro e w3 ⟨rfl,hb3⟩;have n4:=fN hb3 (by exact M4.out);have n5:=fN hb3 (by exact NQ.out);have l5:=n4.lt;obtain ⟨⟨p0,p1,p2,p3⟩,p4,p5,p6,p7⟩:=nM (aeX w3.heap.size w3) n5.lt n5;obtain ⟨⟨r0,r1,r2,r3⟩,r4,r5,r6,r7⟩:=nM (aeX w3.heap.size w3) n4.lt n4;have n4:=aaX n4;have hb3:=aaX hb3;clear n5)
    | (go_at_call 219;refine (H3.out _).mono ?_;rintro e w4 ⟨rfl,hb4⟩;have n6:=fN hb4 (by exact n4.out);obtain ⟨⟨s0,s1,s2,s3⟩,s4,s5,s6,s7⟩:=nM (aeX w4.heap.size w4) n6.lt n6;have l6:=n6.lt;have n6:=aaX n6;have hb4:=aaX hb4))
   all_goals (
    have hz:w.heap.size+2≤w'.heap.size:=by simp at hsz;omega
    have hq2:=HB2.out.alloc (by have:=HB2.out.size;omega) (.cells #[.int .u64 q0,.int .u64 q1,.int .u64 q2,.int .u64 q3] 237);have hb5:Below w.heap.size w w3:=by first
     | exact hq2.trans (hb3.out.mono (by have:=hq2.size;simp at this ⊢;omega))
     | exact hq2.drew.trans (hb3.out.mono (by have:=hq2.size;simp at this ⊢;omega))
    have hb6:Below w.heap.size w w4:=by first
     | exact hb5.trans (hb4.out.mono hb5.size)
     | exact hb5.drew.trans (hb4.out.mono hb5.size)
    have A1:=fN hb4.out (by exact fN hb3.out (by exact (M1.out.alloc (.cells #[.int .u64 q0,.int .u64 q1,.int .u64 q2,.int .u64 q3] 237))));have A2:=fN hb4.out (by exact fN hb3.out (by exact (M2.out.alloc (.cells #[.int .u64 q0,.int .u64 q1,.int .u64 q2,.int .u64 q3] 237))));have HR:=aaX (show LRel w w'.heap.size (w'.heap.size+1) (y0,y1,y2,y3) f (.int .u64 (j:Int)) ((((w4.setCell ⟨w'.heap.size+1,0,none⟩ (.int .u64 (f j).1)).setCell ⟨w'.heap.size+1,1,none⟩ (.int .u64 (f j).2.1)).setCell ⟨w'.heap.size+1,2,none⟩ (.int .u64 (f j).2.2.1)).setCell ⟨w'.heap.size+1,3,none⟩ (.int .u64 (f j).2.2.2)) j from
     ⟨by omega,rfl,A1.other (by omega) _ _ _ _,A2.other (by omega) _ _ _ _,n6.out.write _ _ _ _,(((hb6.setCell (by simp;omega) _).setCell (by simp;omega) _).setCell (by simp;omega) _).setCell (by simp;omega) _⟩)
    have e6:u64.wrap (j:Int)=(j:Int):=cY _ (by omega) (by omega);clear A1 A2 hb5 hb6 hq2;go_wp2_with fail
    go_roundw
    case rel=>exact ⟨_,HR.out⟩
    case measure=>simp [uOf])
end
section
open Go.RowKit
theorem less_ex (x0 x1 x2 x3 o:Int) (hx:bQ x0∧bQ x1∧bQ x2∧bQ x3) (h0:0≤o) (h1:o≤1):
  ∃(y:Int×Int×Int×Int) (f:Nat→Int×Int×Int×Int),UI y∧num y.1 y.2.1 y.2.2.1 y.2.2.2*115792089237316195423570985008687907853269984665640564039457584007913129639936≤num x0 x1 x2 x3*num x0 x1 x2 x3∧num x0 x1 x2 x3*num x0 x1 x2 x3<(num y.1 y.2.1 y.2.2.1 y.2.2.2+2)*115792089237316195423570985008687907853269984665640564039457584007913129639936∧GJ y o f∧
   ∀w,Calls aaZ 221 #[cO x0 x1 x2 x3,.int .u64 o] w (gC w (cO (f 0).1 (f 0).2.1 (f 0).2.2.1 (f 0).2.2.2)):=by
 obtain ⟨y0,y1,y2,y3,hy,e1,e2,H⟩:=SJ x0 x1 x2 x3 x0 x1 x2 x3 hx.1 hx.2.1 hx.2.2.1 hx.2.2.2 hx.1 hx.2.1 hx.2.2.1 hx.2.2.2;obtain ⟨f,hf⟩:=series_ex (y0,y1,y2,y3) o hy h0 h1;exact ⟨(y0,y1,y2,y3),f,hy,e1,e2,hf,fun w=>less_walk x0 x1 x2 x3 o (y0,y1,y2,y3) f h0 h1 hf H w⟩
end
section
open Go.RowKit
def iD (v:Int) (b:Bool) (w:World) (e:Ending) (w':World):Prop:=e=.returned (.tuple #[.int .i64 v,.bool b])∧Below w.heap.size w w'
theorem sine_0 (w:World):Calls aaZ 187 #[.int .i64 0] w (iD 0 true w):=by
 have HP:=aaX (show iD 0 true w (.returned (.tuple #[.int .i64 0,.bool true])) w from ⟨rfl,aeX _ _⟩);go_enter Tryz.func187,Tryz.ntmps187;go_wp2;go_ret2
 exact HP.out
theorem sine_30 (w:World):Calls aaZ 187 #[.int .i64 1800000] w (iD 536870912 true w):=by
 have HP:=aaX (show iD 536870912 true w (.returned (.tuple #[.int .i64 536870912,.bool true])) w from ⟨rfl,aeX _ _⟩);go_enter Tryz.func187,Tryz.ntmps187;go_wp2;go_ret2
 exact HP.out
theorem sine_90 (w:World):Calls aaZ 187 #[.int .i64 5400000] w (iD 1073741824 true w):=by
 have HP:=aaX (show iD 1073741824 true w (.returned (.tuple #[.int .i64 1073741824,.bool true])) w from ⟨rfl,aeX _ _⟩);go_enter Tryz.func187,Tryz.ntmps187;go_wp2;go_ret2
 exact HP.out
theorem sine_cos (n x0 x1 x2 x3 u0 u1 u2 u3 s0 s1 s2 s3:Int) (h1:2700000<n) (h2:n<5400000) (hs:bQ s0)
  (H1:∀w,Calls aaZ 218 #[.int .i64 (5400000-n)] w (gC w (cO x0 x1 x2 x3)))
  (H2:∀w,Calls aaZ 221 #[cO x0 x1 x2 x3,.int .u64 0] w (gC w (cO u0 u1 u2 u3)))
  (H3:∀w,Calls aaZ 219 #[cO 0 0 0 0,cO u0 u1 u2 u3] w (gC w (cO s0 s1 s2 s3))) (w:World):Calls aaZ 187 #[.int .i64 n] w (iD (s0/17179869184) false w):=by
 have H1:=aaX H1;have H2:=aaX H2;have H3:=aaX H3;unfold cO at H1 H2 H3;obtain ⟨g0,g1⟩:=hs;have g2:n≠0:=by omega
 have g3:n≠1800000:=by omega
 have g4:n≠5400000:=by omega
 go_enter Tryz.func187,Tryz.ntmps187;go_wp2_with fail
 refine (H1.out _).mono ?_;rintro e w1 ⟨rfl,hb1⟩;have HB1:=aaX hb1;clear hb1;go_wp2_with fail
 refine (H2.out _).mono ?_;rintro e w2 ⟨rfl,hb2⟩;have HB2:=aaX hb2;clear hb2;go_wp2_with fail
 refine (H3.out _).mono ?_;rintro e w3 ⟨rfl,hb3⟩;have HB3:=aaX hb3;clear hb3;have hb:=((aeX w.heap.size w).alloc (aaJ _) (.cells #[.int .u64 0,.int .u64 0,.int .u64 0,.int .u64 0] 237)).trans ((HB1.out.trans (HB2.out.mono HB1.out.size)).trans (HB3.out.mono (ahJ HB1.out.size HB2.out.size)) |>.mono (by simp));have n1:AY w1 w.heap.size 0 0 0 0:=fN HB1.out (heap_alloc_new w _);have n3:AY w3 w.heap.size 0 0 0 0:=fN HB3.out (fN HB2.out n1);have l3:=n3.lt;obtain ⟨⟨c0,c1,c2,c3⟩,c4,c5,c6,c7⟩:=nM (aeX w3.heap.size w3) l3 n3;have n4:=n3.write s0 s1 s2 s3;have l4:=n4.lt;obtain ⟨⟨d0,d1,d2,d3⟩,d4,d5,d6,d7⟩:=nM (aeX _ _) l4 n4;have HP:=aaX (show iD (s0/17179869184) false w (.returned (.tuple #[.int .i64 (s0/17179869184),.bool false])) ((((w3.setCell ⟨w.heap.size,0,none⟩ (.int .u64 s0)).setCell ⟨w.heap.size,1,none⟩ (.int .u64 s1)).setCell ⟨w.heap.size,2,none⟩ (.int .u64 s2)).setCell ⟨w.heap.size,3,none⟩ (.int .u64 s3)) from
  ⟨rfl,(((hb.setCell (aaJ _) _).setCell (aaJ _) _).setCell (aaJ _) _).setCell (aaJ _) _⟩)
 clear hb n1 n3 n4;go_wp2;go_ret2
 exact HP.out
end
section
open SM
def fr (a:Int):Rat:=(1/115792089237316195423570985008687907853269984665640564039457584007913129639936:Rat)*(a:Rat)
def eps:Rat:=1/115792089237316195423570985008687907853269984665640564039457584007913129639936
theorem qZ {a:Int} (h:0≤a):0≤fr a:=by
 have:(0:Rat)≤(a:Rat):=by exact_mod_cast h
 unfold fr;grind
theorem RG {a:Int} (h:a≤115792089237316195423570985008687907853269984665640564039457584007913129639936):fr a≤1:=by
 have:(a:Rat)≤((115792089237316195423570985008687907853269984665640564039457584007913129639936:Int):Rat):=ahQ.2 h;have e:((115792089237316195423570985008687907853269984665640564039457584007913129639936:Int):Rat)=115792089237316195423570985008687907853269984665640564039457584007913129639936:=rfl;rw [e] at this;unfold fr;grind
theorem RI {q u m:Int} (h1:m*115792089237316195423570985008687907853269984665640564039457584007913129639936≤q*u) (h2:q*u<(m+2)*115792089237316195423570985008687907853269984665640564039457584007913129639936):bZ (fr q*fr u-fr m) (2*eps):=by
 have e:((115792089237316195423570985008687907853269984665640564039457584007913129639936:Int):Rat)=115792089237316195423570985008687907853269984665640564039457584007913129639936:=rfl;have h1':((m*115792089237316195423570985008687907853269984665640564039457584007913129639936:Int):Rat)≤((q*u:Int):Rat):=ahQ.2 h1;have h2':((q*u:Int):Rat)≤(((m+2)*115792089237316195423570985008687907853269984665640564039457584007913129639936:Int):Rat):=ahQ.2 (aoJ h2);rw [acX,acX,e] at h1';rw [acX,acX,e,acQ] at h2';have e2:((2:Int):Rat)=2:=rfl;rw [e2] at h2';unfold fr eps bZ;generalize (m:Rat)=M at*;have p:(q:Rat)*(u:Rat)=(u:Rat)*(q:Rat):=by grind
 constructor<;>grind
theorem step_err {Yp q m u v d r:Int} {D:Nat} (hD:(D:Int)=d) (hd:2≤D) (hr0:0≤r) (hr1:r<d) (hq:Yp=q*d+r) (h1:m*115792089237316195423570985008687907853269984665640564039457584007913129639936≤q*u) (h2:q*u<(m+2)*115792089237316195423570985008687907853269984665640564039457584007913129639936) (hv:v=q-m) (hu0:0≤u) (hu1:u≤115792089237316195423570985008687907853269984665640564039457584007913129639936)
  {Y h b E B:Rat} (_hb:0≤b) (hB:1/2*b+3*eps≤B) (hY:bZ (fr Yp-Y) b) (hY1:bZ Y (7/10)) (_hE:0≤E) (hh:bZ (fr u-h) E):bZ (fr v-1/(D:Rat)*(Y*(1-h))) (B+7/10*(1/(D:Rat))*E):=by
 have hp:=RI h1 h2;have i1:=jL hd;have i0:=dQ (D:Rat) (by exact_mod_cast afX _);have hDR:(d:Rat)=(D:Rat):=by rw [←hD];rfl
 have hd2:(2:Rat)≤(D:Rat):=by exact_mod_cast hd
 have hid:(1/(D:Rat))*(D:Rat)=1:=by grind
 have hrd:(r:Rat)≤(D:Rat):=by rw [←hDR];exact_mod_cast aoJ hr1
 have hr0':(0:Rat)≤(r:Rat):=by exact_mod_cast hr0
 have hqR:(Yp:Rat)=(q:Rat)*(D:Rat)+(r:Rat):=by rw [hq,acQ,acX,hDR]
 have hvR:(v:Rat)=(q:Rat)-(m:Rat):=by rw [hv,abZ]
 generalize 1/(D:Rat)=i at*;have fq:fr q=i*(fr Yp)-i*fr r:=by unfold fr;grind
 have fv:fr v=fr q-fr m:=by unfold fr;grind
 have hir0:0≤i*fr r:=aaQ i0 (qZ hr0);have hir1:i*fr r≤eps:=by
  have:=Rat.mul_le_mul_of_nonneg_left hrd i0;unfold fr eps;grind
 have w1:bZ (i*(fr Yp-Y)) (1/2*b):=bZ.mul ⟨by grind,by grind⟩ hY;have w2:bZ (fr q-i*Y) (1/2*b+eps):=by
  unfold bZ at*;have e:fr q-i*Y=i*(fr Yp-Y)-i*fr r:=by rw [fq];grind
  rw [e];generalize i*(fr Yp-Y)=A at*;generalize i*fr r=C at*;have:0≤eps:=by unfold eps;grind
  constructor<;>grind
 have u0:=qZ hu0;have u1:=RG hu1;have w3:bZ (1-fr u) 1:=⟨by grind,by grind⟩;have w4:bZ (i*Y) (7/10*i):=(bZ.mul (⟨by grind,by grind⟩:bZ i i) hY1).eq rfl |>.mono (by grind);have w5:bZ (h-fr u) E:=by unfold bZ at*;constructor<;>grind
 have w6:=((w2.mul w3).add (w4.mul w5)).add hp;refine (w6.eq ?_).mono ?_
 ·rw [fv];grind
 ·grind
def eb (o:Nat) (B:Rat):Nat→Rat→Rat
 | 0,E=>E
 | k+1,E=>eb o B k (B+7/10*(1/(((2*k+1+o)*(2*k+2+o):Nat):Rat))*E)
theorem NB {y:Int×Int×Int×Int} {o:Nat} {f:Nat→Int×Int×Int×Int} (hf:GJ y (o:Int) f) {Y b B:Rat} (hb:0≤b) (hB:1/2*b+3*eps≤B) (hY:bZ (fr (num y.1 y.2.1 y.2.2.1 y.2.2.2)-Y) b) (hY1:bZ Y (7/10)):
  ∀(k:Nat) (h E:Rat),k≤34→0≤E→bZ (fr (num (f k).1 (f k).2.1 (f k).2.2.1 (f k).2.2.2)-h) E→bZ (fr (num (f 0).1 (f 0).2.1 (f 0).2.2.1 (f 0).2.2.2)-hR o Y k h) (eb o B k E)
 | 0,h,E,_,_,hh=>hh
 | k+1,h,E,hk,hE,hh=>by
  obtain ⟨hw,_,hs⟩:=hf;obtain ⟨q0,q1,q2,q3,m0,m1,m2,m3,r,hq,hm,hr0,hr1,e1,e2,e3,e4,_,_,_⟩:=(hs k (by omega)).out;have bu:=mC _ _ _ _ (hw (k+1) hk);have hd:2≤(2*k+1+o)*(2*k+2+o):=by
   have:1*2≤(2*k+1+o)*(2*k+2+o):=Nat.mul_le_mul (by omega) (by omega);omega
  have hD:(((2*k+1+o)*(2*k+2+o):Nat):Int)=lY k (o:Int):=by
   unfold lY;push_cast;have:(2*((k:Int)+1)-1+(o:Int))=2*k+1+o:=by omega
   rw [this];have:(2*((k:Int)+1)+(o:Int))=2*k+2+o:=by omega
   rw [this];have:(2*(k:Int)+1+1+(o:Int))=2*k+2+o:=by omega
   first | rw [this] | rfl
  have hst:=step_err hD hd hr0 hr1 e1 e2 e3 e4 bu.1 (aoJ bu.2) hb hB hY hY1 hE hh;refine NB ⟨hw,‹_›,hs⟩ hb hB hY hY1 k _ _ (by omega) ?_ hst;have i0:=dQ (((2*k+1+o)*(2*k+2+o):Nat):Rat) (by exact_mod_cast afX _);have:=aaQ (aaQ (show (0:Rat)≤7/10 by grind) i0) hE;have:0≤eps:=by unfold eps;grind
  grind
theorem eb0:eb 0 (1/38685626227668133590597632) 10 1≤1/9223372036854775808:=by decide+kernel
theorem eb1:eb 1 (1/38685626227668133590597632) 10 1≤1/9223372036854775808:=by decide+kernel
theorem LA {y:Int×Int×Int×Int} {o:Nat} (ho:o=0∨o=1) {f:Nat→Int×Int×Int×Int} (hf:GJ y (o:Int) f) {Y:Rat} (hY:bZ (fr (num y.1 y.2.1 y.2.2.1 y.2.2.2)-Y) (1/38685626227668133590597632)) (hY0:0≤Y) (hY1:Y≤7/10):
  bZ (fr (num (f 0).1 (f 0).2.1 (f 0).2.2.1 (f 0).2.2.2)-hR o Y 10 0) (1/9223372036854775808):=by
 have b10:=mC _ _ _ _ (hf.1 10 (by omega));have hst:bZ (fr (num (f 10).1 (f 10).2.1 (f 10).2.2.1 (f 10).2.2.2)-0) 1:=by
  have:=qZ b10.1;have:=RG (aoJ b10.2);unfold bZ;constructor<;>grind
 have:=NB hf (b:=1/38685626227668133590597632) (B:=1/38685626227668133590597632) (by grind) (by unfold eps;grind) hY ⟨by grind,by grind⟩ 10 0 1 (by omega) (by grind) hst;rcases ho with rfl | rfl
 ·exact this.mono eb0
 ·exact this.mono eb1
end
section
open SM
def mV (n:Nat):Nat:=if n=0 then 0 else if n=1800000 then 536870912 else if n=5400000 then 1073741824 else if n≤2700000 then aS n/72057594037927936 else aC (5400000-n)/72057594037927936
def DR (n:Nat):Bool:=n==0||n==1800000||n==5400000
def T (n:Nat):Rat:=if n≤2700000 then tS n else tC (5400000-n)
theorem WR {A:Nat} {x:Rat} (hA:bZ (iH*x-(A:Rat)) 2) (hF:Far x):((A/72057594037927936:Nat):Rat)*72057594037927936+17000000000≤iH*x∧iH*x≤(((A/72057594037927936:Nat):Rat)+1)*72057594037927936-17000000000:=by
 obtain ⟨f,h1,h2⟩:=hF;have e:A/72057594037927936=f:=by
  have a1:((f*72057594037927936:Nat):Rat)≤((A:Nat):Rat):=by
   rw [afJ];have:((72057594037927936:Nat):Rat)=72057594037927936:=rfl;unfold bZ at hA;rw [this];grind
  have a2:((A:Nat):Rat)≤(((f+1)*72057594037927936-1000000000:Nat):Rat):=by
   have:(((f+1)*72057594037927936-1000000000:Nat):Rat)=((f:Rat)+1)*72057594037927936-1000000000:=by
    rw [show (f+1)*72057594037927936-1000000000=f*72057594037927936+72057593037927936 by omega,ahZ,afJ];have:((72057594037927936:Nat):Rat)=72057594037927936:=rfl;rw [this];have:((72057593037927936:Nat):Rat)=72057593037927936:=rfl;rw [this];grind
   unfold bZ at hA;rw [this];grind
  have b1:=acZ.1 a1;have b2:=acZ.1 a2;omega
 rw [e];exact ⟨h1,h2⟩
theorem far_num {x:Rat} {A f:Nat} (hA:bZ (iH*x-(A:Rat)) 2) (h1:f*2^56+WW≤A) (h2:A+WW≤(f+1)*2^56):Far x:=by
 have e1:=acZ.2 h1;have e2:=acZ.2 h2;rw [ahZ] at e2;have cB:(BB:Rat)=2147483648:=rfl;unfold bZ at hA;refine uI ⟨f,?_,?_⟩
 ·rw [cB];grind
 ·rw [cB];grind
theorem far_mid:Far (tS 2700000):=far_num (f:=759250124) (CY 2700000 (by omega)) (by decide+kernel) (by decide+kernel)
theorem gap (n:Nat) (hn:n≤5400000) (hx:DR n=false):(mV n:Rat)*72057594037927936+17000000000≤iH*T n∧iH*T n≤((mV n:Rat)+1)*72057594037927936-17000000000:=by
 simp only [DR,Bool.or_eq_false_iff,beq_eq_false_iff_ne] at hx;obtain ⟨⟨h0,h1⟩,h2⟩:=hx;unfold mV T;rw [if_neg h0,if_neg h1,if_neg h2];by_cases h:n≤2700000
 ·rw [if_pos h,if_pos h];refine WR (CY n (by omega)) ?_;rcases adZ n 2700000 with h3 | h3
  ·exact farS n h3 h0 h1
  ·have:n=2700000:=by omega
   rw [this];exact far_mid
 ·rw [if_neg h,if_neg h];exact WR (MN _ (by omega)) (farC _ (by omega) (by omega))
theorem GO (n:Nat) (hn:n≤5400000) (hx:DR n=true):bZ (iH*T n-(mV n:Rat)*72057594037927936) 1000000000:=by
 simp only [DR,Bool.or_eq_true,beq_iff_eq] at hx;rcases hx with (rfl | rfl) | rfl
 ·have h:=CY 0 (by omega);have e:aS 0≤100000000:=by decide+kernel
  have e':((aS 0:Nat):Rat)≤((100000000:Nat):Rat):=acZ.2 e;have c:((100000000:Nat):Rat)=100000000:=rfl;have z:(0:Rat)≤((aS 0:Nat):Rat):=by exact_mod_cast afX _
  have f:mV 0=0:=rfl;have f':((0:Nat):Rat)=0:=rfl;rw [f,f'];unfold T;rw [if_pos (by omega)];unfold bZ at*;rw [c] at e';constructor<;>grind
 ·have h:=CY 1800000 (by omega);have e1:536870912*72057594037927936≤aS 1800000+100000000:=by decide+kernel
  have e2:aS 1800000≤536870912*72057594037927936+100000000:=by decide+kernel
  have g1:((536870912*72057594037927936:Nat):Rat)≤((aS 1800000+100000000:Nat):Rat):=acZ.2 e1;have g2:((aS 1800000:Nat):Rat)≤((536870912*72057594037927936+100000000:Nat):Rat):=acZ.2 e2;rw [ahZ] at g1;have c:((100000000:Nat):Rat)=100000000:=rfl;have c2:((536870912*72057594037927936:Nat):Rat)=536870912*72057594037927936:=by decide+kernel
  have c3:((536870912*72057594037927936+100000000:Nat):Rat)=536870912*72057594037927936+100000000:=by decide+kernel
  rw [c,c2] at g1;rw [c3] at g2;have f:mV 1800000=536870912:=rfl;have f':((536870912:Nat):Rat)=536870912:=rfl;rw [f,f'];unfold T;rw [if_pos (by omega)];unfold bZ at*;constructor<;>grind
 ·have h:=MN 0 (by omega);have e1:1073741824*72057594037927936≤aC 0+100000000:=by decide+kernel
  have e2:aC 0≤1073741824*72057594037927936+100000000:=by decide+kernel
  have g1:((1073741824*72057594037927936:Nat):Rat)≤((aC 0+100000000:Nat):Rat):=acZ.2 e1;have g2:((aC 0:Nat):Rat)≤((1073741824*72057594037927936+100000000:Nat):Rat):=acZ.2 e2;rw [ahZ] at g1;have c:((100000000:Nat):Rat)=100000000:=rfl;have c2:((1073741824*72057594037927936:Nat):Rat)=1073741824*72057594037927936:=by decide+kernel
  have c3:((1073741824*72057594037927936+100000000:Nat):Rat)=1073741824*72057594037927936+100000000:=by decide+kernel
  rw [c,c2] at g1;rw [c3] at g2;have f:mV 5400000=1073741824:=rfl;have f':((1073741824:Nat):Rat)=1073741824:=rfl;rw [f,f'];unfold T;rw [if_neg (by omega)];unfold bZ at*;constructor<;>grind
theorem up (n:Nat) (hn:n<5400000):1000000000000≤iH*(T (n+1)-T n):=by
 unfold T;rcases adZ n 2700000 with h | h
 ·rw [if_pos (by omega),if_pos (by omega)];exact upS n h
 ·rcases amX h with h1 | h1
  ·rw [←h1,if_neg (by omega),if_pos (by omega)];have a:=CY 2700000 (by omega);have b:=MN (5400000-(2700000+1)) (by omega);have e:aS 2700000+1000000000004≤aC (5400000-(2700000+1)):=by decide+kernel
   have e':((aS 2700000+1000000000004:Nat):Rat)≤((aC (5400000-(2700000+1)):Nat):Rat):=acZ.2 e;rw [ahZ] at e';have c:((1000000000004:Nat):Rat)=1000000000004:=rfl;rw [c] at e';unfold bZ at*;grind
  ·rw [if_neg (by omega),if_neg (by omega)];have:=downC (5400000-(n+1)) (by omega);rw [show 5400000-(n+1)+1=5400000-n by omega] at this;exact this
theorem flo_up (n:Nat) (hn:n<5400000):mV n≤mV (n+1)∧(DR (n+1)=true→mV n<mV (n+1)):=by
 have hu:=up n hn;have lo:(mV n:Rat)*72057594037927936-1000000000≤iH*T n:=by
  cases hx:DR n
  ·have:=gap n (by omega) hx;grind
  ·have:=GO n (by omega) hx;unfold bZ at this;grind
 cases hx:DR (n+1)
 ·have:=gap (n+1) (by omega) hx;have h:((mV n:Nat):Rat)<((mV (n+1)+1:Nat):Rat):=by
   rw [ahZ];have c:((1:Nat):Rat)=1:=rfl;rw [c];grind
  have:=Rat.natCast_lt_natCast.1 h;exact ⟨by omega,by intro h;cases h⟩
 ·have:=GO (n+1) (by omega) hx;have h:((mV n:Nat):Rat)<((mV (n+1):Nat):Rat):=by
   unfold bZ at this;grind
  have:=Rat.natCast_lt_natCast.1 h;exact ⟨by omega,fun _=>this⟩
end
section
open Go.RowKit
theorem sine_sin (n x0 x1 x2 x3 u0 u1 u2 u3 m0 m1 m2 m3 s0 s1 s2 s3:Int) (h0:0<n) (h1:n≤2700000) (h2:n≠1800000) (hs:bQ s0)
  (H1:∀w,Calls aaZ 218 #[.int .i64 n] w (gC w (cO x0 x1 x2 x3)))
  (H2:∀w,Calls aaZ 221 #[cO x0 x1 x2 x3,.int .u64 1] w (gC w (cO u0 u1 u2 u3)))
  (H3:∀w,Calls aaZ 220 #[cO x0 x1 x2 x3,cO u0 u1 u2 u3] w (gC w (cO m0 m1 m2 m3)))
  (H4:∀w,Calls aaZ 219 #[cO x0 x1 x2 x3,cO m0 m1 m2 m3] w (gC w (cO s0 s1 s2 s3))) (w:World):Calls aaZ 187 #[.int .i64 n] w (iD (s0/17179869184) false w):=by
 have H1:=aaX H1;have H2:=aaX H2;have H3:=aaX H3;have H4:=aaX H4;unfold cO at H1 H2 H3 H4;obtain ⟨g0,g1⟩:=hs;have g2:n≠0:=by omega
 have g4:n≠5400000:=by omega
 go_enter Tryz.func187,Tryz.ntmps187;go_wp2_with fail
 refine (H1.out _).mono ?_;rintro e w1 ⟨rfl,hb1⟩;have n1:AY w1 w.heap.size 0 0 0 0:=fN hb1 (heap_alloc_new w _);have HB:=aaX (((aeX w.heap.size w).alloc (aaJ _) (.cells #[.int .u64 0,.int .u64 0,.int .u64 0,.int .u64 0] 237)).trans (hb1.mono (by simp)));have l1:=n1.lt;have N1:=aaX (n1.alloc (.cells #[.int .u64 x0,.int .u64 x1,.int .u64 x2,.int .u64 x3] 237));have NX:=aaX (show AY (w1.alloc (.cells #[.int .u64 x0,.int .u64 x1,.int .u64 x2,.int .u64 x3] 237)) w1.heap.size x0 x1 x2 x3 from heap_alloc_new w1 _);obtain ⟨⟨a0,a1,a2,a3⟩,a4,a5,a6,a7⟩:=nM (aeX w1.heap.size w1) l1 n1;clear hb1 n1;go_wp2_with fail
 go_region_with (first
  | (go_at_call 221;refine (H2.out _).mono ?_;rintro e w2 ⟨rfl,hb2⟩;have n2:=fN hb2 (by exact N1.out);have n3:=fN hb2 (by exact NX.out);have l2:=n2.lt;have l3:=n3.lt;obtain ⟨⟨b0,b1,b2,b3⟩,b4,b5,b6,b7⟩:=nM (aeX w2.heap.size w2) l2 n2;obtain ⟨⟨c0,c1,c2,c3⟩,c4,c5,c6,c7⟩:=nM (aeX w2.heap.size w2) l3 n3;have n2:=aaX n2;have n3:=aaX n3;have hb2:=aaX hb2)
  | (go_at_call 220;refine (H3.out _).mono ?_;rintro e w3 ⟨rfl,hb3⟩;have n4:=fN hb3 (by exact n2.out);have n5:=fN hb3 (by exact n3.out);have l4:=n4.lt;have l5:=n5.lt;obtain ⟨⟨d0,d1,d2,d3⟩,d4,d5,d6,d7⟩:=nM (aeX w3.heap.size w3) l4 n4;obtain ⟨⟨e0,e1,e2,e3⟩,e4,e5,e6,e7⟩:=nM (aeX w3.heap.size w3) l5 n5;have n4:=aaX n4;have n5:=aaX n5;have hb3:=aaX hb3)
  | (go_at_call 219;refine (H4.out _).mono ?_;rintro e w4 ⟨rfl,hb4⟩;have n6:=fN hb4 (by exact n4.out);have l6:=n6.lt;obtain ⟨⟨p0,p1,p2,p3⟩,p4,p5,p6,p7⟩:=nM (aeX w4.heap.size w4) l6 n6;have n6:=aaX n6;have hb4:=aaX hb4))
 all_goals (
  have hq2:=HB.out.alloc (by have:=HB.out.size;omega) (.cells #[.int .u64 x0,.int .u64 x1,.int .u64 x2,.int .u64 x3] 237);have hb5:Below w.heap.size w w2:=by first
   | exact hq2.trans (hb2.out.mono hq2.size)
   | exact hq2.drew.trans (hb2.out.mono hq2.size)
  have hb6:Below w.heap.size w w3:=by first
   | exact hb5.trans (hb3.out.mono hb5.size)
   | exact hb5.drew.trans (hb3.out.mono hb5.size)
  have hb7:Below w.heap.size w w4:=by first
   | exact hb6.trans (hb4.out.mono hb6.size)
   | exact hb6.drew.trans (hb4.out.mono hb6.size)
  have n7:=n6.out.write s0 s1 s2 s3;have l7:=n7.lt;obtain ⟨⟨q0,q1,q2,q3⟩,q4,q5,q6,q7⟩:=nM (aeX _ _) l7 n7;have HP:=aaX (show iD (s0/17179869184) false w (.returned (.tuple #[.int .i64 (s0/17179869184),.bool false])) ((((w4.setCell ⟨w.heap.size,0,none⟩ (.int .u64 s0)).setCell ⟨w.heap.size,1,none⟩ (.int .u64 s1)).setCell ⟨w.heap.size,2,none⟩ (.int .u64 s2)).setCell ⟨w.heap.size,3,none⟩ (.int .u64 s3)) from
   ⟨rfl,(((hb7.setCell (aaJ _) _).setCell (aaJ _) _).setCell (aaJ _) _).setCell (aaJ _) _⟩)
  clear hq2 hb5 hb6 hb7 n7;go_wp2;go_ret2
  exact HP.out)
end
section
open Go.RowKit SM
theorem x_err {n:Nat} {v r:Int} (hn:n≤2700000) (h0:0≤r) (h1:r<10800000) (h:v*10800000+r=363771576891766324280234942777729862653393377328392429958772151117938894466185*(n:Int)):bZ (fr v-xR n) (1/158456325028528675187087900672):=by
 have e:(v:Rat)*10800000+(r:Rat)=363771576891766324280234942777729862653393377328392429958772151117938894466185*(n:Rat):=by
  have:((v*10800000+r:Int):Rat)=((363771576891766324280234942777729862653393377328392429958772151117938894466185*(n:Int):Int):Rat):=by rw [h]
  rw [acQ,acX,acX] at this;exact this
 have r0:(0:Rat)≤(r:Rat):=by exact_mod_cast h0
 have r1:(r:Rat)≤((10800000:Int):Rat):=ahQ.2 (aoJ h1);have c1:((10800000:Int):Rat)=10800000:=rfl;rw [c1] at r1;have n0:(0:Rat)≤(n:Rat):=by exact_mod_cast afX _
 have n1:(n:Rat)≤((2700000:Nat):Rat):=acZ.2 hn;have c2:((2700000:Nat):Rat)=2700000:=rfl;rw [c2] at n1;clear h h0 h1 hn;unfold bZ fr xR th SQ;generalize (n:Rat)=N at*;generalize (v:Rat)=V at*;generalize (r:Rat)=R at*;constructor<;>grind
theorem y_err {n:Nat} {x y:Int} (hn:n≤2700000) (hx:bZ (fr x-xR n) (1/158456325028528675187087900672)) (hx0:0≤x) (hx1:x≤115792089237316195423570985008687907853269984665640564039457584007913129639936) (h1:y*115792089237316195423570985008687907853269984665640564039457584007913129639936≤x*x) (h2:x*x<(y+2)*115792089237316195423570985008687907853269984665640564039457584007913129639936):bZ (fr y-xR n*xR n) (1/38685626227668133590597632):=by
 have hp:=RI h1 h2;have b:=tL n (by omega);have u0:=qZ hx0;have u1:=RG hx1;have w:=hx.mul (show bZ (fr x+xR n) 2 from ⟨by grind,by grind⟩);have e:fr y-xR n*xR n=(fr x-xR n)*(fr x+xR n)-(fr x*fr x-fr y):=by grind
 rw [e];have:eps=1/115792089237316195423570985008687907853269984665640564039457584007913129639936:=rfl;rw [this] at hp;unfold bZ at*;constructor<;>grind
theorem NJ {s f:Int} {x:Rat} (h:bZ (fr s-x) (1/4611686018427387904)) (h1:(f:Rat)*72057594037927936+17000000000≤iH*x) (h2:iH*x≤((f:Rat)+1)*72057594037927936-17000000000):f*107839786668602559178668060348078522694548577690162289924414440996864≤s∧s<(f+1)*107839786668602559178668060348078522694548577690162289924414440996864:=by
 have g:iH=77371252455336267181195264:=rfl;rw [g] at h1 h2;have c:((107839786668602559178668060348078522694548577690162289924414440996864:Int):Rat)=107839786668602559178668060348078522694548577690162289924414440996864:=rfl;have c1:((1:Int):Rat)=1:=rfl;constructor
 ·apply ahQ.1;rw [acX,c];unfold bZ fr at h;grind
 ·apply Rat.intCast_lt_intCast.1;rw [acX,acQ,c,c1];unfold bZ fr at h;grind
theorem aA2 {s0 s1 s2 s3 f:Int} (h:bQ s0∧bQ s1∧bQ s2∧bQ s3) (h1:f*107839786668602559178668060348078522694548577690162289924414440996864≤num s0 s1 s2 s3) (h2:num s0 s1 s2 s3<(f+1)*107839786668602559178668060348078522694548577690162289924414440996864):s0/17179869184=f:=by
 obtain ⟨⟨_,_⟩,⟨_,_⟩,⟨_,_⟩,⟨_,_⟩⟩:=h;unfold num at*;omega
theorem sine_low (n:Nat) (h0:0<n) (h1:n≤2700000) (h2:n≠1800000) (w:World):Calls aaZ 187 #[.int .i64 (n:Int)] w (iD (mV n:Int) false w):=by
 obtain ⟨x0,x1,x2,x3,r,hx,hr0,hr1,ex,H1⟩:=KI (n:Int) (by omega) (by omega);obtain ⟨y,f,hy,ey1,ey2,hf,H2⟩:=less_ex x0 x1 x2 x3 1 hx (by omega) (by omega);have hu:=hf.1 0 (by omega);obtain ⟨m0,m1,m2,m3,hm,em1,em2,H3⟩:=SJ x0 x1 x2 x3 (f 0).1 (f 0).2.1 (f 0).2.2.1 (f 0).2.2.2 hx.1 hx.2.1 hx.2.2.1 hx.2.2.2 hu.1 hu.2.1 hu.2.2.1 hu.2.2.2;obtain ⟨s0,s1,s2,s3,c,hs,hc,es,H4⟩:=sub_ex x0 x1 x2 x3 m0 m1 m2 m3 hx.1 hx.2.1 hx.2.2.1 hx.2.2.2 hm.1 hm.2.1 hm.2.2.1 hm.2.2.2;change num x0 x1 x2 x3*10800000+r=_ at ex;change num m0 m1 m2 m3*_≤num x0 x1 x2 x3*num (f 0).1 (f 0).2.1 (f 0).2.2.1 (f 0).2.2.2 at em1;change num x0 x1 x2 x3*num (f 0).1 (f 0).2.1 (f 0).2.2.1 (f 0).2.2.2<(num m0 m1 m2 m3+2)*_ at em2;change num s0 s1 s2 s3=num x0 x1 x2 x3-num m0 m1 m2 m3+_ at es;have bx:=mC _ _ _ _ hx;have bu:=mC _ _ _ _ hu;have bm:=mC _ _ _ _ hm;have bs:=mC _ _ _ _ hs;have hxe:=x_err h1 hr0 hr1 ex;have hye:=y_err h1 hxe bx.1 (aoJ bx.2) ey1 ey2;have hsq:=ZU n (by omega);have hse:=LA (.inr rfl) hf hye hsq.1 hsq.2;have hpe:=RI em1 em2;have hle:num m0 m1 m2 m3≤num x0 x1 x2 x3:=by
  have:num x0 x1 x2 x3*num (f 0).1 (f 0).2.1 (f 0).2.2.1 (f 0).2.2.2≤num x0 x1 x2 x3*115792089237316195423570985008687907853269984665640564039457584007913129639936:=agX (by omega) bx.1;generalize num x0 x1 x2 x3*num (f 0).1 (f 0).2.1 (f 0).2.2.1 (f 0).2.2.2=P at*;omega
 have es':num s0 s1 s2 s3=num x0 x1 x2 x3-num m0 m1 m2 m3:=by
  clear em1 em2 ex ey1 ey2;omega
 have hfs:fr (num s0 s1 s2 s3)=fr (num x0 x1 x2 x3)-fr (num m0 m1 m2 m3):=by
  unfold fr;rw [es',abZ];grind
 have hT:bZ (fr (num s0 s1 s2 s3)-tS n) (1/4611686018427387904):=by
  have u0:=qZ bu.1;have u1:=RG (aoJ bu.2);have xb:=tL n (by omega);have w1:=hxe.mul (show bZ (1-fr (num (f 0).1 (f 0).2.1 (f 0).2.2.1 (f 0).2.2.2)) 1 from ⟨by grind,by grind⟩);have w2:=(show bZ (xR n) (4/5) from ⟨by grind,xb.2⟩).mul hse;have e:fr (num s0 s1 s2 s3)-tS n=(fr (num x0 x1 x2 x3)-xR n)*(1-fr (num (f 0).1 (f 0).2.1 (f 0).2.2.1 (f 0).2.2.2))-xR n*(fr (num (f 0).1 (f 0).2.1 (f 0).2.2.1 (f 0).2.2.2)-hR 1 (xR n*xR n) 10 0)+(fr (num x0 x1 x2 x3)*fr (num (f 0).1 (f 0).2.1 (f 0).2.2.1 (f 0).2.2.2)-fr (num m0 m1 m2 m3)):=by
   rw [hfs];unfold tS;grind
  rw [e];have:eps=1/115792089237316195423570985008687907853269984665640564039457584007913129639936:=rfl;rw [this] at hpe;clear e hfs hse hye hxe;unfold bZ at*;constructor<;>grind
 have hx0:DR n=false:=by
  simp only [DR,Bool.or_eq_false_iff,beq_eq_false_iff_ne];omega
 have hg:=gap n (by omega) hx0;have hTn:T n=tS n:=by unfold T;rw [if_pos h1]
 rw [hTn,←alZ] at hg;have hv:=NJ hT hg.1 hg.2;have ht:=aA2 hs hv.1 hv.2;have:=sine_sin (n:Int) x0 x1 x2 x3 (f 0).1 (f 0).2.1 (f 0).2.2.1 (f 0).2.2.2 m0 m1 m2 m3 s0 s1 s2 s3 (by omega) (by omega) (by omega) hs.1 H1 H2 H3 H4 w;rw [ht] at this;exact this
theorem sine_high (n:Nat) (h0:2700000<n) (h1:n<5400000) (w:World):Calls aaZ 187 #[.int .i64 (n:Int)] w (iD (mV n:Int) false w):=by
 have hk:((5400000-n:Nat):Int)=5400000-(n:Int):=by omega
 obtain ⟨x0,x1,x2,x3,r,hx,hr0,hr1,ex,H1⟩:=KI ((5400000-n:Nat):Int) (by omega) (by omega);obtain ⟨y,f,hy,ey1,ey2,hf,H2⟩:=less_ex x0 x1 x2 x3 0 hx (by omega) (by omega);have hu:=hf.1 0 (by omega);obtain ⟨s0,s1,s2,s3,c,hs,hc,es,H4⟩:=sub_ex 0 0 0 0 (f 0).1 (f 0).2.1 (f 0).2.2.1 (f 0).2.2.2 ⟨by omega,by omega⟩ ⟨by omega,by omega⟩ ⟨by omega,by omega⟩ ⟨by omega,by omega⟩ hu.1 hu.2.1 hu.2.2.1 hu.2.2.2;change num x0 x1 x2 x3*10800000+r=_ at ex;change num s0 s1 s2 s3=num 0 0 0 0-num (f 0).1 (f 0).2.1 (f 0).2.2.1 (f 0).2.2.2+_ at es;have bx:=mC _ _ _ _ hx;have bu:=mC _ _ _ _ hu;have bs:=mC _ _ _ _ hs;have hxe:=x_err (n:=5400000-n) (by omega) hr0 hr1 ex;have hye:=y_err (by omega) hxe bx.1 (aoJ bx.2) ey1 ey2;have hsq:=ZU (5400000-n) (by omega);have hse:=LA (.inl rfl) hf hye hsq.1 hsq.2;have hx0:DR n=false:=by
  simp only [DR,Bool.or_eq_false_iff,beq_eq_false_iff_ne];omega
 have hg:=gap n (by omega) hx0;have hTn:T n=tC (5400000-n):=by unfold T;rw [if_neg (by omega)]
 rw [hTn,←alZ] at hg;have hz:num 0 0 0 0=0:=by decide
 have hC:bZ (1-fr (num (f 0).1 (f 0).2.1 (f 0).2.2.1 (f 0).2.2.2)-tC (5400000-n)) (1/9223372036854775808):=by
  unfold tC;unfold bZ at*;constructor<;>grind
 have hpos:0<num (f 0).1 (f 0).2.1 (f 0).2.2.1 (f 0).2.2.2:=by
  rcases Int.lt_or_eq_of_le bu.1 with h | h
  ·exact h
  ·exfalso;rw [←h] at hC;have z:fr 0=0:=by decide+kernel
   rw [z] at hC;have g:iH=77371252455336267181195264:=rfl;rw [g] at hg;unfold bZ at hC;generalize tC (5400000-n)=t at*;have l1:(((mV n:Int)):Rat)<((1073741824:Int):Rat):=by
    have:((1073741824:Int):Rat)=1073741824:=rfl;rw [this];grind
   have l2:((1073741823:Int):Rat)<(((mV n:Int)):Rat):=by
    have:((1073741823:Int):Rat)=1073741823:=rfl;rw [this];grind
   have:=Rat.intCast_lt_intCast.1 l1;have:=Rat.intCast_lt_intCast.1 l2;omega
 have es':num s0 s1 s2 s3=115792089237316195423570985008687907853269984665640564039457584007913129639936-num (f 0).1 (f 0).2.1 (f 0).2.2.1 (f 0).2.2.2:=by
  rw [hz] at es;clear ex ey1 ey2;omega
 have hfs:fr (num s0 s1 s2 s3)=1-fr (num (f 0).1 (f 0).2.1 (f 0).2.2.1 (f 0).2.2.2):=by
  have:((115792089237316195423570985008687907853269984665640564039457584007913129639936:Int):Rat)=115792089237316195423570985008687907853269984665640564039457584007913129639936:=rfl;unfold fr;rw [es',abZ,this];grind
 have hT:bZ (fr (num s0 s1 s2 s3)-tC (5400000-n)) (1/4611686018427387904):=by
  rw [hfs];exact hC.mono (by grind)
 have hv:=NJ hT hg.1 hg.2;have ht:=aA2 hs hv.1 hv.2;have:=sine_cos (n:Int) x0 x1 x2 x3 (f 0).1 (f 0).2.1 (f 0).2.2.1 (f 0).2.2.2 s0 s1 s2 s3 (by omega) (by omega) hs.1 (hk ▸ H1) H2 H4 w;rw [ht] at this;exact this
theorem sine_any (n:Nat) (h:n≤5400000) (w:World):Calls aaZ 187 #[.int .i64 (n:Int)] w (iD (mV n:Int) (DR n) w):=by
 by_cases h0:n=0
 ·subst h0;exact sine_0 w
 by_cases h1:n=1800000
 ·subst h1;exact sine_30 w
 by_cases h2:n=5400000
 ·subst h2;exact sine_90 w
 have hx0:DR n=false:=by
  simp only [DR,Bool.or_eq_false_iff,beq_eq_false_iff_ne];omega
 rw [hx0];rcases adZ 2700000 n with h3 | h3
 ·exact sine_high n h3 (by omega) w
 ·exact sine_low n (by omega) h3 h1 w
end
section
open Go.RowKit SM
theorem WP {m n:Nat} (h:m≤n) (hn:n≤5400000):mV m≤mV n:=by
 induction n with
 | zero=>
  have:m=0:=by omega
  rw [this];exact aaJ _
 | succ n ih=>
  rcases amX h with h1 | h1
  ·rw [h1];exact aaJ _
  ·exact ahJ (ih (by omega) (by omega)) (flo_up n (by omega)).1
theorem flo_le (n:Nat) (hn:n≤5400000):mV n≤1073741824:=WP (n:=5400000) hn (aaJ _)
def nT (n:Int):Nat:=let m:=n%21600000;if m≤5400000 then m.toNat else if m≤10800000 then (10800000-m).toNat else if m≤16200000 then (m-10800000).toNat else (21600000-m).toNat
def nO (n:Int):Bool:=decide (10800000<n%21600000)
theorem yR (n:Int):nT n≤5400000:=by
 unfold nT;have:=agQ n (show (0:Int)<21600000 by omega);have:=aiQ n (show (21600000:Int)≠0 by omega);generalize n%21600000=m at*;simp only;split
 ·omega
 ·split
  ·omega
  ·split<;>omega
def LT (k:Nat):Int:=if DR k then (mV k:Int) else mV k+1
def qD (n:Int):Int:=if nO n then-LT (nT n) else mV (nT n)
def nF (n:Int):Int:=if nO n then-(mV (nT n):Int) else LT (nT n)
def cI (v:Value) (w:World) (e:Ending) (w':World):Prop:=e=.returned v∧Below w.heap.size w w'
theorem yA (n:Int) (w:World):Calls aaZ 156 #[.int .i64 n] w (cI (.tuple #[.int .i64 (qD n),.int .i64 (nF n)]) w):=by
 obtain ⟨V,hV⟩:∃V,V=Value.tuple #[.int .i64 (qD n),.int .i64 (nF n)]:=⟨_,rfl⟩;have HP:∀w',Below w.heap.size w w'→cI V w (.returned (.tuple #[.int .i64 (qD n),.int .i64 (nF n)])) w':=fun w' h=>⟨by rw [hV],h⟩;rw [←hV];clear hV;have H53:=aaX (LJ n);have hk:=yR n;have H54:=sine_any (nT n) hk;have hf:=flo_le (nT n) hk;have hu:=agQ n (show (0:Int)<21600000 by omega);have hl:=aiQ n (show (21600000:Int)≠0 by omega);unfold qD nF LT nO nT at HP;unfold nT at H54 hf;generalize n%21600000=m at*;simp only at HP H54 hf;by_cases c1:m≤5400000
 ·simp only [if_pos c1] at H54 hf;simp only [if_pos c1,show ¬10800000<m by omega,decide_false,Bool.false_eq_true,if_false] at HP;have hK:(((m).toNat:Nat):Int)=m:=ajQ (by omega);rw [hK] at H54;generalize mV (m).toNat=f at*;have H54:=aaX H54;cases he:DR (m).toNat
  ·rw [he] at HP H54;simp only [Bool.false_eq_true,if_false] at HP;have HP:=aaX HP;clear he hK;go_enter Tryz.func156,Tryz.ntmps156;go_wp2_with fail
   refine (H53.out _).mono ?_;rintro e w1 ⟨rfl,rfl⟩;go_wp2_with fail
   refine (H54.out _).mono ?_;rintro e w1 ⟨rfl,hb1⟩;have HB:=aaX hb1;clear hb1;go_wp2;go_ret2
   exact HP.out _ HB.out
  ·rw [he] at HP H54;simp only [if_true] at HP;have HP:=aaX HP;clear he hK;go_enter Tryz.func156,Tryz.ntmps156;go_wp2_with fail
   refine (H53.out _).mono ?_;rintro e w1 ⟨rfl,rfl⟩;go_wp2_with fail
   refine (H54.out _).mono ?_;rintro e w1 ⟨rfl,hb1⟩;have HB:=aaX hb1;clear hb1;go_wp2;go_ret2
   exact HP.out _ HB.out
 by_cases c2:m≤10800000
 ·simp only [if_neg c1,if_pos c2] at H54 hf;simp only [if_neg c1,if_pos c2,show ¬10800000<m by omega,decide_false,Bool.false_eq_true,if_false] at HP;have hK:(((10800000-m).toNat:Nat):Int)=10800000-m:=ajQ (by omega);rw [hK] at H54;generalize mV (10800000-m).toNat=f at*;have H54:=aaX H54;cases he:DR (10800000-m).toNat
  ·rw [he] at HP H54;simp only [Bool.false_eq_true,if_false] at HP;have HP:=aaX HP;clear he hK;go_enter Tryz.func156,Tryz.ntmps156;go_wp2_with fail
   refine (H53.out _).mono ?_;rintro e w1 ⟨rfl,rfl⟩;go_wp2_with fail
   refine (H54.out _).mono ?_;rintro e w1 ⟨rfl,hb1⟩;have HB:=aaX hb1;clear hb1;go_wp2;go_ret2
   exact HP.out _ HB.out
  ·rw [he] at HP H54;simp only [if_true] at HP;have HP:=aaX HP;clear he hK;go_enter Tryz.func156,Tryz.ntmps156;go_wp2_with fail
   refine (H53.out _).mono ?_;rintro e w1 ⟨rfl,rfl⟩;go_wp2_with fail
   refine (H54.out _).mono ?_;rintro e w1 ⟨rfl,hb1⟩;have HB:=aaX hb1;clear hb1;go_wp2;go_ret2
   exact HP.out _ HB.out
 by_cases c3:m≤16200000
 ·simp only [if_neg c1,if_neg c2,if_pos c3] at H54 hf;simp only [if_neg c1,if_neg c2,if_pos c3,show 10800000<m by omega,decide_true,if_true] at HP;have hK:(((m-10800000).toNat:Nat):Int)=m-10800000:=ajQ (by omega);rw [hK] at H54;generalize mV (m-10800000).toNat=f at*;have H54:=aaX H54;cases he:DR (m-10800000).toNat
  ·rw [he] at HP H54;simp only [Bool.false_eq_true,if_false] at HP;have HP:=aaX HP;clear he hK;go_enter Tryz.func156,Tryz.ntmps156;go_wp2_with fail
   refine (H53.out _).mono ?_;rintro e w1 ⟨rfl,rfl⟩;go_wp2_with fail
   refine (H54.out _).mono ?_;rintro e w1 ⟨rfl,hb1⟩;have HB:=aaX hb1;clear hb1;go_wp2;go_ret2
   exact HP.out _ HB.out
  ·rw [he] at HP H54;simp only [if_true] at HP;have HP:=aaX HP;clear he hK;go_enter Tryz.func156,Tryz.ntmps156;go_wp2_with fail
   refine (H53.out _).mono ?_;rintro e w1 ⟨rfl,rfl⟩;go_wp2_with fail
   refine (H54.out _).mono ?_;rintro e w1 ⟨rfl,hb1⟩;have HB:=aaX hb1;clear hb1;go_wp2;go_ret2
   exact HP.out _ HB.out
 ·simp only [if_neg c1,if_neg c2,if_neg c3] at H54 hf;simp only [if_neg c1,if_neg c2,if_neg c3,show 10800000<m by omega,decide_true,if_true] at HP;have hK:(((21600000-m).toNat:Nat):Int)=10800000-(m-10800000):=by omega
  rw [hK] at H54;generalize mV (21600000-m).toNat=f at*;have H54:=aaX H54;cases he:DR (21600000-m).toNat
  ·rw [he] at HP H54;simp only [Bool.false_eq_true,if_false] at HP;have HP:=aaX HP;clear he hK;go_enter Tryz.func156,Tryz.ntmps156;go_wp2_with fail
   refine (H53.out _).mono ?_;rintro e w1 ⟨rfl,rfl⟩;go_wp2_with fail
   refine (H54.out _).mono ?_;rintro e w1 ⟨rfl,hb1⟩;have HB:=aaX hb1;clear hb1;go_wp2;go_ret2
   exact HP.out _ HB.out
  ·rw [he] at HP H54;simp only [if_true] at HP;have HP:=aaX HP;clear he hK;go_enter Tryz.func156,Tryz.ntmps156;go_wp2_with fail
   refine (H53.out _).mono ?_;rintro e w1 ⟨rfl,rfl⟩;go_wp2_with fail
   refine (H54.out _).mono ?_;rintro e w1 ⟨rfl,hb1⟩;have HB:=aaX hb1;clear hb1;go_wp2;go_ret2
   exact HP.out _ HB.out
end
section
open Go.RowKit SM
theorem oG (n:Int):(qD n=nF n∨nF n=qD n+1)∧-1073741824≤qD n∧nF n≤1073741824:=by
 have hf:=flo_le (nT n) (yR n);have hs:DR (nT n)=false→mV (nT n)<1073741824:=by
  intro h;have h1:nT n≠5400000:=by
   intro h2;rw [h2] at h;cases h
  have:=WP (m:=nT n+1) (n:=5400000) (by have:=yR n;omega) (aaJ _);have h3:=up (nT n) (by have:=yR n;omega);have h4:=gap (nT n) (yR n) h;rcases adZ (mV (nT n)) 1073741824 with h5 | h5
  ·exact h5
  ·exfalso;have h6:mV (nT n)=1073741824:=by omega
   rw [h6] at h4;have c:((1073741824:Nat):Rat)=1073741824:=rfl;rw [c] at h4;have hT:∀k,nT n≤k→k≤5400000→iH*T (nT n)≤iH*T k:=by
    intro k hk;induction k with
    | zero=>
     intro _;have:nT n=0:=by omega
     rw [this];exact ayJ
    | succ k ih=>
     intro hk2;rcases amX hk with h7 | h7
     ·rw [h7];exact ayJ
     ·have:=ih (by omega) (by omega);have:=up k (by omega);grind
   have h8:=hT 5400000 (yR n) (aaJ _);have h9:=GO 5400000 (aaJ _) rfl;have f:mV 5400000=1073741824:=rfl;rw [f,c] at h9;unfold bZ at h9;grind
 unfold qD nF LT;cases h:DR (nT n)
 ·have:=hs h;cases nO n
  ·simp only [Bool.false_eq_true,reduceIte];exact ⟨by first | exact .inr trivial | exact .inl rfl | exact .inl trivial | omega,by omega,by omega⟩
  ·simp only [Bool.false_eq_true,reduceIte];exact ⟨by first | exact .inr trivial | exact .inl rfl | exact .inl trivial | omega,by omega,by omega⟩
 ·cases nO n
  ·simp only [Bool.false_eq_true,reduceIte];exact ⟨by first | exact .inr trivial | exact .inl rfl | exact .inl trivial | omega,by omega,by omega⟩
  ·simp only [reduceIte];exact ⟨by first | exact .inr trivial | exact .inl rfl | exact .inl trivial | omega,by omega,by omega⟩
def cmp (n v:Int):Int:=if qD n=nF n∧v=qD n then 0 else if v≤qD n then 1 else -1
theorem below_any (n v:Int) (w:World):Calls aaZ 123 #[.int .i64 n,.int .i64 v] w (cI (.int .i64 (cmp n v)) w):=by
 obtain ⟨V,hV⟩:∃V,V=Value.int .i64 (cmp n v):=⟨_,rfl⟩;have HP:∀w',Below w.heap.size w w'→cI V w (.returned (.int .i64 (cmp n v))) w':=fun w' h=>⟨by rw [hV],h⟩;rw [←hV];clear hV;have HB:=aaX (yA n w);obtain ⟨h,h1,h2⟩:=oG n;unfold cmp at HP;generalize qD n=lo at*;generalize nF n=hi at*;rcases h with rfl | rfl
 ·rcases alQ v lo with c | c | c
  ·rw [if_neg (by omega),if_pos (by omega)] at HP;have HP:=aaX HP;go_enter Tryz.func123,Tryz.ntmps123;go_wp2_with fail
   refine HB.out.mono ?_;rintro e w1 ⟨rfl,hb1⟩;have HB:=aaX hb1;clear hb1;go_wp2;go_ret;exact HP.out _ HB.out
  ·subst c;rw [if_pos (by omega)] at HP;have HP:=aaX HP;go_enter Tryz.func123,Tryz.ntmps123;go_wp2_with fail
   refine HB.out.mono ?_;rintro e w1 ⟨rfl,hb1⟩;have HB:=aaX hb1;clear hb1;go_wp2;go_ret;exact HP.out _ HB.out
  ·rw [if_neg (by omega),if_neg (by omega)] at HP;have HP:=aaX HP;go_enter Tryz.func123,Tryz.ntmps123;go_wp2_with fail
   refine HB.out.mono ?_;rintro e w1 ⟨rfl,hb1⟩;have HB:=aaX hb1;clear hb1;go_wp2;go_ret;exact HP.out _ HB.out
 ·by_cases c:v≤lo
  ·rw [if_neg (by omega),if_pos (by omega)] at HP;have HP:=aaX HP;go_enter Tryz.func123,Tryz.ntmps123;go_wp2_with fail
   refine HB.out.mono ?_;rintro e w1 ⟨rfl,hb1⟩;have HB:=aaX hb1;clear hb1;go_wp2;go_ret;exact HP.out _ HB.out
  ·rw [if_neg (by omega),if_neg (by omega)] at HP;have HP:=aaX HP;go_enter Tryz.func123,Tryz.ntmps123;go_wp2_with fail
   refine HB.out.mono ?_;rintro e w1 ⟨rfl,hb1⟩;have HB:=aaX hb1;clear hb1;go_wp2;go_ret;exact HP.out _ HB.out
end
section
open Go.RowKit SM
theorem RF (k:Nat) (hk:k<5400000):(mV k:Int)<LT (k+1):=by
 have:=flo_up k hk;unfold LT;cases h:DR (k+1)
 ·simp only [Bool.false_eq_true,reduceIte];omega
 ·simp only [reduceIte];have:=this.2 h;omega
theorem upf_up (k:Nat) (hk:k<5400000):LT k≤LT (k+1):=by
 have h:=RF k hk;have h2:LT k≤mV k+1:=by
  unfold LT;cases h:DR k
  ·simp only [Bool.false_eq_true,reduceIte];omega
  ·simp only [reduceIte];omega
 omega
theorem PQ (n:Int) (h0:0≤n) (h1:n≤5400000):qD n=mV n.toNat∧nF n=LT n.toNat:=by
 have e:n%21600000=n:=by omega
 unfold qD nF nO nT;simp only [e,if_pos h1,show ¬10800000<n by omega,decide_false,Bool.false_eq_true,reduceIte];exact ⟨trivial,trivial⟩
theorem PP (n:Int) (h0:n<0) (h1:-5400000≤n):qD n=-LT (-n).toNat∧nF n=-(mV (-n).toNat:Int):=by
 have e:n%21600000=n+21600000:=by omega
 unfold qD nF nO nT;simp only [e,show ¬n+21600000≤5400000 by omega,show ¬n+21600000≤10800000 by omega,show 10800000<n+21600000 by omega,decide_true,reduceIte];by_cases h:n+21600000≤16200000
 ·simp only [if_pos h];rw [show (n+21600000-10800000).toNat=(-n).toNat by omega];exact ⟨rfl,rfl⟩
 ·simp only [if_neg h];rw [show (21600000-(n+21600000)).toNat=(-n).toNat by omega];exact ⟨rfl,rfl⟩
theorem SE (n:Int) (h0:-5400000≤n) (h1:n≤5400000):qD (-n)=-nF n∧nF (-n)=-qD n:=by
 rcases alQ n 0 with h | h | h
 ·have a:=PP n h h0;have b:=PQ (-n) (by omega) (by omega);rw [a.1,a.2,b.1,b.2];constructor<;>omega
 ·subst h;decide+kernel
 ·have a:=PQ n (by omega) h1;have b:=PP (-n) (by omega) (by omega);rw [a.1,a.2,b.1,b.2,Int.neg_neg];constructor<;>omega
theorem step_up (n:Int) (h0:-5400000≤n) (h1:n<5400000):qD n<nF (n+1)∧nF n≤nF (n+1):=by
 rcases alQ n (-1) with h | h | h
 ·have a:=PP n (by omega) h0;have b:=PP (n+1) (by omega) (by omega);have c:=RF (-(n+1)).toNat (by omega);have d:=flo_up (-(n+1)).toNat (by omega);rw [show (-(n+1)).toNat+1=(-n).toNat by omega] at c d;rw [a.1,a.2,b.2];constructor<;>omega
 ·subst h;decide+kernel
 ·have a:=PQ n (by omega) (by omega);have b:=PQ (n+1) (by omega) (by omega);have c:=RF n.toNat (by omega);have d:=upf_up n.toNat (by omega);rw [show n.toNat+1=(n+1).toNat by omega] at c d;rw [a.1,a.2,b.2];constructor<;>omega
theorem oX {m n:Int} (h0:-5400000≤m) (h:m≤n) (h1:n≤5400000):nF m≤nF n:=by
 obtain ⟨d,rfl⟩:∃d:Nat,n=m+d:=⟨(n-m).toNat,by omega⟩;clear h;induction d with
 | zero=>simp
 | succ d ih=>
  have:=step_up (m+d) (by omega) (by omega);have:=ih (by omega);rw [show m+((d+1:Nat):Int)=m+d+1 by omega];omega
theorem strict {m n:Int} (h0:-5400000≤m) (h:m<n) (h1:n≤5400000):qD m<nF n:=by
 have a:=step_up m h0 (by omega);have b:=oX (m:=m+1) (n:=n) (by omega) (by omega) h1;omega
def nQ (v a:Int):Prop:=-5400000≤a∧a≤5400000∧nF a≤v∧(a=5400000∨v<nF (a+1))
theorem UZ {v a b:Int} (ha:nQ v a) (hb:nQ v b):a=b:=by
 obtain ⟨a0,a1,a2,a3⟩:=ha;obtain ⟨b0,b1,b2,b3⟩:=hb;rcases alQ a b with h | h | h
 ·exfalso;have:=oX (m:=a+1) (n:=b) (by omega) (by omega) b1;omega
 ·exact h
 ·exfalso;have:=oX (m:=b+1) (n:=a) (by omega) (by omega) a1;omega
theorem hib_low:nF (-5400000)=-1073741824:=by decide+kernel
theorem asin_ex (v:Int) (hv:-1073741824≤v):∃a,nQ v a:=by
 have key:∀d:Nat,d≤10800000→nF (5400000-d)≤v→∃a,nQ v a:=by
  intro d;induction d with
  | zero=>intro _ h;exact ⟨5400000,by omega,by omega,by simpa using h,.inl rfl⟩
  | succ d ih=>
   intro hd h;by_cases c:nF (5400000-d)≤v
   ·exact ih (by omega) c
   ·refine ⟨5400000-((d+1:Nat):Int),by omega,by omega,h,.inr ?_⟩;rw [show (5400000-((d+1:Nat):Int)+1)=5400000-d by omega];omega
 refine key 10800000 (by omega) ?_;rw [show (5400000-((10800000:Nat):Int))=-5400000 by omega,hib_low];exact hv
open Classical in
noncomputable def pK (v:Int):Int:=if h:∃a,nQ v a then Classical.choose h else 0
theorem pZ (v:Int) (hv:-1073741824≤v):nQ v (pK v):=by
 unfold pK;rw [dif_pos (asin_ex v hv)];exact Classical.choose_spec (asin_ex v hv)
theorem BF {v a:Int} (hv:-1073741824≤v) (ha:nQ v a):pK v=a:=UZ (pZ v hv) ha
theorem cmp_le (n v:Int):cmp n v≤0↔nF n≤v:=by
 obtain ⟨h,_,_⟩:=oG n;unfold cmp;split
 ·omega
 ·split<;>omega
theorem cmp_bd (n v:Int):-1≤cmp n v∧cmp n v≤1:=by
 unfold cmp;split
 ·omega
 ·split<;>omega
def qC:Value→Int | .int _ x=>x | _=>0
theorem asin_any (v:Int) (hv:-1073741824≤v) (w:World):Calls aaZ 72 #[.int .i64 v] w (cI (.int .i64 (pK v)) w):=by
 obtain ⟨V,hV⟩:∃V,V=Value.int .i64 (pK v):=⟨_,rfl⟩;have HP:∀a w',nQ v a→Below w.heap.size w w'→cI V w (.returned (.int .i64 a)) w':=fun a w' h hb=>⟨by rw [hV,BF hv h],hb⟩;rw [←hV];clear hV;have HP:=aaX HP;have HB:=aaX (fun n w=>below_any n v w);have HS:=aaX (show -5400000≤(-5400000:Int)∧(-5400000:Int)<5400001∧(5400001:Int)≤5400001∧nF (-5400000)≤v∧((5400001:Int)=5400001∨v<nF 5400001) from ⟨by omega,by omega,by omega,by rw [hib_low];exact hv,.inl rfl⟩);clear hv;go_enter Tryz.func72,Tryz.ntmps72;go_wp2;go_loopw [3,4] (fun l h wr=>∃low high:Int,l=.int .i64 low∧h=.int .i64 high∧-5400000≤low∧low<high∧high≤5400001∧nF low≤v∧(high=5400001∨v<nF high)∧Below w.heap.size w wr) (fun l h _=>(qC h-qC l).toNat)
 case atStart=>exact ⟨_,_,rfl,rfl,HS.out.1,HS.out.2.1,HS.out.2.2.1,HS.out.2.2.2.1,.inl rfl,aeX _ _⟩
 case round=>
  clear HS;obtain ⟨low,high,rfl,rfl,h1,h2,h3,h4,h5,h6⟩:=hrel;have H4:=aaX h4;have H5:=aaX h5;have H6:=aaX h6;clear h4 h5 h6;by_cases hlt:high-low≤1
  ·have HF:=aaX (HP.out low wr ⟨h1,by omega,H4.out,by
    rcases H5.out with h | h
    ·exact .inl (by omega)
    ·exact .inr (by rw [show low+1=high by omega];exact h)⟩ H6.out)
   go_wp2;go_ret;exact HF.out
  ·have hm:∃m,m=(low+high)/2∧low<m∧m<high:=⟨_,rfl,by omega,by omega⟩;obtain ⟨m,hm,hm1,hm2⟩:=hm;have HM:=aaX (HB.out m wr);have bd:=cmp_bd m v;have HL:=aaX (cmp_le m v);generalize cmp m v=c at*;go_wp2_with fail
   rw [←hm];refine HM.out.mono ?_;rintro e w1 ⟨rfl,hb1⟩;have H7:=aaX (H6.out.trans (hb1.mono H6.out.size));clear hb1 hm;by_cases hc:c≤0
   ·go_wp2;go_roundw
    case rel=>exact ⟨m,high,rfl,rfl,by omega,by omega,by omega,HL.out.1 hc,H5.out,H7.out⟩
    case measure=>simp [qC];omega
   ·go_wp2;go_roundw
    case rel=>exact ⟨low,m,rfl,rfl,by omega,by omega,by omega,H4.out,.inr (by have:=HL.out;omega),H7.out⟩
    case measure=>simp [qC];omega
end
section
open Go.RowKit
def aG (lo hi:Int):Value:=.agg #[.int .i64 lo,.int .i64 hi]
def aN (lo hi:Int):Bool:=decide (-2147483648≤lo∧lo≤hi∧hi≤2147483648)
theorem iU (lo hi:Int) (w:World):Calls aaZ 70 #[aG lo hi] w (cI (.bool (aN lo hi)) w):=by
 obtain ⟨V,hV⟩:∃V,V=Value.bool (aN lo hi):=⟨_,rfl⟩;have HP:∀b w',aN lo hi=b→Below w.heap.size w w'→cI V w (.returned (.bool b)) w':=fun b w' h hb=>⟨by rw [hV,h],hb⟩;have HP:=aaX HP;have HB:=aaX ((aeX w.heap.size w).alloc (aaJ _) (.cells #[.int .i64 lo,.int .i64 hi] 66));rw [←hV];clear hV;unfold aG;by_cases h1:-2147483648≤lo
 ·by_cases h2:lo≤hi
  ·by_cases h3:hi≤2147483648
   ·have HF:=aaX (HP.out true _ (by unfold aN;rw [decide_eq_true];omega) HB.out);go_enter Tryz.func70,Tryz.ntmps70;go_wp2;go_ret;exact HF.out
   ·have HF:=aaX (HP.out false _ (by unfold aN;rw [decide_eq_false];omega) HB.out);go_enter Tryz.func70,Tryz.ntmps70;go_wp2;go_ret;exact HF.out
  ·have HF:=aaX (HP.out false _ (by unfold aN;rw [decide_eq_false];omega) HB.out);go_enter Tryz.func70,Tryz.ntmps70;go_wp2;go_ret;exact HF.out
 ·have HF:=aaX (HP.out false _ (by unfold aN;rw [decide_eq_false];omega) HB.out);go_enter Tryz.func70,Tryz.ntmps70;go_wp2;go_ret;exact HF.out
end
section
open Go.RowKit
def dG (t:TypeId) (w:World) (b:Nat) (x y:Int):Prop:=w.heap[b]? =some (.cells #[.int .i64 x,.int .i64 y] t (0,0))
theorem dG.lt {t:TypeId} {w:World} {b:Nat} {x y:Int} (h:dG t w b x y):b<w.heap.size:=by
 unfold dG at h;exact (Array.getElem?_eq_some_iff.1 h).1
theorem dG.below {t:TypeId} {w w':World} {b:Nat} {x y:Int} (h:dG t w b x y) (hb:Below w.heap.size w w'):dG t w' b x y:=(hb.block b h.lt).trans h
theorem aD {t:TypeId} {w w':World} {b:Nat} {x y:Int} (hb:Below w.heap.size w w') (h:dG t w b x y):dG t w' b x y:=h.below hb
theorem dG.alloc {t:TypeId} {w:World} {b:Nat} {x y:Int} (h:dG t w b x y) (o:Obj):dG t (w.alloc o) b x y:=h.below ((aeX _ _).alloc (aaJ _) _)
theorem dG.write {t:TypeId} {w:World} {b:Nat} {x y:Int} (h:dG t w b x y) (u v:Int):
  dG t ((w.setCell ⟨b,0,none⟩ (.int .i64 u)).setCell ⟨b,1,none⟩ (.int .i64 v)) b u v:=by
 unfold dG at*;simp [ayQ,h,Array.getElem?_modify]
theorem dG.other {t:TypeId} {w:World} {b b':Nat} {x y:Int} (h:dG t w b x y) (hb:b≠b') (u v:Value):
  dG t ((w.setCell ⟨b',0,none⟩ u).setCell ⟨b',1,none⟩ v) b x y:=by
 unfold dG at*;have hb':b'≠b:=fun e=>hb e.symm;simp [ayQ,h,Array.getElem?_modify,hb']
theorem aL {t:TypeId} {w:World} {b:Nat} {x y:Int} (h:dG t w b x y):
  (w.cell? ⟨b,0,none⟩=some (.int .i64 x)∧w.cell? ⟨b,1,none⟩=some (.int .i64 y))∧w.frozen? ⟨b,0,none⟩=false∧w.frozen? ⟨b,1,none⟩=false:=by
 unfold dG at h;refine ⟨⟨?_,?_⟩,?_,?_⟩
 ·simp [World.cell?,h]
 ·simp [World.cell?,h]
 ·simp [World.frozen?,h]
 ·simp [World.frozen?,h]
theorem YX (x y lo hi:Int) (w:World):Calls aaZ 71 #[aG x y,.int .i64 lo,.int .i64 hi] w (cI (.tuple #[aG (max x lo) (min y hi),.bool (decide (max x lo≤min y hi))]) w):=by
 have HB:=aaX (((aeX w.heap.size w).alloc (aaJ _) (.cells #[.int .i64 (max x lo),.int .i64 (min y hi)] 66)).alloc (by simp) (.cells #[.int .i64 (max x lo),.int .i64 (min y hi)] 66));unfold aG;go_enter Tryz.func71,Tryz.ntmps71;go_wp2;go_region_with fail
 all_goals (
  go_wp2;refine bodyPost_ret (v:=.tuple #[aG (max x lo) (min y hi),.bool (decide (max x lo≤min y hi))]) (by simp [results,Tryz.results71,go_sem,aG]) rfl ⟨rfl,?_⟩;first
   | exact HB.out.drew
   | exact HB.out)
noncomputable def bE (x y:Int):Int×Int×Int:=if aN x y=false then (0,0,1) else if max x (-1073741824)≤min y 1073741824 then (pK (max x (-1073741824)),-pK (-min y 1073741824),0) else (0,0,2)
def aP (r:Int×Int×Int):Value:=.tuple #[aG r.1 r.2.1,.int .i64 r.2.2]
theorem gH (w:World) (o o':Obj):((w.alloc o).alloc o').heap[w.heap.size]? =some o:=by
 rw [ahX _ _ _ (by simp),heap_alloc_new]
theorem eM (w:World) (o o':Obj):((w.alloc o).alloc o').heap[w.heap.size+ 1]? =some o':=by
 have:=heap_alloc_new (w.alloc o) o';simpa using this
theorem PO (x y:Int) (w:World):Calls aaZ 33 #[aG x y] w (cI (aP (bE x y)) w):=by
 have HV:=aaX (iU x y);have HQ:=aaX (YX x y (-1073741824) 1073741824);have B0:Below w.heap.size w ((w.alloc (.cells #[.int .i64 x,.int .i64 y] 66)).alloc (.cells #[.int .i64 0,.int .i64 0] 23)):=((aeX w.heap.size w).alloc (aaJ _) _).alloc (by simp) _;obtain ⟨V,hV⟩:∃V,V=aP (bE x y):=⟨_,rfl⟩;rw [←hV];unfold bE at hV;unfold aG at HV HQ ⊢;have n1:dG 66 ((w.alloc (.cells #[.int .i64 x,.int .i64 y] 66)).alloc (.cells #[.int .i64 0,.int .i64 0] 23)) w.heap.size x y:=gH _ _ _;have n2:dG 23 ((w.alloc (.cells #[.int .i64 x,.int .i64 y] 66)).alloc (.cells #[.int .i64 0,.int .i64 0] 23)) (w.heap.size+1) 0 0:=eM _ _ _;have N1:=aaX n1;have N2:=aaX n2;have HB:=aaX B0;clear n1 n2 B0;by_cases hv:aN x y=false
 ·rw [if_pos hv] at hV;rw [hv] at HV;have hV:=aaX hV;clear hv HQ;go_enter Tryz.func33,Tryz.ntmps33;go_wp2_with fail
  refine (HV.out _).mono ?_;rintro e w1 ⟨rfl,hb⟩;have n1:=aD hb N1.out;have n2:=aD hb N2.out;have l1:=n1.lt;have l2:=n2.lt;obtain ⟨⟨a0,a1⟩,a2,a3⟩:=aL n1;obtain ⟨⟨b0,b1⟩,b2,b3⟩:=aL n2;have HB:=aaX ((HB.out.trans (hb.mono HB.out.size)).setCell (p:=⟨w.heap.size+1,0,none⟩) (by simp) (.int .i64 0) |>.setCell (p:=⟨w.heap.size+1,1,none⟩) (by simp) (.int .i64 0));clear hb n1 n2;go_wp2;refine bodyPost_ret (v:=V) (by rw [hV.out];simp [results,Tryz.results33,go_sem,aP,aG,b0,b1]) rfl ⟨rfl,HB.out⟩
 ·rw [if_neg hv] at hV;have hv':aN x y=true:=by cases h:aN x y<;>simp_all
  rw [hv'] at HV;have hm1:-1073741824≤max x (-1073741824):=by omega
  have hm2:-1073741824≤-min y 1073741824:=by omega
  have hm3:max x (-1073741824)≤2147483648∧-2147483648≤min y 1073741824:=by simp [aN] at hv';omega
  clear hv hv';generalize max x (-1073741824)=u at*;generalize min y 1073741824=v at*;by_cases hc:u≤v
  ·rw [if_pos hc] at hV;rw [decide_eq_true hc] at HQ;have hA:=pZ u hm1;have hC:=pZ (-v) hm2;have wv:i64.wrap (-v)=-v:=IntWalk.i64_in _ (by omega);have wq:i64.wrap (-(pK (-v)))=-(pK (-v)):=IntWalk.i64_in _ (by have:=hC.1;have:=hC.2.1;omega);clear hA hC;have hV:=aaX hV;go_enter Tryz.func33,Tryz.ntmps33;go_wp2_with fail
   refine (HV.out _).mono ?_;rintro e w1 ⟨rfl,hb⟩;have n1:=aD hb N1.out;have n2:=aD hb N2.out;have l1:=n1.lt;have l2:=n2.lt;obtain ⟨⟨a0,a1⟩,a2,a3⟩:=aL n1;obtain ⟨⟨b0,b1⟩,b2,b3⟩:=aL n2;have HB:=aaX (HB.out.trans (hb.mono HB.out.size));have N1:=aaX n1;have N2:=aaX n2;clear hb n1 n2;go_wp2_with fail
   refine (HQ.out _).mono ?_;rintro e w2 ⟨rfl,hb⟩;have m1:=aD hb N1.out;have m2:=aD hb N2.out;have k1:=m1.lt;have k2:=m2.lt;obtain ⟨⟨c0,c1⟩,c2,c3⟩:=aL m1;obtain ⟨⟨d0,d1⟩,d2,d3⟩:=aL m2;have HB:=aaX ((HB.out.trans (hb.mono HB.out.size)).setCell (p:=⟨w.heap.size,0,none⟩) (aaJ _) (.int .i64 u) |>.setCell (p:=⟨w.heap.size,1,none⟩) (aaJ _) (.int .i64 v));have N1:=aaX (m1.write u v);have N2:=aaX (m2.other (b':=w.heap.size) (by omega) (.int .i64 u) (.int .i64 v));clear hb m1 m2;go_wp2_with fail
   generalize (w2.setCell ⟨w.heap.size,0,none⟩ (.int .i64 u)).setCell ⟨w.heap.size,1,none⟩ (.int .i64 v)=w3 at*;have k1:=N1.out.lt;have k2:=N2.out.lt;obtain ⟨⟨e0,e1⟩,e2,e3⟩:=aL N1.out;obtain ⟨⟨f0,f1⟩,f2,f3⟩:=aL N2.out;clear a0 a1 a2 a3 b0 b1 b2 b3 c0 c1 c2 c3 d0 d1 d2 d3 l1 l2;go_region_with (
    go_at_call 72
    refine (asin_any _ (by omega) _).mono ?_;rintro e w4 ⟨rfl,hb⟩;have n1:=aD hb (by exact N1.out);have n2:=aD hb (by exact N2.out);have l1:=n1.lt;have l2:=n2.lt;obtain ⟨⟨a0,a1⟩,a2,a3⟩:=aL n1;obtain ⟨⟨b0,b1⟩,b2,b3⟩:=aL n2;have HB:=aaX (show Below w.heap.size w w4 from by first | exact HB.out.trans (hb.mono HB.out.size) | exact HB.out.drew.trans (hb.mono HB.out.size));have N1:=aaX n1;have N2:=aaX n2;clear hb n1 n2)
   all_goals (
    have n3:=N2.out.write (pK u) (-pK (-v));obtain ⟨⟨r0,r1⟩,r2,r3⟩:=aL n3;have HF:=aaX ((HB.out.setCell (p:=⟨w.heap.size+1,0,none⟩) (by simp) (.int .i64 (pK u))).setCell (p:=⟨w.heap.size+1,1,none⟩) (by simp) (.int .i64 (-pK (-v))));clear n3;go_wp2;refine bodyPost_ret (v:=V) (by rw [hV.out];simp [results,Tryz.results33,go_sem,aP,aG,r0,r1]) rfl ⟨rfl,?_⟩;first
     | exact HF.out
     | exact HF.out.drew)
  ·rw [if_neg hc] at hV;rw [decide_eq_false hc] at HQ;have hV:=aaX hV;go_enter Tryz.func33,Tryz.ntmps33;go_wp2_with fail
   refine (HV.out _).mono ?_;rintro e w1 ⟨rfl,hb⟩;have n1:=aD hb N1.out;have n2:=aD hb N2.out;have l1:=n1.lt;have l2:=n2.lt;obtain ⟨⟨a0,a1⟩,a2,a3⟩:=aL n1;obtain ⟨⟨b0,b1⟩,b2,b3⟩:=aL n2;have HB:=aaX (HB.out.trans (hb.mono HB.out.size));have N1:=aaX n1;have N2:=aaX n2;clear hb n1 n2;go_wp2_with fail
   refine (HQ.out _).mono ?_;rintro e w2 ⟨rfl,hb⟩;have m1:=aD hb N1.out;have m2:=aD hb N2.out;have k1:=m1.lt;have k2:=m2.lt;obtain ⟨⟨c0,c1⟩,c2,c3⟩:=aL m1;obtain ⟨⟨d0,d1⟩,d2,d3⟩:=aL m2;have N3:=(m2.other (b':=w.heap.size) (by omega) (.int .i64 u) (.int .i64 v)).write 0 0;obtain ⟨⟨r0,r1⟩,r2,r3⟩:=aL N3;have HB:=aaX ((HB.out.trans (hb.mono HB.out.size)).setCell (p:=⟨w.heap.size,0,none⟩) (aaJ _) (.int .i64 u) |>.setCell (p:=⟨w.heap.size,1,none⟩) (aaJ _) (.int .i64 v) |>.setCell (p:=⟨w.heap.size+1,0,none⟩) (by simp) (.int .i64 0) |>.setCell (p:=⟨w.heap.size+1,1,none⟩) (by simp) (.int .i64 0));clear hb m1 m2 N3;go_wp2;refine bodyPost_ret (v:=V) (by rw [hV.out];simp [results,Tryz.results33,go_sem,aP,aG,r0,r1]) rfl ⟨rfl,HB.out⟩
end
section
open Go.RowKit
theorem UW (x y:Int):(-5400000≤(bE x y).1∧(bE x y).1≤5400000)∧(-5400000≤(bE x y).2.1∧(bE x y).2.1≤5400000)∧(0≤(bE x y).2.2∧(bE x y).2.2≤2):=by
 unfold bE;split
 ·exact ⟨by constructor<;>decide,by constructor<;>decide,by constructor<;>decide⟩
 ·split
  ·have h1:=pZ (max x (-1073741824)) (by omega);have h2:=pZ (-min y 1073741824) (by omega);obtain ⟨a0,a1,_,_⟩:=h1;obtain ⟨b0,b1,_,_⟩:=h2;refine ⟨⟨a0,a1⟩,⟨?_,?_⟩,?_,?_⟩<;>simp only<;>omega
  ·exact ⟨by constructor<;>decide,by constructor<;>decide,by constructor<;>decide⟩
noncomputable def xJ (x y:Int):Int×Int×Int:=if (bE x y).2.2=0 then (5400000-(bE x y).2.1,5400000-(bE x y).1,0) else (0,0,(bE x y).2.2)
noncomputable def eY (x y:Int):Int×Int×Int:=if aN x y=false then (0,0,1) else if max x 0≤min y 1073741824 then xJ (1073741824-2*min y 1073741824) (1073741824-2*max x 0) else (0,0,2)
theorem acos_r (x y:Int) (w:World):Calls aaZ 90 #[aG x y] w (cI (aP (xJ x y)) w):=by
 have HA:=aaX (PO x y);obtain ⟨⟨g1,g2⟩,⟨g3,g4⟩,g5,g6⟩:=UW x y;obtain ⟨V,hV⟩:∃V,V=aP (xJ x y):=⟨_,rfl⟩;rw [←hV];unfold xJ at hV;unfold aP at HA;generalize (bE x y).1=u at*;generalize (bE x y).2.1=v at*;generalize (bE x y).2.2=e at*;have B0:Below w.heap.size w ((w.alloc (.cells #[.int .i64 x,.int .i64 y] 66)).alloc (.cells #[.int .i64 0,.int .i64 0] 23)):=((aeX w.heap.size w).alloc (aaJ _) _).alloc (by simp) _;unfold aG at HA ⊢;have n2:dG 23 ((w.alloc (.cells #[.int .i64 x,.int .i64 y] 66)).alloc (.cells #[.int .i64 0,.int .i64 0] 23)) (w.heap.size+1) 0 0:=eM _ _ _;have N2:=aaX n2;have HB:=aaX B0;clear n2 B0;by_cases he:e=0
 ·subst he;rw [if_pos rfl] at hV;have hV:=aaX hV;go_enter Tryz.func90,Tryz.ntmps90;go_wp2_with fail
  refine (HA.out _).mono ?_;rintro e w1 ⟨rfl,hb⟩;have n2:=aD hb N2.out;have l2:=n2.lt;have hz:w.heap.size+2≤w1.heap.size:=by have:=hb.size;simp at this;omega
  obtain ⟨⟨b0,b1⟩,b2,b3⟩:=aL n2;have N3:=(n2.write (5400000-v) (5400000-u)).alloc (.cells #[.int .i64 u,.int .i64 v] 23);obtain ⟨⟨r0,r1⟩,r2,r3⟩:=aL N3;have HB:=aaX (((HB.out.trans (hb.mono HB.out.size)).setCell (p:=⟨w.heap.size+1,0,none⟩) (by simp) (.int .i64 (5400000-v)) |>.setCell (p:=⟨w.heap.size+1,1,none⟩) (by simp) (.int .i64 (5400000-u))).alloc (by simp;omega) (.cells #[.int .i64 u,.int .i64 v] 23));clear hb n2 N3;go_wp2;refine bodyPost_ret (v:=V) (by rw [hV.out];simp [results,Tryz.results90,go_sem,aP,aG,r0,r1]) rfl ⟨rfl,HB.out⟩
 ·rw [if_neg he] at hV;have hV:=aaX hV;go_enter Tryz.func90,Tryz.ntmps90;go_wp2_with fail
  refine (HA.out _).mono ?_;rintro e w1 ⟨rfl,hb⟩;have n2:=aD hb N2.out;have l2:=n2.lt;have hz:w.heap.size+2≤w1.heap.size:=by have:=hb.size;simp at this;omega
  obtain ⟨⟨b0,b1⟩,b2,b3⟩:=aL n2;have N3:=(n2.write 0 0).alloc (.cells #[.int .i64 u,.int .i64 v] 23);obtain ⟨⟨r0,r1⟩,r2,r3⟩:=aL N3;have HB:=aaX (((HB.out.trans (hb.mono HB.out.size)).setCell (p:=⟨w.heap.size+1,0,none⟩) (by simp) (.int .i64 0) |>.setCell (p:=⟨w.heap.size+1,1,none⟩) (by simp) (.int .i64 0)).alloc (by simp;omega) (.cells #[.int .i64 u,.int .i64 v] 23));clear hb n2 N3;go_wp2;refine bodyPost_ret (v:=V) (by rw [hV.out];simp [results,Tryz.results90,go_sem,aP,aG,r0,r1]) rfl ⟨rfl,HB.out⟩
end
section
open Go.RowKit
theorem ahav_r (x y:Int) (w:World):Calls aaZ 51 #[aG x y] w (cI (aP (eY x y)) w):=by
 have HV:=aaX (iU x y);have HQ:=aaX (YX x y 0 1073741824);have B0:Below w.heap.size w ((w.alloc (.cells #[.int .i64 x,.int .i64 y] 66)).alloc (.cells #[.int .i64 0,.int .i64 0] 23)):=((aeX w.heap.size w).alloc (aaJ _) _).alloc (by simp) _;obtain ⟨V,hV⟩:∃V,V=aP (eY x y):=⟨_,rfl⟩;rw [←hV];unfold eY at hV;have n1:dG 66 ((w.alloc (.cells #[.int .i64 x,.int .i64 y] 66)).alloc (.cells #[.int .i64 0,.int .i64 0] 23)) w.heap.size x y:=gH _ _ _;have n2:dG 23 ((w.alloc (.cells #[.int .i64 x,.int .i64 y] 66)).alloc (.cells #[.int .i64 0,.int .i64 0] 23)) (w.heap.size+1) 0 0:=eM _ _ _;have N1:=aaX n1;have N2:=aaX n2;have HB:=aaX B0;clear n1 n2 B0;by_cases hv:aN x y=false
 ·rw [if_pos hv] at hV;rw [hv] at HV;have hV:=aaX hV;unfold aG at HV HQ ⊢;clear hv HQ;go_enter Tryz.func51,Tryz.ntmps51;go_wp2_with fail
  refine (HV.out _).mono ?_;rintro e w1 ⟨rfl,hb⟩;have n1:=aD hb N1.out;have n2:=aD hb N2.out;have l1:=n1.lt;have l2:=n2.lt;obtain ⟨⟨a0,a1⟩,a2,a3⟩:=aL n1;obtain ⟨⟨b0,b1⟩,b2,b3⟩:=aL n2;have HB:=aaX ((HB.out.trans (hb.mono HB.out.size)).setCell (p:=⟨w.heap.size+1,0,none⟩) (by simp) (.int .i64 0) |>.setCell (p:=⟨w.heap.size+1,1,none⟩) (by simp) (.int .i64 0));clear hb n1 n2;go_wp2;refine bodyPost_ret (v:=V) (by rw [hV.out];simp [results,Tryz.results51,go_sem,aP,aG,b0,b1]) rfl ⟨rfl,HB.out⟩
 ·rw [if_neg hv] at hV;have hv':aN x y=true:=by cases h:aN x y<;>simp_all
  rw [hv'] at HV;have hm3:0≤max x 0∧min y 1073741824≤1073741824∧max x 0≤2147483648∧-2147483648≤min y 1073741824:=by simp [aN] at hv';omega
  clear hv hv';generalize max x 0=u at*;generalize min y 1073741824=v at*;by_cases hc:u≤v
  ·rw [if_pos hc] at hV;rw [decide_eq_true hc] at HQ;have HC:=aaX (acos_r (1073741824-2*v) (1073741824-2*u));unfold aP at HC hV;generalize (xJ (1073741824-2*v) (1073741824-2*u)).1=p at*;generalize (xJ (1073741824-2*v) (1073741824-2*u)).2.1=q at*;generalize (xJ (1073741824-2*v) (1073741824-2*u)).2.2=r at*;have hV:=aaX hV;unfold aG at HV HQ HC ⊢;go_enter Tryz.func51,Tryz.ntmps51;go_wp2_with fail
   refine (HV.out _).mono ?_;rintro e w1 ⟨rfl,hb⟩;have n1:=aD hb N1.out;have n2:=aD hb N2.out;have l1:=n1.lt;have l2:=n2.lt;obtain ⟨⟨a0,a1⟩,a2,a3⟩:=aL n1;obtain ⟨⟨b0,b1⟩,b2,b3⟩:=aL n2;have HB:=aaX (HB.out.trans (hb.mono HB.out.size));have N1:=aaX n1;have N2:=aaX n2;clear hb n1 n2;go_wp2_with fail
   refine (HQ.out _).mono ?_;rintro e w2 ⟨rfl,hb⟩;have m1:=aD hb N1.out;have m2:=aD hb N2.out;have k1:=m1.lt;have k2:=m2.lt;obtain ⟨⟨c0,c1⟩,c2,c3⟩:=aL m1;obtain ⟨⟨d0,d1⟩,d2,d3⟩:=aL m2;have HB:=aaX ((HB.out.trans (hb.mono HB.out.size)).setCell (p:=⟨w.heap.size,0,none⟩) (aaJ _) (.int .i64 u) |>.setCell (p:=⟨w.heap.size,1,none⟩) (aaJ _) (.int .i64 v));have N1:=aaX (m1.write u v);have N2:=aaX (m2.other (b':=w.heap.size) (by omega) (.int .i64 u) (.int .i64 v));clear hb m1 m2;go_wp2_with fail
   refine (HC.out _).mono ?_;rintro e w3 ⟨rfl,hb⟩;have n1:=aD hb N1.out;have n2:=aD hb N2.out;have j1:=n1.lt;have j2:=n2.lt;obtain ⟨⟨e0,e1⟩,e2,e3⟩:=aL n1;obtain ⟨⟨f0,f1⟩,f2,f3⟩:=aL n2;have N3:=n2.write p q;obtain ⟨⟨r0,r1⟩,r2,r3⟩:=aL N3;have HB:=aaX ((HB.out.trans (hb.mono HB.out.size)).setCell (p:=⟨w.heap.size+1,0,none⟩) (by simp) (.int .i64 p) |>.setCell (p:=⟨w.heap.size+1,1,none⟩) (by simp) (.int .i64 q));clear hb n1 n2 N3;go_wp2;refine bodyPost_ret (v:=V) (by rw [hV.out];simp [results,Tryz.results51,go_sem,aG,r0,r1]) rfl ⟨rfl,HB.out⟩
  ·rw [if_neg hc] at hV;rw [decide_eq_false hc] at HQ;have hV:=aaX hV;unfold aG at HV HQ ⊢;go_enter Tryz.func51,Tryz.ntmps51;go_wp2_with fail
   refine (HV.out _).mono ?_;rintro e w1 ⟨rfl,hb⟩;have n1:=aD hb N1.out;have n2:=aD hb N2.out;have l1:=n1.lt;have l2:=n2.lt;obtain ⟨⟨a0,a1⟩,a2,a3⟩:=aL n1;obtain ⟨⟨b0,b1⟩,b2,b3⟩:=aL n2;have HB:=aaX (HB.out.trans (hb.mono HB.out.size));have N1:=aaX n1;have N2:=aaX n2;clear hb n1 n2;go_wp2_with fail
   refine (HQ.out _).mono ?_;rintro e w2 ⟨rfl,hb⟩;have m1:=aD hb N1.out;have m2:=aD hb N2.out;have k1:=m1.lt;have k2:=m2.lt;obtain ⟨⟨c0,c1⟩,c2,c3⟩:=aL m1;obtain ⟨⟨d0,d1⟩,d2,d3⟩:=aL m2;have N3:=(m2.other (b':=w.heap.size) (by omega) (.int .i64 u) (.int .i64 v)).write 0 0;obtain ⟨⟨r0,r1⟩,r2,r3⟩:=aL N3;have HB:=aaX ((HB.out.trans (hb.mono HB.out.size)).setCell (p:=⟨w.heap.size,0,none⟩) (aaJ _) (.int .i64 u) |>.setCell (p:=⟨w.heap.size,1,none⟩) (aaJ _) (.int .i64 v) |>.setCell (p:=⟨w.heap.size+1,0,none⟩) (by simp) (.int .i64 0) |>.setCell (p:=⟨w.heap.size+1,1,none⟩) (by simp) (.int .i64 0));clear hb m1 m2 N3;go_wp2;refine bodyPost_ret (v:=V) (by rw [hV.out];simp [results,Tryz.results51,go_sem,aP,aG,r0,r1]) rfl ⟨rfl,HB.out⟩
end
end Go.Proofs.YtajpgkpdhcbngaaGreatDoor
