/-
   .
-/
import Derived.Test.YtmididlfnajhiaaGreatDoorU4
import Derived.Deep.RegionHeld3
set_option maxRecDepth 100000
set_option maxHeartbeats 4000000
open Go.RowKit.Below renaming heap_alloc→anX,refl→acQ
open _root_.Int renaming emod_lt_of_pos→ahJ,emod_nonneg→ajQ,mul_nonneg→aeZ,toNat_of_nonneg→ahX
open Go.Lib renaming hid→aaQ
open _root_.Nat renaming le_refl→aaX
open Go.IntKind (i64 u64)
namespace Go.Proofs.YtmididlfnajhiaaGreatDoor
section
open Go.RowKit
def gA (x y:Int):Nat→Int×Int
 | 0=>(x,y)
 | j+1=>((gA x y j).2,-(gA x y j).1)
def qr (x y:Int):Nat:=if 0<x∧0≤y then 0 else if 0<y∧x≤0 then 1 else if x<0∧y≤0 then 2 else 3
theorem MG (x y:Int) (hx:-2147483648≤x∧x≤2147483648) (hy:-2147483648≤y∧y≤2147483648):∀j,(-2147483648≤(gA x y j).1∧(gA x y j).1≤2147483648)∧(-2147483648≤(gA x y j).2∧(gA x y j).2≤2147483648)
 | 0=>⟨hx,hy⟩
 | j+1=>by
  have:=MG x y hx hy j;simp only [gA];omega
theorem qr_le (x y:Int):qr x y≤3:=by
 unfold qr;split
 ·omega
 ·split
  ·omega
  ·split<;>omega
theorem qr_not (x y:Int) (j:Nat) (h:j<qr x y):¬(0<(gA x y j).1∧0≤(gA x y j).2):=by
 unfold qr at h;split at h
 ·omega
 ·split at h
  ·obtain rfl:j=0:=by omega
   simp only [gA];omega
  ·split at h
   ·rcases (show j=0∨j=1 by omega) with rfl | rfl<;>simp only [gA]<;>omega
   ·rcases (show j=0∨j=1∨j=2 by omega) with rfl | rfl | rfl<;>simp only [gA]<;>omega
theorem qr_at (x y:Int) (h:¬(x=0∧y=0)):0<(gA x y (qr x y)).1∧0≤(gA x y (qr x y)).2:=by
 unfold qr;split
 ·simp only [gA];omega
 ·split
  ·simp only [gA];omega
  ·split
   ·simp only [gA];omega
   ·simp only [gA];omega
def rU (f:Nat→Bool):Nat→Nat→Nat→Nat
 | 0,low,_=>low
 | n+1,low,high=>if high-low≤1 then low else if f ((low+high)/2) then rU f n ((low+high)/2) high else rU f n low ((low+high)/2)
def BQ (x y:Int):Nat:=rU (eM (gA x y (qr x y)).1.toNat (gA x y (qr x y)).2.toNat) 23 0 5400000
def iH (x y:Int):Int:=5400000*(qr x y:Int)+(BQ x y:Int)
def oK (x y:Int):Bool:=(BQ x y==0&&(gA x y (qr x y)).2==0)||(BQ x y==2700000&&(gA x y (qr x y)).1==(gA x y (qr x y)).2)
theorem SQ {x v:Int} (hx:-2147483648≤x∧x≤2147483648) (hv:-2147483648≤v∧v≤2147483648):-4611686018427387904≤x*v∧x*v≤4611686018427387904:=by
 have h1:=aeZ (show 0≤2147483648-x by omega) (show 0≤2147483648-v by omega);have h2:=aeZ (show 0≤2147483648+x by omega) (show 0≤2147483648+v by omega);have h3:=aeZ (show 0≤2147483648-x by omega) (show 0≤2147483648+v by omega);have h4:=aeZ (show 0≤2147483648+x by omega) (show 0≤2147483648-v by omega);rw [Int.sub_mul,Int.mul_sub,Int.mul_sub] at h1;rw [Int.add_mul,Int.mul_add,Int.mul_add] at h2;rw [Int.sub_mul,Int.mul_add,Int.mul_add] at h3;rw [Int.add_mul,Int.mul_sub,Int.mul_sub] at h4;generalize x*v=P at*;omega
theorem jX (x y u v:Int) (hx:-2147483648≤x∧x≤2147483648) (hy:-2147483648≤y∧y≤2147483648) (hu:-2147483648≤u∧u≤2147483648) (hv:-2147483648≤v∧v≤2147483648) (w:World):
  Calls Tryz.prog 153 #[aD x y,aD u v] w (bQ (.bool (decide (y*u≤x*v))) w):=by
 have HB:=aaQ (((acQ w.heap.size w).alloc (aaX _) (.cells #[.int .i64 x,.int .i64 y] 138)).alloc (by simp) (.cells #[.int .i64 u,.int .i64 v] 138));have b1:=SQ hx hv;have b2:=SQ hy hu;have w1:i64.wrap (x*v)=x*v:=IntWalk.i64_in _ (by omega);have w2:i64.wrap (y*u)=y*u:=IntWalk.i64_in _ (by omega);unfold aD;go_enter Tryz.func153,Tryz.ntmps153;go_wp2;go_ret;exact ⟨rfl,HB.out⟩
end
section
open Go.RowKit
theorem aAn (j:Int) (h0:0≤j) (h:j≤2):(16200000-qN (.int .i64 (5400000*j+5400000))).toNat<(16200000-qN (.int .i64 (5400000*j))).toNat:=by
 simp only [qN];omega
theorem meas_lo {L N H:Int} (h1:L<N) (h2:N<H):(qN (.int .i64 N)-qN (.int .i64 L)).toNat<(qN (.int .i64 H)-qN (.int .i64 L)).toNat:=by
 simp only [qN];omega
theorem meas_hi {L N H:Int} (h1:L<N) (h2:N<H):(qN (.int .i64 H)-qN (.int .i64 N)).toNat<(qN (.int .i64 H)-qN (.int .i64 L)).toNat:=by
 simp only [qN];omega
theorem OL (x y:Int) (hx:-2147483648≤x∧x≤2147483648) (hy:-2147483648≤y∧y≤2147483648) (h0:¬(x=0∧y=0)) (w:World):
  Calls Tryz.prog 154 #[aD x y] w (bQ (.tuple #[.int .i64 (iH x y),.bool (oK x y)]) w):=by
 obtain ⟨V,hV⟩:∃V,V=Value.tuple #[.int .i64 (iH x y),.bool (oK x y)]:=⟨_,rfl⟩;rw [←hV];unfold iH oK BQ at hV;have hq:=qr_le x y;have hat:=qr_at x y h0;have hnot:=aaQ (qr_not x y);have hbd:=aaQ (MG x y hx hy);have hbq:=MG x y hx hy (qr x y);have HX:(((gA x y (qr x y)).1.toNat:Nat):Int)=(gA x y (qr x y)).1:=ahX (by omega);have HY:(((gA x y (qr x y)).2.toNat:Nat):Int)=(gA x y (qr x y)).2:=ahX (by omega);have K1:=aaQ (show dQ 138 _ w.heap.size x y from heap_alloc_new w (.cells #[.int .i64 x,.int .i64 y] 138));have HB:=aaQ ((acQ w.heap.size w).alloc (aaX _) (.cells #[.int .i64 x,.int .i64 y] 138));have hR0:=aaQ (show (gA x y 0).1=x∧(gA x y 0).2=y from ⟨rfl,rfl⟩);have hRs:=aaQ (show ∀j,(gA x y (j+1)).1=(gA x y j).2∧(gA x y (j+1)).2=-(gA x y j).1 from fun j=>⟨rfl,rfl⟩);generalize (gA x y (qr x y)).1.toNat=X at*;generalize (gA x y (qr x y)).2.toNat=Y at*;rw [←HX,←HY] at hV hat hbq;generalize qr x y=Q at*;replace HX:=aaQ HX;replace HY:=aaQ HY;replace hV:=aaQ hV;clear hx hy h0;unfold aD;go_enter Tryz.func154,Tryz.ntmps154;go_wp2;go_loopw [4] (fun t wr=>∃j:Nat,j≤Q∧t=.int .i64 (5400000*(j:Int))∧dQ 138 wr w.heap.size (gA x y j).1 (gA x y j).2∧Below w.heap.size w wr) (fun t _=>(16200000-qN t).toNat)
 case atStart=>exact ⟨0,by omega,by simp,K1.out,HB.out⟩
 case round=>
  clear K1 HB;obtain ⟨j,hj,rfl,k1,hb⟩:=hrel;have hbj:=hbd.out j;have l1:=k1.lt;obtain ⟨⟨a0,a1⟩,a2,a3⟩:=aK k1;have HB:=aaQ hb;rcases Nat.lt_or_ge j Q with hlt | hge
  ·have hn:=hnot.out j hlt;have hs:=aaQ (hRs.out j);generalize (gA x y j).1=a at*;generalize (gA x y j).2=b at*;have K2:=aaQ (k1.write b (-a));have HB2:=aaQ ((hb.setCell (p:=⟨w.heap.size,0,none⟩) (aaX _) (.int .i64 b)).setCell (p:=⟨w.heap.size,1,none⟩) (aaX _) (.int .i64 (-a)));clear k1 hb;replace hat:=aaQ hat;replace hbq:=aaQ hbq;obtain ⟨⟨_,_⟩,_,_⟩:=hbj;have hj3:(j:Int)≤2:=by omega
   have hlt:=aaQ hlt;clear hq hj;by_cases ha:0<a
   ·have hb':¬0≤b:=fun h=>hn ⟨ha,h⟩;clear hn;go_wp2;go_roundw
    case rel=>exact ⟨j+1,hlt.out,by go_num,by rw [hs.out.1,hs.out.2];exact K2.out,HB2.out⟩
    case measure=>exact aAn j (by omega) hj3
   ·clear hn;go_wp2;go_roundw
    case rel=>exact ⟨j+1,hlt.out,by go_num,by rw [hs.out.1,hs.out.2];exact K2.out,HB2.out⟩
    case measure=>exact aAn j (by omega) hj3
  ·obtain rfl:j=Q:=by omega
   have hx1:=HX.out;have hy1:=HY.out;generalize (gA x y j).1=a at*;generalize (gA x y j).2=b at*;obtain ⟨g1,g2⟩:=hat;obtain ⟨⟨g3,g4⟩,g5,g6⟩:=hbq;have ha0:0<a:=by omega
   have hb0:0≤b:=by omega
   have ha1:a≤2147483648:=by omega
   have hb1:b≤2147483648:=by omega
   have hXb:X≤2147483648:=by omega
   have hYb:Y≤2147483648:=by omega
   have hq3:(j:Int)≤3:=by omega
   have HRe:Hid (∀k:Nat,k≤5400000→∀w,Calls Tryz.prog 200 #[aD a b,.int .i64 (k:Int)] w (bQ (.bool (eM X Y k)) w)):=aaQ (fun k hk w=>by rw [←hx1,←hy1];exact aAd X Y k hXb hYb hk w);have K1:=aaQ k1;have HXY:=aaQ (And.intro hx1 hy1);clear hq hj hge HX HY hR0 hRs hnot hbd hbj k1 hb g1 g2 g3 g4 g5 g6;have hV2:=hV.out;rw [hx1,hy1] at hV2;clear hV HXY hx1 hy1;generalize hR:rU (eM X Y) 23 0 5400000=R at hV2;replace hV2:=aaQ hV2;have hR:=aaQ hR;go_wp2;go_loopw [5,6] (fun lo hi wr2=>∃n l h:Nat,lo=.int .i64 (l:Int)∧hi=.int .i64 (h:Int)∧l<h∧h≤5400000∧h-l≤2^n∧rU (eM X Y) n l h=R∧dQ 138 wr2 w.heap.size a b∧Below w.heap.size w wr2) (fun lo hi _=>(qN hi-qN lo).toNat)
   case atStart=>exact ⟨23,0,5400000,rfl,rfl,by omega,by omega,by omega,hR.out,K1.out,HB.out⟩
   case round=>
    clear hR K1 HB a0 a1 a2 a3 l1;obtain ⟨n,l,h,rfl,rfl,hlh,hh,hn,hs,k1,hb⟩:=hrel;have l1:=k1.lt;obtain ⟨⟨a0,a1⟩,a2,a3⟩:=aK k1;have K1:=aaQ k1;have HB:=aaQ hb;have hn:=aaQ hn;have hs:=aaQ hs;clear k1 hb;by_cases hc:h-l≤1
    ·have hRl:R=l:=by
      have:=hs.out;cases n with
      | zero=>exact this.symm
      | succ n=>rw [rU,if_pos hc] at this;exact this.symm
     have hc2:(h:Int)-(l:Int)≤1:=by omega
     obtain ⟨L,hL⟩:∃L:Int,L=(l:Int):=⟨_,rfl⟩;obtain ⟨H,hH⟩:∃H:Int,H=(h:Int):=⟨_,rfl⟩;have i1:0≤L:=by omega
     have i3:H-L≤1:=by omega
     have i4:H≤5400000:=by omega
     have i5:L<H:=by omega
     rw [←hL,←hH];replace hL:=aaQ hL;replace hH:=aaQ hH;have hRL:=aaQ (show (R:Int)=L by have:=hL.out;omega);clear hlh hh hc hc2 hn hs;have wj:i64.wrap (5400000*(j:Int))=5400000*(j:Int):=IntWalk.i64_in _ (by omega);have wl:i64.wrap (5400000*(j:Int)+L)=5400000*(j:Int)+L:=IntWalk.i64_in _ (by omega);by_cases z1:L=0
     ·by_cases z2:b=0
      ·have hE:(R==0&&b==0||R==2700000&&a==b)=true:=by (have:R=0:=by (have:=hRL.out;omega));simp [this,z2]
       have HF:=aaQ (show ∀nq,bQ V w (.returned (.tuple #[.int .i64 (5400000*(j:Int)+L),.bool true])) (wr.drewN nq) from fun nq=>⟨by rw [hV2.out,hE,hRl,hL.out],below_drewN HB.out nq⟩);clear hE hRl;go_wp2;go_quiet (fail)
       go_wp2;refine bodyPost_ret (v:=.tuple #[.int .i64 (5400000*(j:Int)+L),.bool true]) (by simp [results,Tryz.results154,go_sem,z1,z2]) rfl (HF.out _)
      ·have hE:(R==0&&b==0||R==2700000&&a==b)=false:=by (have:R=0:=by (have:=hRL.out;omega));simp [this,z2]
       have HF:=aaQ (show ∀nq,bQ V w (.returned (.tuple #[.int .i64 (5400000*(j:Int)+L),.bool false])) (wr.drewN nq) from fun nq=>⟨by rw [hV2.out,hE,hRl,hL.out],below_drewN HB.out nq⟩);clear hE hRl;go_wp2;go_quiet (fail)
       go_wp2;refine bodyPost_ret (v:=.tuple #[.int .i64 (5400000*(j:Int)+L),.bool false]) (by simp [results,Tryz.results154,go_sem,z1,z2]) rfl (HF.out _)
     ·by_cases z2:L=2700000
      ·by_cases z3:a=b
       ·have hE:(R==0&&b==0||R==2700000&&a==b)=true:=by (have:R=2700000:=by (have:=hRL.out;omega));simp [this,z3]
        have HF:=aaQ (show ∀nq,bQ V w (.returned (.tuple #[.int .i64 (5400000*(j:Int)+L),.bool true])) (wr.drewN nq) from fun nq=>⟨by rw [hV2.out,hE,hRl,hL.out],below_drewN HB.out nq⟩);clear hE hRl;go_wp2;go_quiet (fail)
        go_wp2;refine bodyPost_ret (v:=.tuple #[.int .i64 (5400000*(j:Int)+L),.bool true]) (by simp [results,Tryz.results154,go_sem,z2,z3]) rfl (HF.out _)
       ·have hE:(R==0&&b==0||R==2700000&&a==b)=false:=by (have:R=2700000:=by (have:=hRL.out;omega));simp [this,z3]
        have HF:=aaQ (show ∀nq,bQ V w (.returned (.tuple #[.int .i64 (5400000*(j:Int)+L),.bool false])) (wr.drewN nq) from fun nq=>⟨by rw [hV2.out,hE,hRl,hL.out],below_drewN HB.out nq⟩);clear hE hRl;go_wp2;go_quiet (fail)
        go_wp2;refine bodyPost_ret (v:=.tuple #[.int .i64 (5400000*(j:Int)+L),.bool false]) (by simp [results,Tryz.results154,go_sem,z2,z3]) rfl (HF.out _)
      ·have hE:(R==0&&b==0||R==2700000&&a==b)=false:=by (have h1:R≠0:=by (have:=hRL.out;omega));(have h2:R≠2700000:=by (have:=hRL.out;omega));simp [h1,h2]
       have HF:=aaQ (show ∀nq,bQ V w (.returned (.tuple #[.int .i64 (5400000*(j:Int)+L),.bool false])) (wr.drewN nq) from fun nq=>⟨by rw [hV2.out,hE,hRl,hL.out],below_drewN HB.out nq⟩);clear hE hRl;go_wp2;go_quiet (fail)
       go_wp2;refine bodyPost_ret (v:=.tuple #[.int .i64 (5400000*(j:Int)+L),.bool false]) (by simp [results,Tryz.results154,go_sem]) rfl (HF.out _)
    ·obtain ⟨n,rfl⟩:∃n',n=n'+1:=⟨n-1,by
      have:=hn.out;cases n with
      | zero=>simp at this;omega
      | succ n=>omega⟩
     obtain ⟨m,hm,hm1,hm2⟩:∃m,m=(l+h)/2∧l<m∧m<h:=⟨_,rfl,by omega,by omega⟩;have hp:2^(n+1)=2*2^n:=by rw [Nat.pow_succ];omega
     have hmi:((l:Int)+(h:Int))/2=(m:Int):=by omega
     have hmt:i64.wrap (((l:Int)+(h:Int)).tdiv 2)=(m:Int):=by rw [Int.tdiv_eq_ediv_of_nonneg (by omega),hmi];exact IntWalk.i64_in _ (by omega)
     clear hmi;have HM:=aaQ (HRe.out m (by omega));have hs1:=hs.out;rw [rU,if_neg hc,←hm] at hs1;have hn1:m-l≤2^n∧h-m≤2^n:=by have:=hn.out;omega
     have hc2:¬(h:Int)-(l:Int)≤1:=by omega
     generalize eM X Y m=r at*;have HS:=aaQ hs1;have hn1:=aaQ hn1;have hm:=aaQ hm;clear hn hs hs1 hp;unfold aD at HM;obtain ⟨L,hL⟩:∃L:Int,L=(l:Int):=⟨_,rfl⟩;obtain ⟨H,hH⟩:∃H:Int,H=(h:Int):=⟨_,rfl⟩;obtain ⟨N,hN⟩:∃N:Int,N=(m:Int):=⟨_,rfl⟩;have i1:0≤L:=by omega
     have i2:L<N:=by omega
     have i3:N<H:=by omega
     have i4:H≤5400000:=by omega
     have i5:1<H-L:=by omega
     rw [←hL,←hH];rw [←hL,←hH,←hN] at hmt;rw [←hN] at HM;have hF:=aaQ (And.intro hm1 (And.intro hm2 (And.intro hlh hh)));replace hL:=aaQ hL;replace hH:=aaQ hH;replace hN:=aaQ hN;clear hm1 hm2 hlh hh hc hc2;go_wp2_with fail
     refine (HM.out _).mono ?_;rintro e w1 ⟨rfl,hb⟩;have K2:=aaQ (aB hb K1.out);have HB2:=aaQ (HB.out.trans (hb.mono HB.out.size));clear hb;cases r
     ·have HS1:=aaQ (show rU (eM X Y) n l m=R from HS.out);clear HS;go_wp2;go_roundw
      case rel=>exact ⟨n,l,m,congrArg (Value.int .i64) hL.out,congrArg (Value.int .i64) hN.out,hF.out.1,by have:=hF.out;omega,hn1.out.1,HS1.out,K2.out,HB2.out⟩
      case measure=>exact meas_lo i2 i3
     ·have HS1:=aaQ (show rU (eM X Y) n m h=R from HS.out);clear HS;go_wp2;go_roundw
      case rel=>exact ⟨n,m,h,congrArg (Value.int .i64) hN.out,congrArg (Value.int .i64) hH.out,hF.out.2.1,hF.out.2.2.2,hn1.out.2,HS1.out,K2.out,HB2.out⟩
      case measure=>exact meas_hi i2 i3
end
section
open Go.RowKit
def mS (p q:Int×Int):Bool:=decide (p.2*q.1≤p.1*q.2)
def nW (yl yh xl xh:Int):Nat→Int×Int
 | 0=>(xl,yl)
 | 1=>(xl,yh)
 | 2=>(xh,yl)
 | _=>(xh,yh)
def iI (yl yh xl xh:Int):Nat→Int×Int
 | 0=>(xl,yl)
 | j+1=>if mS (nW yl yh xl xh j) (iI yl yh xl xh j) then nW yl yh xl xh j else iI yl yh xl xh j
def iK (yl yh xl xh:Int):Nat→Int×Int
 | 0=>(xl,yl)
 | j+1=>if mS (iK yl yh xl xh j) (nW yl yh xl xh j) then nW yl yh xl xh j else iK yl yh xl xh j
def upE (lo hi:Int) (ex:Bool):Int:=(if hi<lo then hi+21600000 else hi)+(if ex then 0 else 1)
def cM (yl yh xl xh:Int):Bool:=decide (xl≤0∧0≤xh∧yl≤0∧0≤yh)
def aQ (yl yh xl xh:Int):Int×Int×Int:=
 if (aG xl xh&&aG yl yh)=false then (0,0,1)
 else if cM yl yh xl xh then (0,21600000,0)
 else (iH (iI yl yh xl xh 4).1 (iI yl yh xl xh 4).2,upE (iH (iI yl yh xl xh 4).1 (iI yl yh xl xh 4).2) (iH (iK yl yh xl xh 4).1 (iK yl yh xl xh 4).2) (oK (iK yl yh xl xh 4).1 (iK yl yh xl xh 4).2),0)
theorem blk3 (w:World) (a b c:Obj):(((w.alloc a).alloc b).alloc c).heap[w.heap.size]? =some a∧(((w.alloc a).alloc b).alloc c).heap[w.heap.size+ 1]? =some b∧(((w.alloc a).alloc b).alloc c).heap[w.heap.size+1+ 1]? =some c:=by
 refine ⟨?_,?_,?_⟩
 ·rw [anX _ _ _ (by simp;omega),fX]
 ·rw [anX _ _ _ (by simp),dO]
 ·have:=heap_alloc_new ((w.alloc a).alloc b) c;simpa using this
theorem xF (yl yh xl xh:Int) (j:Nat):((nW yl yh xl xh j).1=xl∨(nW yl yh xl xh j).1=xh)∧((nW yl yh xl xh j).2=yl∨(nW yl yh xl xh j).2=yh):=by
 unfold nW;split<;>simp
theorem xJ (yl yh xl xh:Int):∀j,((iI yl yh xl xh j).1=xl∨(iI yl yh xl xh j).1=xh)∧((iI yl yh xl xh j).2=yl∨(iI yl yh xl xh j).2=yh)
 | 0=>by simp [iI]
 | j+1=>by
  unfold iI;split
  ·exact xF _ _ _ _ _
  ·exact xJ yl yh xl xh j
theorem xL (yl yh xl xh:Int):∀j,((iK yl yh xl xh j).1=xl∨(iK yl yh xl xh j).1=xh)∧((iK yl yh xl xh j).2=yl∨(iK yl yh xl xh j).2=yh)
 | 0=>by simp [iK]
 | j+1=>by
  unfold iK;split
  ·exact xF _ _ _ _ _
  ·exact xL yl yh xl xh j
theorem bear_bad (yl yh xl xh:Int) (h:(aG xl xh&&aG yl yh)=false) (w:World):Calls Tryz.prog 90 #[aD yl yh,aD xl xh] w (bQ (aL (0,0,1)) w):=by
 have HX:=aaQ (jG xl xh);have HY:=aaQ (jG yl yh);have b3:=blk3 w (.cells #[.int .i64 yl,.int .i64 yh] 88) (.cells #[.int .i64 xl,.int .i64 xh] 88) (.cells #[.int .i64 0,.int .i64 0] 23);have K2:=aaQ (show dQ 88 _ w.heap.size yl yh from b3.1);have K3:=aaQ (show dQ 88 _ (w.heap.size+1) xl xh from b3.2.1);have K4:=aaQ (show dQ 23 _ (w.heap.size+1+1) 0 0 from b3.2.2);have HB:=aaQ ((((acQ w.heap.size w).alloc (aaX _) (.cells #[.int .i64 yl,.int .i64 yh] 88)).alloc (by simp) (.cells #[.int .i64 xl,.int .i64 xh] 88)).alloc (by simp;omega) (.cells #[.int .i64 0,.int .i64 0] 23));clear b3;cases hx:aG xl xh
 ·rw [hx] at HX;clear h hx HY;unfold aD at HX ⊢;go_enter Tryz.func90,Tryz.ntmps90;go_wp2_with fail
  refine (HX.out _).mono ?_;rintro e w1 ⟨rfl,hb⟩;have k4:=aB hb K4.out;have l4:=k4.lt;obtain ⟨⟨a0,a1⟩,a2,a3⟩:=aK k4;have KF:=k4.write 0 0;obtain ⟨⟨r0,r1⟩,r2,r3⟩:=aK KF;have HF:=aaQ (((HB.out.trans (hb.mono HB.out.size)).setCell (p:=⟨w.heap.size+1+1,0,none⟩) (by simp;omega) (.int .i64 0)).setCell (p:=⟨w.heap.size+1+1,1,none⟩) (by simp;omega) (.int .i64 0));clear hb k4 KF;go_wp2;refine bodyPost_ret (v:=aL (0,0,1)) (by simp [results,Tryz.results90,go_sem,aL,aD,r0,r1]) rfl ⟨rfl,HF.out⟩
 ·have hy:aG yl yh=false:=by rw [hx] at h;simpa using h
  rw [hx] at HX;rw [hy] at HY;clear h hx hy;unfold aD at HX HY ⊢;go_enter Tryz.func90,Tryz.ntmps90;go_wp2_with fail
  refine (HX.out _).mono ?_;rintro e w1 ⟨rfl,hb⟩;have k2:=aB hb K2.out;have l2:=k2.lt;obtain ⟨⟨c0,c1⟩,c2,c3⟩:=aK k2;have K4:=aaQ (aB hb K4.out);have HB:=aaQ (HB.out.trans (hb.mono HB.out.size));clear hb k2;go_wp2_with fail
  refine (HY.out _).mono ?_;rintro e w2 ⟨rfl,hb⟩;have k4:=aB hb K4.out;have l4:=k4.lt;obtain ⟨⟨a0,a1⟩,a2,a3⟩:=aK k4;have KF:=k4.write 0 0;obtain ⟨⟨r0,r1⟩,r2,r3⟩:=aK KF;have HF:=aaQ (((HB.out.trans (hb.mono HB.out.size)).setCell (p:=⟨w.heap.size+1+1,0,none⟩) (by simp;omega) (.int .i64 0)).setCell (p:=⟨w.heap.size+1+1,1,none⟩) (by simp;omega) (.int .i64 0));clear hb k4 KF;go_wp2;refine bodyPost_ret (v:=aL (0,0,1)) (by simp [results,Tryz.results90,go_sem,aL,aD,r0,r1]) rfl ⟨rfl,HF.out⟩
theorem VQ (yl yh xl xh:Int) (hx:aG xl xh=true) (hy:aG yl yh=true) (h:cM yl yh xl xh=true) (w:World):Calls Tryz.prog 90 #[aD yl yh,aD xl xh] w (bQ (aL (0,21600000,0)) w):=by
 have HX:=aaQ (jG xl xh);have HY:=aaQ (jG yl yh);have b3:=blk3 w (.cells #[.int .i64 yl,.int .i64 yh] 88) (.cells #[.int .i64 xl,.int .i64 xh] 88) (.cells #[.int .i64 0,.int .i64 0] 23);have K2:=aaQ (show dQ 88 _ w.heap.size yl yh from b3.1);have K3:=aaQ (show dQ 88 _ (w.heap.size+1) xl xh from b3.2.1);have K4:=aaQ (show dQ 23 _ (w.heap.size+1+1) 0 0 from b3.2.2);have HB:=aaQ ((((acQ w.heap.size w).alloc (aaX _) (.cells #[.int .i64 yl,.int .i64 yh] 88)).alloc (by simp) (.cells #[.int .i64 xl,.int .i64 xh] 88)).alloc (by simp;omega) (.cells #[.int .i64 0,.int .i64 0] 23));clear b3;rw [hx] at HX;rw [hy] at HY;clear hx hy;simp only [cM,decide_eq_true_eq] at h;obtain ⟨h1,h2,h3,h4⟩:=h;unfold aD at HX HY ⊢;go_enter Tryz.func90,Tryz.ntmps90;go_wp2_with fail
 refine (HX.out _).mono ?_;rintro e w1 ⟨rfl,hb⟩;have k2:=aB hb K2.out;have l2:=k2.lt;obtain ⟨⟨c0,c1⟩,c2,c3⟩:=aK k2;have K2:=aaQ k2;have K3:=aaQ (aB hb K3.out);have K4:=aaQ (aB hb K4.out);have HB:=aaQ (HB.out.trans (hb.mono HB.out.size));clear hb k2;go_wp2_with fail
 refine (HY.out _).mono ?_;rintro e w2 ⟨rfl,hb⟩;have k2:=aB hb K2.out;have k3:=aB hb K3.out;have k4:=aB hb K4.out;have l2:=k2.lt;have l3:=k3.lt;have l4:=k4.lt;obtain ⟨⟨d0,d1⟩,d2,d3⟩:=aK k2;obtain ⟨⟨e0,e1⟩,e2,e3⟩:=aK k3;obtain ⟨⟨a0,a1⟩,a2,a3⟩:=aK k4;have KF:=k4.write 0 21600000;obtain ⟨⟨r0,r1⟩,r2,r3⟩:=aK KF;have HF:=aaQ (((HB.out.trans (hb.mono HB.out.size)).setCell (p:=⟨w.heap.size+1+1,0,none⟩) (by simp;omega) (.int .i64 0)).setCell (p:=⟨w.heap.size+1+1,1,none⟩) (by simp;omega) (.int .i64 21600000));clear hb k2 k3 k4 KF;go_wp2;refine bodyPost_ret (v:=aL (0,21600000,0)) (by simp [results,Tryz.results90,go_sem,aL,aD,r0,r1]) rfl ⟨rfl,HF.out⟩
end
section
open Go.RowKit
theorem keep8 {w:World} {b:Nat} {t:TypeId} {v0 v1 v2 v3 v4 v5 v6 v7:Value} (h:w.heap[b]? =some (.cells #[v0,v1,v2,v3,v4,v5,v6,v7] t (0,0))):
  (w.cell? ⟨b,0,none⟩=some v0∧w.cell? ⟨b,1,none⟩=some v1∧w.cell? ⟨b,2,none⟩=some v2∧w.cell? ⟨b,3,none⟩=some v3∧w.cell? ⟨b,4,none⟩=some v4∧w.cell? ⟨b,5,none⟩=some v5∧w.cell? ⟨b,6,none⟩=some v6∧w.cell? ⟨b,7,none⟩=some v7):=by
 refine ⟨?_,?_,?_,?_,?_,?_,?_,?_⟩<;>simp [World.cell?,h]
theorem idx0 (a b c d e f g h:Int) (w:World):(Instr.index 139 (.agg #[.int .i64 a,.int .i64 b,.int .i64 c,.int .i64 d,.int .i64 e,.int .i64 f,.int .i64 g,.int .i64 h]) (.int .i64 0)).run Tryz.prog w=.ok (.agg #[.int .i64 a,.int .i64 b]) w:=by
 have u:=Tryz.underlying138;have a3:=Tryz.isAgg138;have z3:=Tryz.sizeOf138;simp [Instr.index,run_underlying Tryz.underlying139,asIntOf,go_sem]
theorem idx1 (a b c d e f g h:Int) (w:World):(Instr.index 139 (.agg #[.int .i64 a,.int .i64 b,.int .i64 c,.int .i64 d,.int .i64 e,.int .i64 f,.int .i64 g,.int .i64 h]) (.int .i64 1)).run Tryz.prog w=.ok (.agg #[.int .i64 c,.int .i64 d]) w:=by
 have u:=Tryz.underlying138;have a3:=Tryz.isAgg138;have z3:=Tryz.sizeOf138;simp [Instr.index,run_underlying Tryz.underlying139,asIntOf,go_sem]
theorem idx2 (a b c d e f g h:Int) (w:World):(Instr.index 139 (.agg #[.int .i64 a,.int .i64 b,.int .i64 c,.int .i64 d,.int .i64 e,.int .i64 f,.int .i64 g,.int .i64 h]) (.int .i64 2)).run Tryz.prog w=.ok (.agg #[.int .i64 e,.int .i64 f]) w:=by
 have u:=Tryz.underlying138;have a3:=Tryz.isAgg138;have z3:=Tryz.sizeOf138;simp [Instr.index,run_underlying Tryz.underlying139,asIntOf,go_sem]
theorem idx3 (a b c d e f g h:Int) (w:World):(Instr.index 139 (.agg #[.int .i64 a,.int .i64 b,.int .i64 c,.int .i64 d,.int .i64 e,.int .i64 f,.int .i64 g,.int .i64 h]) (.int .i64 3)).run Tryz.prog w=.ok (.agg #[.int .i64 g,.int .i64 h]) w:=by
 have u:=Tryz.underlying138;have a3:=Tryz.isAgg138;have z3:=Tryz.sizeOf138;simp [Instr.index,run_underlying Tryz.underlying139,asIntOf,go_sem]
theorem UG (f:Nat→Bool):∀n l h:Nat,l≤h→l≤rU f n l h∧rU f n l h≤h
 | 0,l,h,hl=>⟨aaX _,hl⟩
 | n+1,l,h,hl=>by
  unfold rU;split
  ·exact ⟨aaX _,hl⟩
  ·split
   ·have:=UG f n ((l+h)/2) h (by omega);omega
   ·have:=UG f n l ((l+h)/2) (by omega);omega
theorem GY (x y:Int):0≤iH x y∧iH x y≤21600000:=by
 have h:=qr_le x y;have h2:=UG (eM (gA x y (qr x y)).1.toNat (gA x y (qr x y)).2.toNat) 23 0 5400000 (by omega);unfold iH BQ;omega
theorem bear_main (yl yh xl xh:Int) (hx:aG xl xh=true) (hy:aG yl yh=true) (h:cM yl yh xl xh=false) (w:World):
  Calls Tryz.prog 90 #[aD yl yh,aD xl xh] w (bQ (aL (iH (iI yl yh xl xh 4).1 (iI yl yh xl xh 4).2,upE (iH (iI yl yh xl xh 4).1 (iI yl yh xl xh 4).2) (iH (iK yl yh xl xh 4).1 (iK yl yh xl xh 4).2) (oK (iK yl yh xl xh 4).1 (iK yl yh xl xh 4).2),0)) w):=by
 obtain ⟨V,hV⟩:∃V,V=aL (iH (iI yl yh xl xh 4).1 (iI yl yh xl xh 4).2,upE (iH (iI yl yh xl xh 4).1 (iI yl yh xl xh 4).2) (iH (iK yl yh xl xh 4).1 (iK yl yh xl xh 4).2) (oK (iK yl yh xl xh 4).1 (iK yl yh xl xh 4).2),0):=⟨_,rfl⟩;rw [←hV];have HX:=aaQ (jG xl xh);have HY:=aaQ (jG yl yh);rw [hx] at HX;rw [hy] at HY;simp only [aG,decide_eq_true_eq] at hx hy;obtain ⟨x1,x2,x3⟩:=hx;obtain ⟨y1,y2,y3⟩:=hy;have ho:¬(xl≤0∧0≤xh∧yl≤0∧0≤yh):=by simpa [cM] using h
 clear h;have b3:=blk3 w (.cells #[.int .i64 yl,.int .i64 yh] 88) (.cells #[.int .i64 xl,.int .i64 xh] 88) (.cells #[.int .i64 0,.int .i64 0] 23);have K2:=aaQ (show dQ 88 _ w.heap.size yl yh from b3.1);have K3:=aaQ (show dQ 88 _ (w.heap.size+1) xl xh from b3.2.1);have K4:=aaQ (show dQ 23 _ (w.heap.size+1+1) 0 0 from b3.2.2);have HB:=aaQ ((((acQ w.heap.size w).alloc (aaX _) (.cells #[.int .i64 yl,.int .i64 yh] 88)).alloc (by simp) (.cells #[.int .i64 xl,.int .i64 xh] 88)).alloc (by simp;omega) (.cells #[.int .i64 0,.int .i64 0] 23));clear b3;have HO:=aaQ ho;replace hV:=aaQ hV;clear ho;unfold aD at HX HY ⊢;go_enter Tryz.func90,Tryz.ntmps90;go_wp2_with fail
 refine (HX.out _).mono ?_;rintro e w1 ⟨rfl,hb⟩;have k2:=aB hb K2.out;have l2:=k2.lt;obtain ⟨⟨c0,c1⟩,c2,c3⟩:=aK k2;have K2:=aaQ k2;have K3:=aaQ (aB hb K3.out);have K4:=aaQ (aB hb K4.out);have HB:=aaQ (HB.out.trans (hb.mono HB.out.size));clear hb k2;go_wp2_with fail
 refine (HY.out _).mono ?_;rintro e w2 ⟨rfl,hb⟩;have k2:=aB hb K2.out;have k3:=aB hb K3.out;have k4:=aB hb K4.out;have l2:=k2.lt;have l3:=k3.lt;have l4:=k4.lt;obtain ⟨⟨d0,d1⟩,d2,d3⟩:=aK k2;obtain ⟨⟨e0,e1⟩,e2,e3⟩:=aK k3;have K4:=aaQ k4;have HB:=aaQ (HB.out.trans (hb.mono HB.out.size));clear hb k2 k3 k4 HX HY K2 K3;go_upto_region 3 with fail
 go_cut [41] from 24 to 41 (fun c wx=>c=.bool false∧wx=w2)
 case first=>
  by_cases z1:xl≤0
  ·by_cases z2:0≤xh
   ·by_cases z3:yl≤0
    ·have z4:¬0≤yh:=fun h=>HO.out ⟨z1,z2,z3,h⟩;go_wp2_with fail
     go_meet
     exact ⟨by simp,rfl⟩
    ·go_wp2_with fail
     go_meet
     exact ⟨by simp,rfl⟩
   ·go_wp2_with fail
    go_meet
    exact ⟨by simp,rfl⟩
  ·go_wp2_with fail
   go_meet
   exact ⟨by simp,rfl⟩
 case rest=>
  obtain ⟨rfl,rfl⟩:=hcut;generalize wc=wd at*;have hs2:=HB.out.size;have HI:∀p7 p8 b7 b8,(p7=Value.pointer (some ⟨b7,0,none⟩)∧p8=Value.pointer (some ⟨b8,0,none⟩))→((b7=wd.heap.size+1∧b8=wd.heap.size+1+1)∨(b8=wd.heap.size+1∧b7=wd.heap.size+1+1))→
   ∃c7 c8:Nat,p7=Value.pointer (some ⟨c7,0,none⟩)∧p8=Value.pointer (some ⟨c8,0,none⟩)∧c7≠c8∧w.heap.size+1+1<c7∧w.heap.size+1+1<c8∧wd.heap.size<c7∧wd.heap.size<c8∧dQ 138 (((wd.alloc (.cells #[.int .i64 xl,.int .i64 yl,.int .i64 xl,.int .i64 yh,.int .i64 xh,.int .i64 yl,.int .i64 xh,.int .i64 yh] 139)).alloc (.cells #[.int .i64 xl,.int .i64 yl] 138)).alloc (.cells #[.int .i64 xl,.int .i64 yl] 138)).drew c7 xl yl∧dQ 138 (((wd.alloc (.cells #[.int .i64 xl,.int .i64 yl,.int .i64 xl,.int .i64 yh,.int .i64 xh,.int .i64 yl,.int .i64 xh,.int .i64 yh] 139)).alloc (.cells #[.int .i64 xl,.int .i64 yl] 138)).alloc (.cells #[.int .i64 xl,.int .i64 yl] 138)).drew c8 xl yl∧dQ 23 (((wd.alloc (.cells #[.int .i64 xl,.int .i64 yl,.int .i64 xl,.int .i64 yh,.int .i64 xh,.int .i64 yl,.int .i64 xh,.int .i64 yh] 139)).alloc (.cells #[.int .i64 xl,.int .i64 yl] 138)).alloc (.cells #[.int .i64 xl,.int .i64 yl] 138)).drew (w.heap.size+1+1) 0 0∧(((wd.alloc (.cells #[.int .i64 xl,.int .i64 yl,.int .i64 xl,.int .i64 yh,.int .i64 xh,.int .i64 yl,.int .i64 xh,.int .i64 yh] 139)).alloc (.cells #[.int .i64 xl,.int .i64 yl] 138)).alloc (.cells #[.int .i64 xl,.int .i64 yl] 138)).drew.heap[wd.heap.size]? =some (.cells #[.int .i64 xl,.int .i64 yl,.int .i64 xl,.int .i64 yh,.int .i64 xh,.int .i64 yl,.int .i64 xh,.int .i64 yh] 139 (0,0))∧Below w.heap.size w (((wd.alloc (.cells #[.int .i64 xl,.int .i64 yl,.int .i64 xl,.int .i64 yh,.int .i64 xh,.int .i64 yl,.int .i64 xh,.int .i64 yh] 139)).alloc (.cells #[.int .i64 xl,.int .i64 yl] 138)).alloc (.cells #[.int .i64 xl,.int .i64 yl] 138)).drew:=by
   intro p7 p8 b7 b8 ⟨e7,e8⟩ hb;have l4':=K4.out.lt;have b3:=blk3 wd (.cells #[.int .i64 xl,.int .i64 yl,.int .i64 xl,.int .i64 yh,.int .i64 xh,.int .i64 yl,.int .i64 xh,.int .i64 yh] 139) (.cells #[.int .i64 xl,.int .i64 yl] 138) (.cells #[.int .i64 xl,.int .i64 yl] 138);have k4:=((K4.out.alloc (.cells #[.int .i64 xl,.int .i64 yl,.int .i64 xl,.int .i64 yh,.int .i64 xh,.int .i64 yl,.int .i64 xh,.int .i64 yh] 139)).alloc (.cells #[.int .i64 xl,.int .i64 yl] 138)).alloc (.cells #[.int .i64 xl,.int .i64 yl] 138);have hB:=((HB.out.alloc (by omega) (.cells #[.int .i64 xl,.int .i64 yl,.int .i64 xl,.int .i64 yh,.int .i64 xh,.int .i64 yl,.int .i64 xh,.int .i64 yh] 139)).alloc (by simp;omega) (.cells #[.int .i64 xl,.int .i64 yl] 138)).alloc (by simp;omega) (.cells #[.int .i64 xl,.int .i64 yl] 138);rcases hb with ⟨h7,h8⟩ | ⟨h8,h7⟩
   ·exact ⟨b7,b8,e7,e8,by omega,by omega,by omega,by omega,by omega,by rw [h7];exact b3.2.1,by rw [h8];exact b3.2.2,k4,b3.1,hB.drew⟩
   ·exact ⟨b7,b8,e7,e8,by omega,by omega,by omega,by omega,by omega,by rw [h7];exact b3.2.2,by rw [h8];exact b3.2.1,k4,b3.1,hB.drew⟩
  have HI:=aaQ HI;go_upto_region 6 with fail
  go_cut [7,8] from 64 to 67 (fun p7 p8 wx=>∃c7 c8:Nat,p7=Value.pointer (some ⟨c7,0,none⟩)∧p8=Value.pointer (some ⟨c8,0,none⟩)∧c7≠c8∧w.heap.size+1+1<c7∧w.heap.size+1+1<c8∧wd.heap.size<c7∧wd.heap.size<c8∧dQ 138 wx c7 xl yl∧dQ 138 wx c8 xl yl∧dQ 23 wx (w.heap.size+1+1) 0 0∧wx.heap[wd.heap.size]? =some (.cells #[.int .i64 xl,.int .i64 yl,.int .i64 xl,.int .i64 yh,.int .i64 xh,.int .i64 yl,.int .i64 xh,.int .i64 yh] 139 (0,0))∧Below w.heap.size w wx)
  case first=>
   go_region_with fail
   all_goals (
    go_wp2_with fail
    go_meet
    first
     | exact HI.out _ _ _ _ ⟨rfl,rfl⟩ (.inl ⟨rfl,rfl⟩)
     | exact HI.out _ _ _ _ ⟨rfl,rfl⟩ (.inr ⟨rfl,rfl⟩))
  case rest=>
   obtain ⟨b7,b8,rfl,rfl,h78,h7,h8,h9,h10,kF,kL,kR,kA,hb⟩:=hcut;clear HI;obtain ⟨a0,a1,a2,a3,a4,a5,a6,a7⟩:=keep8 kA;have lA:=(Array.getElem?_eq_some_iff.1 kA).1;have KF:=aaQ kF;have KL:=aaQ kL;have KR:=aaQ kR;have HBc:=aaQ hb;clear kF kL kR kA hb K4 HB hs2;go_wp2;go_loopw [69] (fun t wr=>∃j:Nat,j≤4∧t=.int .i64 (j:Int)∧dQ 138 wr b7 (iI yl yh xl xh j).1 (iI yl yh xl xh j).2∧dQ 138 wr b8 (iK yl yh xl xh j).1 (iK yl yh xl xh j).2∧dQ 23 wr (w.heap.size+1+1) 0 0∧Below w.heap.size w wr) (fun t _=>(4-qN t).toNat)
   case atStart=>exact ⟨0,by omega,rfl,KF.out,KL.out,KR.out,HBc.out⟩
   case round=>
    clear KF KL KR HBc a0 a1 a2 a3 a4 a5 a6 a7 lA;obtain ⟨j,hj,rfl,kF,kL,kR,hb⟩:=hrel;have lF:=kF.lt;have lL:=kL.lt;rcases (show j=0∨j=1∨j=2∨j=3∨j=4 by omega) with rfl | rfl | rfl | rfl | rfl
    ·have hj:True:=trivial;have XJ:=idx0 xl yl xl yh xh yl xh yh;have hf1:iI yl yh xl xh (0+1)=if mS (xl,yl) (iI yl yh xl xh 0) then (xl,yl) else iI yl yh xl xh 0:=rfl
     have hl1:iK yl yh xl xh (0+1)=if mS (iK yl yh xl xh 0) (xl,yl) then (xl,yl) else iK yl yh xl xh 0:=rfl
     have hm:=xJ yl yh xl xh 0;have hn:=xL yl yh xl xh 0;generalize iI yl yh xl xh 0=F at*;generalize iK yl yh xl xh 0=L at*;obtain ⟨fa,fb⟩:=F;obtain ⟨la,lb⟩:=L;simp only at kF kL hm hn;have g1:-2147483648≤fa∧fa≤2147483648:=by omega
     have g2:-2147483648≤fb∧fb≤2147483648:=by omega
     have g3:-2147483648≤la∧la≤2147483648:=by omega
     have g4:-2147483648≤lb∧lb≤2147483648:=by omega
     have H1:=aaQ (jX xl yl fa fb (by omega) (by omega) g1 g2);have H2:=aaQ (jX la lb xl yl g3 g4 (by omega) (by omega));change Hid (∀w,Calls Tryz.prog 153 #[aD xl yl,aD fa fb] w (bQ (.bool (mS (xl,yl) (fa,fb))) w)) at H1;change Hid (∀w,Calls Tryz.prog 153 #[aD la lb,aD xl yl] w (bQ (.bool (mS (la,lb) (xl,yl))) w)) at H2;generalize mS (xl,yl) (fa,fb)=B1 at*;generalize mS (la,lb) (xl,yl)=B2 at*;have hf1:=aaQ hf1;have hl1:=aaQ hl1;clear hm hn g1 g2 g3 g4;have lF:=kF.lt;have lL:=kL.lt;obtain ⟨⟨p0,p1⟩,p2,p3⟩:=aK kF;obtain ⟨⟨q0,q1⟩,q2,q3⟩:=aK kL;have KF:=aaQ (kF.alloc (.cells #[.int .i64 xl,.int .i64 yl] 138));have KL:=aaQ (kL.alloc (.cells #[.int .i64 xl,.int .i64 yl] 138));have KR:=aaQ (kR.alloc (.cells #[.int .i64 xl,.int .i64 yl] 138));have KC:=aaQ (show dQ 138 _ wr.heap.size xl yl from heap_alloc_new wr (.cells #[.int .i64 xl,.int .i64 yl] 138));have HB:=aaQ (hb.alloc (by have:=hb.size;omega) (.cells #[.int .i64 xl,.int .i64 yl] 138));have hc7:b7≠wr.heap.size:=by omega
     have hc8:b8≠wr.heap.size:=by omega
     clear kF kL kR hb hj;unfold aD at H1 H2;go_wp2_with fail
     refine (H1.out _).mono ?_;rintro e w3 ⟨rfl,hb⟩;have kF:=aB hb KF.out;have kL:=aB hb KL.out;have kC:=aB hb KC.out;have KR:=aaQ (aB hb KR.out);have HB:=aaQ (HB.out.trans (hb.mono HB.out.size));clear hb KF KL KC p0 p1 p2 p3 q0 q1 q2 q3;have lC:=kC.lt;have lF:=kF.lt;have lL:=kL.lt;obtain ⟨⟨p0,p1⟩,p2,p3⟩:=aK kF;obtain ⟨⟨q0,q1⟩,q2,q3⟩:=aK kL;obtain ⟨⟨s0,s1⟩,s2,s3⟩:=aK kC;cases B1
     ·have hz:True:=trivial;go_wp2_with fail
      refine (H2.out _).mono ?_;rintro e w4 ⟨rfl,hb⟩;have kF:=aB hb kF;have kL:=aB hb kL;have kC:=aB hb kC;have KR:=aaQ (aB hb KR.out);have HB:=aaQ (HB.out.trans (hb.mono HB.out.size));have lC:=kC.lt;have lF:=kF.lt;have lL:=kL.lt;obtain ⟨⟨p0,p1⟩,p2,p3⟩:=aK kF;obtain ⟨⟨q0,q1⟩,q2,q3⟩:=aK kL;obtain ⟨⟨s0,s1⟩,s2,s3⟩:=aK kC;clear hb;cases B2
      ·have KF:=aaQ kF;have KL:=aaQ kL;clear kF kL kC;go_wp2;go_roundw
       case rel=>exact ⟨1,by omega,rfl,by rw [hf1.out];exact KF.out,by rw [hl1.out];exact KL.out,KR.out,HB.out⟩
       case measure=>decide
      ·have KF:=aaQ (kF.other h78 (.int .i64 xl) (.int .i64 yl));have KL:=aaQ (kL.write xl yl);have KR:=aaQ (KR.out.other (b':=b8) (by omega) (.int .i64 xl) (.int .i64 yl));have HB:=aaQ ((HB.out.setCell (p:=⟨b8,0,none⟩) (by simp;omega) (.int .i64 xl)).setCell (p:=⟨b8,1,none⟩) (by simp;omega) (.int .i64 yl));clear kF kL kC;go_wp2;go_roundw
       case rel=>exact ⟨1,by omega,rfl,by rw [hf1.out];exact KF.out,by rw [hl1.out];exact KL.out,KR.out,HB.out⟩
       case measure=>decide
     ·have kF:=kF.write xl yl;have kL:=kL.other (b':=b7) h78.symm (.int .i64 xl) (.int .i64 yl);have kC:=kC.other (b':=b7) hc7.symm (.int .i64 xl) (.int .i64 yl);have KR:=aaQ (KR.out.other (b':=b7) (by omega) (.int .i64 xl) (.int .i64 yl));have HB:=aaQ ((HB.out.setCell (p:=⟨b7,0,none⟩) (by simp;omega) (.int .i64 xl)).setCell (p:=⟨b7,1,none⟩) (by simp;omega) (.int .i64 yl));have lF:=kF.lt;have lL:=kL.lt;have lC:=kC.lt;obtain ⟨⟨i0,i1⟩,i2,i3⟩:=aK kF;obtain ⟨⟨m0,m1⟩,m2,m3⟩:=aK kL;obtain ⟨⟨n0,n1⟩,n2,n3⟩:=aK kC;go_wp2_with fail
      generalize (w3.setCell ⟨b7,0,none⟩ (.int .i64 xl)).setCell ⟨b7,1,none⟩ (.int .i64 yl)=w3 at*;refine (H2.out _).mono ?_;rintro e w4 ⟨rfl,hb⟩;have kF:=aB hb kF;have kL:=aB hb kL;have kC:=aB hb kC;have KR:=aaQ (aB hb KR.out);have HB:=aaQ (HB.out.trans (hb.mono HB.out.size));have lC:=kC.lt;have lF:=kF.lt;have lL:=kL.lt;obtain ⟨⟨p0,p1⟩,p2,p3⟩:=aK kF;obtain ⟨⟨q0,q1⟩,q2,q3⟩:=aK kL;obtain ⟨⟨s0,s1⟩,s2,s3⟩:=aK kC;clear hb;cases B2
      ·have KF:=aaQ kF;have KL:=aaQ kL;clear kF kL kC;go_wp2;go_roundw
       case rel=>exact ⟨1,by omega,rfl,by rw [hf1.out];exact KF.out,by rw [hl1.out];exact KL.out,KR.out,HB.out⟩
       case measure=>decide
      ·have KF:=aaQ (kF.other h78 (.int .i64 xl) (.int .i64 yl));have KL:=aaQ (kL.write xl yl);have KR:=aaQ (KR.out.other (b':=b8) (by omega) (.int .i64 xl) (.int .i64 yl));have HB:=aaQ ((HB.out.setCell (p:=⟨b8,0,none⟩) (by simp;omega) (.int .i64 xl)).setCell (p:=⟨b8,1,none⟩) (by simp;omega) (.int .i64 yl));clear kF kL kC;go_wp2;go_roundw
       case rel=>exact ⟨1,by omega,rfl,by rw [hf1.out];exact KF.out,by rw [hl1.out];exact KL.out,KR.out,HB.out⟩
       case measure=>decide
    ·have hj:True:=trivial;have XJ:=idx1 xl yl xl yh xh yl xh yh;have hf1:iI yl yh xl xh (1+1)=if mS (xl,yh) (iI yl yh xl xh 1) then (xl,yh) else iI yl yh xl xh 1:=rfl
     have hl1:iK yl yh xl xh (1+1)=if mS (iK yl yh xl xh 1) (xl,yh) then (xl,yh) else iK yl yh xl xh 1:=rfl
     have hm:=xJ yl yh xl xh 1;have hn:=xL yl yh xl xh 1;generalize iI yl yh xl xh 1=F at*;generalize iK yl yh xl xh 1=L at*;obtain ⟨fa,fb⟩:=F;obtain ⟨la,lb⟩:=L;simp only at kF kL hm hn;have g1:-2147483648≤fa∧fa≤2147483648:=by omega
     have g2:-2147483648≤fb∧fb≤2147483648:=by omega
     have g3:-2147483648≤la∧la≤2147483648:=by omega
     have g4:-2147483648≤lb∧lb≤2147483648:=by omega
     have H1:=aaQ (jX xl yh fa fb (by omega) (by omega) g1 g2);have H2:=aaQ (jX la lb xl yh g3 g4 (by omega) (by omega));change Hid (∀w,Calls Tryz.prog 153 #[aD xl yh,aD fa fb] w (bQ (.bool (mS (xl,yh) (fa,fb))) w)) at H1;change Hid (∀w,Calls Tryz.prog 153 #[aD la lb,aD xl yh] w (bQ (.bool (mS (la,lb) (xl,yh))) w)) at H2;generalize mS (xl,yh) (fa,fb)=B1 at*;generalize mS (la,lb) (xl,yh)=B2 at*;have hf1:=aaQ hf1;have hl1:=aaQ hl1;clear hm hn g1 g2 g3 g4;have lF:=kF.lt;have lL:=kL.lt;obtain ⟨⟨p0,p1⟩,p2,p3⟩:=aK kF;obtain ⟨⟨q0,q1⟩,q2,q3⟩:=aK kL;have KF:=aaQ (kF.alloc (.cells #[.int .i64 xl,.int .i64 yh] 138));have KL:=aaQ (kL.alloc (.cells #[.int .i64 xl,.int .i64 yh] 138));have KR:=aaQ (kR.alloc (.cells #[.int .i64 xl,.int .i64 yh] 138));have KC:=aaQ (show dQ 138 _ wr.heap.size xl yh from heap_alloc_new wr (.cells #[.int .i64 xl,.int .i64 yh] 138));have HB:=aaQ (hb.alloc (by have:=hb.size;omega) (.cells #[.int .i64 xl,.int .i64 yh] 138));have hc7:b7≠wr.heap.size:=by omega
     have hc8:b8≠wr.heap.size:=by omega
     clear kF kL kR hb hj;unfold aD at H1 H2;go_wp2_with fail
     refine (H1.out _).mono ?_;rintro e w3 ⟨rfl,hb⟩;have kF:=aB hb KF.out;have kL:=aB hb KL.out;have kC:=aB hb KC.out;have KR:=aaQ (aB hb KR.out);have HB:=aaQ (HB.out.trans (hb.mono HB.out.size));clear hb KF KL KC p0 p1 p2 p3 q0 q1 q2 q3;have lC:=kC.lt;have lF:=kF.lt;have lL:=kL.lt;obtain ⟨⟨p0,p1⟩,p2,p3⟩:=aK kF;obtain ⟨⟨q0,q1⟩,q2,q3⟩:=aK kL;obtain ⟨⟨s0,s1⟩,s2,s3⟩:=aK kC;cases B1
     ·have hz:True:=trivial;go_wp2_with fail
      refine (H2.out _).mono ?_;rintro e w4 ⟨rfl,hb⟩;have kF:=aB hb kF;have kL:=aB hb kL;have kC:=aB hb kC;have KR:=aaQ (aB hb KR.out);have HB:=aaQ (HB.out.trans (hb.mono HB.out.size));have lC:=kC.lt;have lF:=kF.lt;have lL:=kL.lt;obtain ⟨⟨p0,p1⟩,p2,p3⟩:=aK kF;obtain ⟨⟨q0,q1⟩,q2,q3⟩:=aK kL;obtain ⟨⟨s0,s1⟩,s2,s3⟩:=aK kC;clear hb;cases B2
      ·have KF:=aaQ kF;have KL:=aaQ kL;clear kF kL kC;go_wp2;go_roundw
       case rel=>exact ⟨2,by omega,rfl,by rw [hf1.out];exact KF.out,by rw [hl1.out];exact KL.out,KR.out,HB.out⟩
       case measure=>decide
      ·have KF:=aaQ (kF.other h78 (.int .i64 xl) (.int .i64 yh));have KL:=aaQ (kL.write xl yh);have KR:=aaQ (KR.out.other (b':=b8) (by omega) (.int .i64 xl) (.int .i64 yh));have HB:=aaQ ((HB.out.setCell (p:=⟨b8,0,none⟩) (by simp;omega) (.int .i64 xl)).setCell (p:=⟨b8,1,none⟩) (by simp;omega) (.int .i64 yh));clear kF kL kC;go_wp2;go_roundw
       case rel=>exact ⟨2,by omega,rfl,by rw [hf1.out];exact KF.out,by rw [hl1.out];exact KL.out,KR.out,HB.out⟩
       case measure=>decide
     ·have kF:=kF.write xl yh;have kL:=kL.other (b':=b7) h78.symm (.int .i64 xl) (.int .i64 yh);have kC:=kC.other (b':=b7) hc7.symm (.int .i64 xl) (.int .i64 yh);have KR:=aaQ (KR.out.other (b':=b7) (by omega) (.int .i64 xl) (.int .i64 yh));have HB:=aaQ ((HB.out.setCell (p:=⟨b7,0,none⟩) (by simp;omega) (.int .i64 xl)).setCell (p:=⟨b7,1,none⟩) (by simp;omega) (.int .i64 yh));have lF:=kF.lt;have lL:=kL.lt;have lC:=kC.lt;obtain ⟨⟨i0,i1⟩,i2,i3⟩:=aK kF;obtain ⟨⟨m0,m1⟩,m2,m3⟩:=aK kL;obtain ⟨⟨n0,n1⟩,n2,n3⟩:=aK kC;go_wp2_with fail
      generalize (w3.setCell ⟨b7,0,none⟩ (.int .i64 xl)).setCell ⟨b7,1,none⟩ (.int .i64 yh)=w3 at*;refine (H2.out _).mono ?_;rintro e w4 ⟨rfl,hb⟩;have kF:=aB hb kF;have kL:=aB hb kL;have kC:=aB hb kC;have KR:=aaQ (aB hb KR.out);have HB:=aaQ (HB.out.trans (hb.mono HB.out.size));have lC:=kC.lt;have lF:=kF.lt;have lL:=kL.lt;obtain ⟨⟨p0,p1⟩,p2,p3⟩:=aK kF;obtain ⟨⟨q0,q1⟩,q2,q3⟩:=aK kL;obtain ⟨⟨s0,s1⟩,s2,s3⟩:=aK kC;clear hb;cases B2
      ·have KF:=aaQ kF;have KL:=aaQ kL;clear kF kL kC;go_wp2;go_roundw
       case rel=>exact ⟨2,by omega,rfl,by rw [hf1.out];exact KF.out,by rw [hl1.out];exact KL.out,KR.out,HB.out⟩
       case measure=>decide
      ·have KF:=aaQ (kF.other h78 (.int .i64 xl) (.int .i64 yh));have KL:=aaQ (kL.write xl yh);have KR:=aaQ (KR.out.other (b':=b8) (by omega) (.int .i64 xl) (.int .i64 yh));have HB:=aaQ ((HB.out.setCell (p:=⟨b8,0,none⟩) (by simp;omega) (.int .i64 xl)).setCell (p:=⟨b8,1,none⟩) (by simp;omega) (.int .i64 yh));clear kF kL kC;go_wp2;go_roundw
       case rel=>exact ⟨2,by omega,rfl,by rw [hf1.out];exact KF.out,by rw [hl1.out];exact KL.out,KR.out,HB.out⟩
       case measure=>decide
    ·have hj:True:=trivial;have XJ:=idx2 xl yl xl yh xh yl xh yh;have hf1:iI yl yh xl xh (2+1)=if mS (xh,yl) (iI yl yh xl xh 2) then (xh,yl) else iI yl yh xl xh 2:=rfl
     have hl1:iK yl yh xl xh (2+1)=if mS (iK yl yh xl xh 2) (xh,yl) then (xh,yl) else iK yl yh xl xh 2:=rfl
     have hm:=xJ yl yh xl xh 2;have hn:=xL yl yh xl xh 2;generalize iI yl yh xl xh 2=F at*;generalize iK yl yh xl xh 2=L at*;obtain ⟨fa,fb⟩:=F;obtain ⟨la,lb⟩:=L;simp only at kF kL hm hn;have g1:-2147483648≤fa∧fa≤2147483648:=by omega
     have g2:-2147483648≤fb∧fb≤2147483648:=by omega
     have g3:-2147483648≤la∧la≤2147483648:=by omega
     have g4:-2147483648≤lb∧lb≤2147483648:=by omega
     have H1:=aaQ (jX xh yl fa fb (by omega) (by omega) g1 g2);have H2:=aaQ (jX la lb xh yl g3 g4 (by omega) (by omega));change Hid (∀w,Calls Tryz.prog 153 #[aD xh yl,aD fa fb] w (bQ (.bool (mS (xh,yl) (fa,fb))) w)) at H1;change Hid (∀w,Calls Tryz.prog 153 #[aD la lb,aD xh yl] w (bQ (.bool (mS (la,lb) (xh,yl))) w)) at H2;generalize mS (xh,yl) (fa,fb)=B1 at*;generalize mS (la,lb) (xh,yl)=B2 at*;have hf1:=aaQ hf1;have hl1:=aaQ hl1;clear hm hn g1 g2 g3 g4;have lF:=kF.lt;have lL:=kL.lt;obtain ⟨⟨p0,p1⟩,p2,p3⟩:=aK kF;obtain ⟨⟨q0,q1⟩,q2,q3⟩:=aK kL;have KF:=aaQ (kF.alloc (.cells #[.int .i64 xh,.int .i64 yl] 138));have KL:=aaQ (kL.alloc (.cells #[.int .i64 xh,.int .i64 yl] 138));have KR:=aaQ (kR.alloc (.cells #[.int .i64 xh,.int .i64 yl] 138));have KC:=aaQ (show dQ 138 _ wr.heap.size xh yl from heap_alloc_new wr (.cells #[.int .i64 xh,.int .i64 yl] 138));have HB:=aaQ (hb.alloc (by have:=hb.size;omega) (.cells #[.int .i64 xh,.int .i64 yl] 138));have hc7:b7≠wr.heap.size:=by omega
     have hc8:b8≠wr.heap.size:=by omega
     clear kF kL kR hb hj;unfold aD at H1 H2;go_wp2_with fail
     refine (H1.out _).mono ?_;rintro e w3 ⟨rfl,hb⟩;have kF:=aB hb KF.out;have kL:=aB hb KL.out;have kC:=aB hb KC.out;have KR:=aaQ (aB hb KR.out);have HB:=aaQ (HB.out.trans (hb.mono HB.out.size));clear hb KF KL KC p0 p1 p2 p3 q0 q1 q2 q3;have lC:=kC.lt;have lF:=kF.lt;have lL:=kL.lt;obtain ⟨⟨p0,p1⟩,p2,p3⟩:=aK kF;obtain ⟨⟨q0,q1⟩,q2,q3⟩:=aK kL;obtain ⟨⟨s0,s1⟩,s2,s3⟩:=aK kC;cases B1
     ·have hz:True:=trivial;go_wp2_with fail
      refine (H2.out _).mono ?_;rintro e w4 ⟨rfl,hb⟩;have kF:=aB hb kF;have kL:=aB hb kL;have kC:=aB hb kC;have KR:=aaQ (aB hb KR.out);have HB:=aaQ (HB.out.trans (hb.mono HB.out.size));have lC:=kC.lt;have lF:=kF.lt;have lL:=kL.lt;obtain ⟨⟨p0,p1⟩,p2,p3⟩:=aK kF;obtain ⟨⟨q0,q1⟩,q2,q3⟩:=aK kL;obtain ⟨⟨s0,s1⟩,s2,s3⟩:=aK kC;clear hb;cases B2
      ·have KF:=aaQ kF;have KL:=aaQ kL;clear kF kL kC;go_wp2;go_roundw
       case rel=>exact ⟨3,by omega,rfl,by rw [hf1.out];exact KF.out,by rw [hl1.out];exact KL.out,KR.out,HB.out⟩
       case measure=>decide
      ·have KF:=aaQ (kF.other h78 (.int .i64 xh) (.int .i64 yl));have KL:=aaQ (kL.write xh yl);have KR:=aaQ (KR.out.other (b':=b8) (by omega) (.int .i64 xh) (.int .i64 yl));have HB:=aaQ ((HB.out.setCell (p:=⟨b8,0,none⟩) (by simp;omega) (.int .i64 xh)).setCell (p:=⟨b8,1,none⟩) (by simp;omega) (.int .i64 yl));clear kF kL kC;go_wp2;go_roundw
       case rel=>exact ⟨3,by omega,rfl,by rw [hf1.out];exact KF.out,by rw [hl1.out];exact KL.out,KR.out,HB.out⟩
       case measure=>decide
     ·have kF:=kF.write xh yl;have kL:=kL.other (b':=b7) h78.symm (.int .i64 xh) (.int .i64 yl);have kC:=kC.other (b':=b7) hc7.symm (.int .i64 xh) (.int .i64 yl);have KR:=aaQ (KR.out.other (b':=b7) (by omega) (.int .i64 xh) (.int .i64 yl));have HB:=aaQ ((HB.out.setCell (p:=⟨b7,0,none⟩) (by simp;omega) (.int .i64 xh)).setCell (p:=⟨b7,1,none⟩) (by simp;omega) (.int .i64 yl));have lF:=kF.lt;have lL:=kL.lt;have lC:=kC.lt;obtain ⟨⟨i0,i1⟩,i2,i3⟩:=aK kF;obtain ⟨⟨m0,m1⟩,m2,m3⟩:=aK kL;obtain ⟨⟨n0,n1⟩,n2,n3⟩:=aK kC;go_wp2_with fail
      generalize (w3.setCell ⟨b7,0,none⟩ (.int .i64 xh)).setCell ⟨b7,1,none⟩ (.int .i64 yl)=w3 at*;refine (H2.out _).mono ?_;rintro e w4 ⟨rfl,hb⟩;have kF:=aB hb kF;have kL:=aB hb kL;have kC:=aB hb kC;have KR:=aaQ (aB hb KR.out);have HB:=aaQ (HB.out.trans (hb.mono HB.out.size));have lC:=kC.lt;have lF:=kF.lt;have lL:=kL.lt;obtain ⟨⟨p0,p1⟩,p2,p3⟩:=aK kF;obtain ⟨⟨q0,q1⟩,q2,q3⟩:=aK kL;obtain ⟨⟨s0,s1⟩,s2,s3⟩:=aK kC;clear hb;cases B2
      ·have KF:=aaQ kF;have KL:=aaQ kL;clear kF kL kC;go_wp2;go_roundw
       case rel=>exact ⟨3,by omega,rfl,by rw [hf1.out];exact KF.out,by rw [hl1.out];exact KL.out,KR.out,HB.out⟩
       case measure=>decide
      ·have KF:=aaQ (kF.other h78 (.int .i64 xh) (.int .i64 yl));have KL:=aaQ (kL.write xh yl);have KR:=aaQ (KR.out.other (b':=b8) (by omega) (.int .i64 xh) (.int .i64 yl));have HB:=aaQ ((HB.out.setCell (p:=⟨b8,0,none⟩) (by simp;omega) (.int .i64 xh)).setCell (p:=⟨b8,1,none⟩) (by simp;omega) (.int .i64 yl));clear kF kL kC;go_wp2;go_roundw
       case rel=>exact ⟨3,by omega,rfl,by rw [hf1.out];exact KF.out,by rw [hl1.out];exact KL.out,KR.out,HB.out⟩
       case measure=>decide
    ·have hj:True:=trivial;have XJ:=idx3 xl yl xl yh xh yl xh yh;have hf1:iI yl yh xl xh (3+1)=if mS (xh,yh) (iI yl yh xl xh 3) then (xh,yh) else iI yl yh xl xh 3:=rfl
     have hl1:iK yl yh xl xh (3+1)=if mS (iK yl yh xl xh 3) (xh,yh) then (xh,yh) else iK yl yh xl xh 3:=rfl
     have hm:=xJ yl yh xl xh 3;have hn:=xL yl yh xl xh 3;generalize iI yl yh xl xh 3=F at*;generalize iK yl yh xl xh 3=L at*;obtain ⟨fa,fb⟩:=F;obtain ⟨la,lb⟩:=L;simp only at kF kL hm hn;have g1:-2147483648≤fa∧fa≤2147483648:=by omega
     have g2:-2147483648≤fb∧fb≤2147483648:=by omega
     have g3:-2147483648≤la∧la≤2147483648:=by omega
     have g4:-2147483648≤lb∧lb≤2147483648:=by omega
     have H1:=aaQ (jX xh yh fa fb (by omega) (by omega) g1 g2);have H2:=aaQ (jX la lb xh yh g3 g4 (by omega) (by omega));change Hid (∀w,Calls Tryz.prog 153 #[aD xh yh,aD fa fb] w (bQ (.bool (mS (xh,yh) (fa,fb))) w)) at H1;change Hid (∀w,Calls Tryz.prog 153 #[aD la lb,aD xh yh] w (bQ (.bool (mS (la,lb) (xh,yh))) w)) at H2;generalize mS (xh,yh) (fa,fb)=B1 at*;generalize mS (la,lb) (xh,yh)=B2 at*;have hf1:=aaQ hf1;have hl1:=aaQ hl1;clear hm hn g1 g2 g3 g4;have lF:=kF.lt;have lL:=kL.lt;obtain ⟨⟨p0,p1⟩,p2,p3⟩:=aK kF;obtain ⟨⟨q0,q1⟩,q2,q3⟩:=aK kL;have KF:=aaQ (kF.alloc (.cells #[.int .i64 xh,.int .i64 yh] 138));have KL:=aaQ (kL.alloc (.cells #[.int .i64 xh,.int .i64 yh] 138));have KR:=aaQ (kR.alloc (.cells #[.int .i64 xh,.int .i64 yh] 138));have KC:=aaQ (show dQ 138 _ wr.heap.size xh yh from heap_alloc_new wr (.cells #[.int .i64 xh,.int .i64 yh] 138));have HB:=aaQ (hb.alloc (by have:=hb.size;omega) (.cells #[.int .i64 xh,.int .i64 yh] 138));have hc7:b7≠wr.heap.size:=by omega
     have hc8:b8≠wr.heap.size:=by omega
     clear kF kL kR hb hj;unfold aD at H1 H2;go_wp2_with fail
     refine (H1.out _).mono ?_;rintro e w3 ⟨rfl,hb⟩;have kF:=aB hb KF.out;have kL:=aB hb KL.out;have kC:=aB hb KC.out;have KR:=aaQ (aB hb KR.out);have HB:=aaQ (HB.out.trans (hb.mono HB.out.size));clear hb KF KL KC p0 p1 p2 p3 q0 q1 q2 q3;have lC:=kC.lt;have lF:=kF.lt;have lL:=kL.lt;obtain ⟨⟨p0,p1⟩,p2,p3⟩:=aK kF;obtain ⟨⟨q0,q1⟩,q2,q3⟩:=aK kL;obtain ⟨⟨s0,s1⟩,s2,s3⟩:=aK kC;cases B1
     ·have hz:True:=trivial;go_wp2_with fail
      refine (H2.out _).mono ?_;rintro e w4 ⟨rfl,hb⟩;have kF:=aB hb kF;have kL:=aB hb kL;have kC:=aB hb kC;have KR:=aaQ (aB hb KR.out);have HB:=aaQ (HB.out.trans (hb.mono HB.out.size));have lC:=kC.lt;have lF:=kF.lt;have lL:=kL.lt;obtain ⟨⟨p0,p1⟩,p2,p3⟩:=aK kF;obtain ⟨⟨q0,q1⟩,q2,q3⟩:=aK kL;obtain ⟨⟨s0,s1⟩,s2,s3⟩:=aK kC;clear hb;cases B2
      ·have KF:=aaQ kF;have KL:=aaQ kL;clear kF kL kC;go_wp2;go_roundw
       case rel=>exact ⟨4,by omega,rfl,by rw [hf1.out];exact KF.out,by rw [hl1.out];exact KL.out,KR.out,HB.out⟩
       case measure=>decide
      ·have KF:=aaQ (kF.other h78 (.int .i64 xh) (.int .i64 yh));have KL:=aaQ (kL.write xh yh);have KR:=aaQ (KR.out.other (b':=b8) (by omega) (.int .i64 xh) (.int .i64 yh));have HB:=aaQ ((HB.out.setCell (p:=⟨b8,0,none⟩) (by simp;omega) (.int .i64 xh)).setCell (p:=⟨b8,1,none⟩) (by simp;omega) (.int .i64 yh));clear kF kL kC;go_wp2;go_roundw
       case rel=>exact ⟨4,by omega,rfl,by rw [hf1.out];exact KF.out,by rw [hl1.out];exact KL.out,KR.out,HB.out⟩
       case measure=>decide
     ·have kF:=kF.write xh yh;have kL:=kL.other (b':=b7) h78.symm (.int .i64 xh) (.int .i64 yh);have kC:=kC.other (b':=b7) hc7.symm (.int .i64 xh) (.int .i64 yh);have KR:=aaQ (KR.out.other (b':=b7) (by omega) (.int .i64 xh) (.int .i64 yh));have HB:=aaQ ((HB.out.setCell (p:=⟨b7,0,none⟩) (by simp;omega) (.int .i64 xh)).setCell (p:=⟨b7,1,none⟩) (by simp;omega) (.int .i64 yh));have lF:=kF.lt;have lL:=kL.lt;have lC:=kC.lt;obtain ⟨⟨i0,i1⟩,i2,i3⟩:=aK kF;obtain ⟨⟨m0,m1⟩,m2,m3⟩:=aK kL;obtain ⟨⟨n0,n1⟩,n2,n3⟩:=aK kC;go_wp2_with fail
      generalize (w3.setCell ⟨b7,0,none⟩ (.int .i64 xh)).setCell ⟨b7,1,none⟩ (.int .i64 yh)=w3 at*;refine (H2.out _).mono ?_;rintro e w4 ⟨rfl,hb⟩;have kF:=aB hb kF;have kL:=aB hb kL;have kC:=aB hb kC;have KR:=aaQ (aB hb KR.out);have HB:=aaQ (HB.out.trans (hb.mono HB.out.size));have lC:=kC.lt;have lF:=kF.lt;have lL:=kL.lt;obtain ⟨⟨p0,p1⟩,p2,p3⟩:=aK kF;obtain ⟨⟨q0,q1⟩,q2,q3⟩:=aK kL;obtain ⟨⟨s0,s1⟩,s2,s3⟩:=aK kC;clear hb;cases B2
      ·have KF:=aaQ kF;have KL:=aaQ kL;clear kF kL kC;go_wp2;go_roundw
       case rel=>exact ⟨4,by omega,rfl,by rw [hf1.out];exact KF.out,by rw [hl1.out];exact KL.out,KR.out,HB.out⟩
       case measure=>decide
      ·have KF:=aaQ (kF.other h78 (.int .i64 xh) (.int .i64 yh));have KL:=aaQ (kL.write xh yh);have KR:=aaQ (KR.out.other (b':=b8) (by omega) (.int .i64 xh) (.int .i64 yh));have HB:=aaQ ((HB.out.setCell (p:=⟨b8,0,none⟩) (by simp;omega) (.int .i64 xh)).setCell (p:=⟨b8,1,none⟩) (by simp;omega) (.int .i64 yh));clear kF kL kC;go_wp2;go_roundw
       case rel=>exact ⟨4,by omega,rfl,by rw [hf1.out];exact KF.out,by rw [hl1.out];exact KL.out,KR.out,HB.out⟩
       case measure=>decide
    ·have hm:=xJ yl yh xl xh 4;have hn:=xL yl yh xl xh 4;generalize iI yl yh xl xh 4=F at*;generalize iK yl yh xl xh 4=L at*;obtain ⟨fa,fb⟩:=F;obtain ⟨la,lb⟩:=L;simp only at kF kL hm hn;have hV:=hV.out;simp only at hV;have ho:=HO.out;have H1:=OL fa fb (by omega) (by omega) (by omega);have H2:=OL la lb (by omega) (by omega) (by omega);obtain ⟨g1,g2⟩:=GY fa fb;obtain ⟨g3,g4⟩:=GY la lb;generalize iH fa fb=A1 at*;generalize oK fa fb=E1 at*;generalize iH la lb=A2 at*;generalize oK la lb=E2 at*;replace H1:=aaQ H1;replace H2:=aaQ H2;replace hV:=aaQ hV;obtain ⟨⟨p0,p1⟩,p2,p3⟩:=aK kF;obtain ⟨⟨q0,q1⟩,q2,q3⟩:=aK kL;have KL:=aaQ kL;have KR:=aaQ kR;have HB:=aaQ hb;clear kF kL kR hb hm hn ho hj;unfold aD at H1 H2;go_wp2_with fail
     refine (H1.out _).mono ?_;rintro e w3 ⟨rfl,hb⟩;have kL:=aB hb KL.out;have KR:=aaQ (aB hb KR.out);have HB:=aaQ (HB.out.trans (hb.mono HB.out.size));have lL:=kL.lt;obtain ⟨⟨q0,q1⟩,q2,q3⟩:=aK kL;clear hb kL KL;go_wp2_with fail
     refine (H2.out _).mono ?_;rintro e w4 ⟨rfl,hb⟩;have kR:=aB hb KR.out;have HB:=aaQ (HB.out.trans (hb.mono HB.out.size));have lR:=kR.lt;obtain ⟨⟨r0,r1⟩,r2,r3⟩:=aK kR;have KR:=aaQ kR;clear hb kR H1 H2;by_cases hh:A2<A1
     ·cases E2
      ·have hU:=aaQ (show upE A1 A2 false=A2+21600000+1 by simp [upE,hh]);have kF:=KR.out.write A1 (A2+21600000+1);obtain ⟨⟨s0,s1⟩,s2,s3⟩:=aK kF;have HF:=aaQ ((HB.out.setCell (p:=⟨w.heap.size+1+1,0,none⟩) (by simp;omega) (.int .i64 A1)).setCell (p:=⟨w.heap.size+1+1,1,none⟩) (by simp;omega) (.int .i64 (A2+21600000+1)));clear kF;go_wp2;refine bodyPost_ret (v:=V) (by rw [hV.out,hU.out];simp [results,Tryz.results90,go_sem,aL,aD,s0,s1]) rfl ⟨rfl,HF.out⟩
      ·have hU:=aaQ (show upE A1 A2 true=A2+21600000 by simp [upE,hh]);have kF:=KR.out.write A1 (A2+21600000);obtain ⟨⟨s0,s1⟩,s2,s3⟩:=aK kF;have HF:=aaQ ((HB.out.setCell (p:=⟨w.heap.size+1+1,0,none⟩) (by simp;omega) (.int .i64 A1)).setCell (p:=⟨w.heap.size+1+1,1,none⟩) (by simp;omega) (.int .i64 (A2+21600000)));clear kF;go_wp2;refine bodyPost_ret (v:=V) (by rw [hV.out,hU.out];simp [results,Tryz.results90,go_sem,aL,aD,s0,s1]) rfl ⟨rfl,HF.out⟩
     ·cases E2
      ·have hU:=aaQ (show upE A1 A2 false=A2+1 by simp [upE,hh]);have kF:=KR.out.write A1 (A2+1);obtain ⟨⟨s0,s1⟩,s2,s3⟩:=aK kF;have HF:=aaQ ((HB.out.setCell (p:=⟨w.heap.size+1+1,0,none⟩) (by simp;omega) (.int .i64 A1)).setCell (p:=⟨w.heap.size+1+1,1,none⟩) (by simp;omega) (.int .i64 (A2+1)));clear kF;go_wp2;refine bodyPost_ret (v:=V) (by rw [hV.out,hU.out];simp [results,Tryz.results90,go_sem,aL,aD,s0,s1]) rfl ⟨rfl,HF.out⟩
      ·have hU:=aaQ (show upE A1 A2 true=A2 by simp [upE,hh]);have kF:=KR.out.write A1 (A2);obtain ⟨⟨s0,s1⟩,s2,s3⟩:=aK kF;have HF:=aaQ ((HB.out.setCell (p:=⟨w.heap.size+1+1,0,none⟩) (by simp;omega) (.int .i64 A1)).setCell (p:=⟨w.heap.size+1+1,1,none⟩) (by simp;omega) (.int .i64 (A2)));clear kF;go_wp2;refine bodyPost_ret (v:=V) (by rw [hV.out,hU.out];simp [results,Tryz.results90,go_sem,aL,aD,s0,s1]) rfl ⟨rfl,HF.out⟩
end
section
open Go.RowKit
theorem AW (yl yh xl xh:Int) (w:World):Calls Tryz.prog 90 #[aD yl yh,aD xl xh] w (bQ (aL (aQ yl yh xl xh)) w):=by
 unfold aQ;by_cases h:(aG xl xh&&aG yl yh)=false
 ·rw [if_pos h];exact bear_bad yl yh xl xh h w
 ·have h2:aG xl xh=true∧aG yl yh=true:=by
   cases hx:aG xl xh<;>cases hy:aG yl yh<;>simp [hx,hy] at h ⊢
  rw [if_neg h];by_cases ho:cM yl yh xl xh=true
  ·rw [if_pos ho];exact VQ yl yh xl xh h2.1 h2.2 ho w
  ·rw [if_neg ho];exact bear_main yl yh xl xh h2.1 h2.2 (by simpa using ho) w
end
section
open Go.RowKit
theorem asinR_in (lo hi:Int) (h1:lo≤hi) (h2:-1073741824≤lo) (h3:hi≤1073741824):aV lo hi=(mF lo,-mF (-hi),0):=by
 unfold aV;have e1:max lo (-1073741824)=lo:=by omega
 have e2:min hi 1073741824=hi:=by omega
 rw [if_neg (by simp [aG];omega),e1,e2,if_pos h1]
theorem acosR_in (lo hi:Int) (h1:lo≤hi) (h2:-1073741824≤lo) (h3:hi≤1073741824):mR lo hi=(5400000+mF (-hi),5400000-mF lo,0):=by
 unfold mR;rw [asinR_in lo hi h1 h2 h3,if_pos rfl];show (5400000- -mF (-hi),5400000-mF lo,(0:Int))=_;rw [show 5400000- -mF (-hi)=5400000+mF (-hi) by omega]
end
section
open Go.RowKit SM
def aF (lo hi:Int):Bool:=decide (-1099511627776≤lo∧lo≤hi∧hi≤1099511627776)
theorem yY (lo hi:Int) (w:World):Calls Tryz.prog 187 #[aD lo hi] w (bQ (.bool (aF lo hi)) w):=by
 obtain ⟨V,hV⟩:∃V,V=Value.bool (aF lo hi):=⟨_,rfl⟩;have HP:∀b w',aF lo hi=b→Below w.heap.size w w'→bQ V w (.returned (.bool b)) w':=fun b w' h hb=>⟨by rw [hV,h],hb⟩;have HP:=aaQ HP;have HB:=aaQ ((acQ w.heap.size w).alloc (aaX _) (.cells #[.int .i64 lo,.int .i64 hi] 23));rw [←hV];clear hV;unfold aD;by_cases h1:-1099511627776≤lo
 ·by_cases h2:lo≤hi
  ·by_cases h3:hi≤1099511627776
   ·have HF:=aaQ (HP.out true _ (by unfold aF;rw [decide_eq_true];omega) HB.out);go_enter Tryz.func187,Tryz.ntmps187;go_wp2;go_ret;exact HF.out
   ·have HF:=aaQ (HP.out false _ (by unfold aF;rw [decide_eq_false];omega) HB.out);go_enter Tryz.func187,Tryz.ntmps187;go_wp2;go_ret;exact HF.out
  ·have HF:=aaQ (HP.out false _ (by unfold aF;rw [decide_eq_false];omega) HB.out);go_enter Tryz.func187,Tryz.ntmps187;go_wp2;go_ret;exact HF.out
 ·have HF:=aaQ (HP.out false _ (by unfold aF;rw [decide_eq_false];omega) HB.out);go_enter Tryz.func187,Tryz.ntmps187;go_wp2;go_ret;exact HF.out
def kB (lo hi n:Int):Bool:=decide ((n-lo)%21600000≤hi-lo)
theorem keepc {w0 W w1:World} {b:Nat} {v0 v1:Value} (h:(W.cell? ⟨b,0,none⟩=some v0∧W.cell? ⟨b,1,none⟩=some v1)∧Below w0.heap.size w0 W) (hb:Below W.heap.size W w1):
  (w1.cell? ⟨b,0,none⟩=some v0∧w1.cell? ⟨b,1,none⟩=some v1)∧Below w0.heap.size w0 w1:=by
 obtain ⟨⟨h0,h1⟩,hB⟩:=h;have hlt:=World.block_lt_of_cell? W _ h0;exact ⟨⟨(hb.cell (p:=⟨b,0,none⟩) hlt).trans h0,(hb.cell (p:=⟨b,1,none⟩) hlt).trans h1⟩,hB.trans (hb.mono hB.size)⟩
theorem PM (lo hi n:Int) (h0:-2000000000000≤lo) (h1:lo≤2000000000000) (h2:-2000000000000≤hi) (h3:hi≤2000000000000) (h4:0≤n) (h5:n≤21600000) (w:World):Calls Tryz.prog 222 #[aD lo hi,.int .i64 n] w (bQ (.bool (kB lo hi n)) w):=by
 have K1:=aaQ (show dQ 23 _ w.heap.size lo hi from heap_alloc_new w (.cells #[.int .i64 lo,.int .i64 hi] 23));have HB:=aaQ ((acQ w.heap.size w).alloc (aaX _) (.cells #[.int .i64 lo,.int .i64 hi] 23));have HT:=aaQ (fun m (hm:m=n-lo) w=>(NC m w).mono (fun e w' h=>(⟨by rw [←hm];exact h.1,h.2 ▸ acQ _ _⟩:bQ (.int .i64 ((n-lo)%21600000)) w e w')));have wv:=aaQ (show i64.wrap (n-lo)=n-lo from IntWalk.i64_in _ (by omega));have wu:i64.wrap (hi-lo)=hi-lo:=IntWalk.i64_in _ (by omega);have HD:decide ((n-lo)%21600000≤hi-lo)=kB lo hi n:=rfl;obtain ⟨t,ht⟩:∃t,(n-lo)%21600000=t:=⟨_,rfl⟩;rw [ht] at HT HD;have HD:=aaQ HD;have t0:0≤t:=by omega
 have t1:t<21600000:=by omega
 clear ht;unfold aD;go_enter Tryz.func222,Tryz.ntmps222;go_wp2_with fail
 generalize w.alloc (.cells #[.int .i64 lo,.int .i64 hi] 23)=W at*;obtain ⟨⟨a0,a1⟩,a2,a3⟩:=aK K1.out;go_region_held3 (fun w'=>(w'.cell? ⟨w.heap.size,0,none⟩=some (.int .i64 lo)∧w'.cell? ⟨w.heap.size,1,none⟩=some (.int .i64 hi))∧Below W.heap.size W w')
  (first | exact ⟨⟨a0,a1⟩,(acQ _ _).drew⟩ | exact keepc (by assumption) (by assumption))
  (first
   | (go_at_call 235;(with_reducible refine (HT.out _ wv.out _).mono ?_);rintro e w6 ⟨rfl,hb⟩))
 have hh:Below W.heap.size W w6:=And.right (by assumption);have HF:=aaQ (HB.out.trans (hh.mono HB.out.size));clear hh;go_wp2;go_ret;refine ⟨?_,HF.out⟩;rw [←HD.out,←wu];rfl
def mX (lo hi:Int):Int:=if kB lo hi 16200000 then -1073741824 else min (fZ lo) (fZ hi)
def mW (lo hi:Int):Int:=if kB lo hi 5400000 then 1073741824 else max (jF lo) (jF hi)
theorem KB (lo hi:Int) (h0:-2000000000000≤lo) (h1:lo≤2000000000000) (h2:-2000000000000≤hi) (h3:hi≤2000000000000) (w:World):Calls Tryz.prog 188 #[aD lo hi] w (bQ (aD (mX lo hi) (mW lo hi)) w):=by
 have HL:=aaQ (zF lo);have HH:=aaQ (zF hi);have H1:=PM lo hi 5400000 h0 h1 h2 h3 (by omega) (by omega);have H2:=PM lo hi 16200000 h0 h1 h2 h3 (by omega) (by omega);obtain ⟨V,hV⟩:∃V,V=aD (mX lo hi) (mW lo hi):=⟨_,rfl⟩;rw [←hV];unfold mX mW at hV;generalize kB lo hi 5400000=c1 at*;generalize kB lo hi 16200000=c2 at*;generalize fZ lo=a at*;generalize jF lo=b at*;generalize fZ hi=c at*;generalize jF hi=d at*;unfold aD at H1 H2 ⊢;replace H1:=aaQ H1;replace H2:=aaQ H2;replace hV:=aaQ hV;clear h0 h1 h2 h3;have b3:=dO w (.cells #[.int .i64 lo,.int .i64 hi] 23) (.cells #[.int .i64 0,.int .i64 0] 88);have b2:=fX w (.cells #[.int .i64 lo,.int .i64 hi] 23) (.cells #[.int .i64 0,.int .i64 0] 88);have K1:=aaQ (show dQ 23 _ w.heap.size lo hi from b2);have K2:=aaQ (show dQ 88 _ (w.heap.size+1) 0 0 from b3);have HB:=aaQ (((acQ w.heap.size w).alloc (aaX _) (.cells #[.int .i64 lo,.int .i64 hi] 23)).alloc (by simp) (.cells #[.int .i64 0,.int .i64 0] 88));clear b2 b3;go_enter Tryz.func188,Tryz.ntmps188;go_wp2_with fail
 refine (HL.out _).mono ?_;rintro e w1 ⟨rfl,hb⟩;have k1:=aB hb K1.out;have k2:=aB hb K2.out;have l1:=k1.lt;have l2:=k2.lt;obtain ⟨⟨a10,a11⟩,a12,a13⟩:=aK k1;obtain ⟨⟨a20,a21⟩,a22,a23⟩:=aK k2;have HB:=aaQ (HB.out.trans (hb.mono HB.out.size));have K1:=aaQ k1;have K2:=aaQ k2;clear hb k1 k2;go_wp2_with fail
 refine (HH.out _).mono ?_;rintro e w2 ⟨rfl,hb⟩;have k1:=aB hb K1.out;have k2:=aB hb K2.out;have l1:=k1.lt;have l2:=k2.lt;obtain ⟨⟨a10,a11⟩,a12,a13⟩:=aK k1;obtain ⟨⟨a20,a21⟩,a22,a23⟩:=aK k2;have HB:=aaQ (HB.out.trans (hb.mono HB.out.size));have K1:=aaQ k1;have K2:=aaQ k2;clear hb k1 k2;go_wp2_with fail
 refine (H1.out _).mono ?_;rintro e w3 ⟨rfl,hb⟩;have k1:=aB hb K1.out;have k2:=aB hb K2.out;have l1:=k1.lt;have l2:=k2.lt;obtain ⟨⟨a10,a11⟩,a12,a13⟩:=aK k1;obtain ⟨⟨a20,a21⟩,a22,a23⟩:=aK k2;have HB:=aaQ (HB.out.trans (hb.mono HB.out.size));have K1:=aaQ k1;have K2:=aaQ k2;clear hb k1 k2;cases c1<;>cases c2;all_goals (
  replace hV:=aaQ hV.out;go_wp2_with fail
  refine (H2.out _).mono ?_;rintro e w4 ⟨rfl,hb⟩;have k2:=aB hb K2.out;have l2:=k2.lt;obtain ⟨⟨a20,a21⟩,a22,a23⟩:=aK k2;have HB:=aaQ (HB.out.trans (hb.mono HB.out.size));have K2:=aaQ k2;clear hb k2)
 ·have hV:=hV.out;simp only [Bool.false_eq_true,reduceIte] at hV;have K3:=K2.out.write (min a c) (max b d);obtain ⟨⟨r0,r1⟩,r2,r3⟩:=aK K3;have HB:=aaQ ((HB.out.setCell (p:=⟨w.heap.size+1,0,none⟩) (by simp) (.int .i64 (min a c))).setCell (p:=⟨w.heap.size+1,1,none⟩) (by simp) (.int .i64 (max b d)));replace hV:=aaQ hV;clear K3;go_wp2;refine bodyPost_ret (v:=V) (by rw [hV.out];simp [results,Tryz.results188,go_sem,aD,r0,r1]) rfl ⟨rfl,HB.out⟩
 ·have hV:=hV.out;simp only [Bool.false_eq_true,reduceIte] at hV;have K3:=K2.out.write (-1073741824) (max b d);obtain ⟨⟨r0,r1⟩,r2,r3⟩:=aK K3;have HB:=aaQ ((HB.out.setCell (p:=⟨w.heap.size+1,0,none⟩) (by simp) (.int .i64 (-1073741824))).setCell (p:=⟨w.heap.size+1,1,none⟩) (by simp) (.int .i64 (max b d)));replace hV:=aaQ hV;clear K3;go_wp2;refine bodyPost_ret (v:=V) (by rw [hV.out];simp [results,Tryz.results188,go_sem,aD,r0,r1]) rfl ⟨rfl,HB.out⟩
 ·have hV:=hV.out;simp only [Bool.false_eq_true,reduceIte] at hV;have K3:=K2.out.write (min a c) 1073741824;obtain ⟨⟨r0,r1⟩,r2,r3⟩:=aK K3;have HB:=aaQ ((HB.out.setCell (p:=⟨w.heap.size+1,0,none⟩) (by simp) (.int .i64 (min a c))).setCell (p:=⟨w.heap.size+1,1,none⟩) (by simp) (.int .i64 1073741824));replace hV:=aaQ hV;clear K3;go_wp2;refine bodyPost_ret (v:=V) (by rw [hV.out];simp [results,Tryz.results188,go_sem,aD,r0,r1]) rfl ⟨rfl,HB.out⟩
 ·have hV:=hV.out;simp only [reduceIte] at hV;have K3:=K2.out.write (-1073741824) 1073741824;obtain ⟨⟨r0,r1⟩,r2,r3⟩:=aK K3;have HB:=aaQ ((HB.out.setCell (p:=⟨w.heap.size+1,0,none⟩) (by simp) (.int .i64 (-1073741824))).setCell (p:=⟨w.heap.size+1,1,none⟩) (by simp) (.int .i64 1073741824));replace hV:=aaQ hV;clear K3;go_wp2;refine bodyPost_ret (v:=V) (by rw [hV.out];simp [results,Tryz.results188,go_sem,aD,r0,r1]) rfl ⟨rfl,HB.out⟩
end
section
open Go.RowKit SM
theorem FE (lo hi:Int) (h0:-2000000000000≤lo) (h1:lo≤2000000000000) (h2:-2000000000000≤hi) (h3:hi≤2000000000000) (w:World):Calls Tryz.prog 189 #[aD lo hi] w (bQ (aD (lo+5400000) (hi+5400000)) w):=by
 have b2:=dO w (.cells #[.int .i64 lo,.int .i64 hi] 23) (.cells #[.int .i64 0,.int .i64 0] 23);have HB:=aaQ (((acQ w.heap.size w).alloc (aaX _) (.cells #[.int .i64 lo,.int .i64 hi] 23)).alloc (by simp) (.cells #[.int .i64 0,.int .i64 0] 23));have HB2:=aaQ (((acQ w.heap.size w).alloc (aaX _) (.cells #[.int .i64 lo,.int .i64 hi] 23)).alloc (by simp) (.cells #[.int .i64 (lo+5400000),.int .i64 (hi+5400000)] 23));clear b2;unfold aD;go_enter Tryz.func189,Tryz.ntmps189;go_wp2;refine bodyPost_ret (v:=aD (lo+5400000) (hi+5400000)) (by simp [results,Tryz.results189,go_sem,aD]) rfl ⟨rfl,?_⟩;first
  | exact HB2.out
  | exact HB.out
theorem RW (lo hi:Int):-1073741824≤mX lo hi∧mX lo hi≤1073741824∧-1073741824≤mW lo hi∧mW lo hi≤1073741824:=by
 obtain ⟨a1,a2,a3⟩:=lO lo;obtain ⟨b1,b2,b3⟩:=lO hi;unfold mX mW;refine ⟨?_,?_,?_,?_⟩<;>split<;>omega
def aW (lo hi:Int):Int×Int×Int:=if aF lo hi=false then (0,0,1) else (mX lo hi,mW lo hi,0)
def aN (lo hi:Int):Int×Int×Int:=if aF lo hi=false then (0,0,1) else (mX (lo+5400000) (hi+5400000),mW (lo+5400000) (hi+5400000),0)
def eJ (lo hi:Int):Int×Int×Int:=if aF lo hi=false then (0,0,1) else ((1073741824-mW (lo+5400000) (hi+5400000))/2,(1073741824-mX (lo+5400000) (hi+5400000)+1)/2,0)
theorem sin_r (lo hi:Int) (w:World):Calls Tryz.prog 139 #[aD lo hi] w (bQ (aL (aW lo hi)) w):=by
 have HV:=aaQ (yY lo hi);obtain ⟨V,hV⟩:∃V,V=aL (aW lo hi):=⟨_,rfl⟩;rw [←hV];unfold aW at hV;have K1:=aaQ (show dQ 23 _ w.heap.size lo hi from fX w (.cells #[.int .i64 lo,.int .i64 hi] 23) (.cells #[.int .i64 0,.int .i64 0] 88));have K2:=aaQ (show dQ 88 _ (w.heap.size+1) 0 0 from dO w (.cells #[.int .i64 lo,.int .i64 hi] 23) (.cells #[.int .i64 0,.int .i64 0] 88));have HB:=aaQ (((acQ w.heap.size w).alloc (aaX _) (.cells #[.int .i64 lo,.int .i64 hi] 23)).alloc (by simp) (.cells #[.int .i64 0,.int .i64 0] 88));by_cases hv:aF lo hi=false
 ·rw [if_pos hv] at hV;rw [hv] at HV;have hV:=aaQ hV;unfold aD at HV ⊢;clear hv;go_enter Tryz.func139,Tryz.ntmps139;go_wp2_with fail
  refine (HV.out _).mono ?_;rintro e w1 ⟨rfl,hb⟩;have n2:=aB hb K2.out;have l2:=n2.lt;obtain ⟨⟨b0,b1⟩,b2,b3⟩:=aK n2;have HB:=aaQ ((HB.out.trans (hb.mono HB.out.size)).setCell (p:=⟨w.heap.size+1,0,none⟩) (by simp) (.int .i64 0) |>.setCell (p:=⟨w.heap.size+1,1,none⟩) (by simp) (.int .i64 0));have n3:=n2.write 0 0;obtain ⟨⟨r0,r1⟩,r2,r3⟩:=aK n3;clear hb n2 n3;go_wp2;refine bodyPost_ret (v:=V) (by rw [hV.out];simp [results,Tryz.results139,go_sem,aL,aD,r0,r1]) rfl ⟨rfl,HB.out⟩
 ·rw [if_neg hv] at hV;have hv':aF lo hi=true:=by cases h:aF lo hi<;>simp_all
  rw [hv'] at HV;have hm:-1099511627776≤lo∧lo≤1099511627776∧-1099511627776≤hi∧hi≤1099511627776:=by simp [aF] at hv';omega
  have HE:=KB lo hi (by omega) (by omega) (by omega) (by omega);generalize mX lo hi=p at*;generalize mW lo hi=q at*;have hV:=aaQ hV;unfold aD at HV HE ⊢;replace HE:=aaQ HE;clear hv hv' hm;go_enter Tryz.func139,Tryz.ntmps139;go_wp2_with fail
  refine (HV.out _).mono ?_;rintro e w1 ⟨rfl,hb⟩;have n1:=aB hb K1.out;have n2:=aB hb K2.out;have l1:=n1.lt;have l2:=n2.lt;obtain ⟨⟨a0,a1⟩,a2,a3⟩:=aK n1;obtain ⟨⟨b0,b1⟩,b2,b3⟩:=aK n2;have K2:=aaQ n2;have HB:=aaQ (HB.out.trans (hb.mono HB.out.size));clear hb n1 n2;go_wp2_with fail
  refine (HE.out _).mono ?_;rintro e w2 ⟨rfl,hb⟩;have n2:=aB hb K2.out;have l2:=n2.lt;obtain ⟨⟨b0,b1⟩,b2,b3⟩:=aK n2;have HB:=aaQ ((HB.out.trans (hb.mono HB.out.size)).setCell (p:=⟨w.heap.size+1,0,none⟩) (by simp) (.int .i64 p) |>.setCell (p:=⟨w.heap.size+1,1,none⟩) (by simp) (.int .i64 q));have n3:=n2.write p q;obtain ⟨⟨r0,r1⟩,r2,r3⟩:=aK n3;clear hb n2 n3;go_wp2;refine bodyPost_ret (v:=V) (by rw [hV.out];simp [results,Tryz.results139,go_sem,aL,aD,r0,r1]) rfl ⟨rfl,HB.out⟩
theorem WK (lo hi:Int) (w:World):Calls Tryz.prog 135 #[aD lo hi] w (bQ (aL (aN lo hi)) w):=by
 have HV:=aaQ (yY lo hi);obtain ⟨V,hV⟩:∃V,V=aL (aN lo hi):=⟨_,rfl⟩;rw [←hV];unfold aN at hV;have K1:=aaQ (show dQ 23 _ w.heap.size lo hi from fX w (.cells #[.int .i64 lo,.int .i64 hi] 23) (.cells #[.int .i64 0,.int .i64 0] 88));have K2:=aaQ (show dQ 88 _ (w.heap.size+1) 0 0 from dO w (.cells #[.int .i64 lo,.int .i64 hi] 23) (.cells #[.int .i64 0,.int .i64 0] 88));have HB:=aaQ (((acQ w.heap.size w).alloc (aaX _) (.cells #[.int .i64 lo,.int .i64 hi] 23)).alloc (by simp) (.cells #[.int .i64 0,.int .i64 0] 88));by_cases hv:aF lo hi=false
 ·rw [if_pos hv] at hV;rw [hv] at HV;have hV:=aaQ hV;unfold aD at HV ⊢;clear hv;go_enter Tryz.func135,Tryz.ntmps135;go_wp2_with fail
  refine (HV.out _).mono ?_;rintro e w1 ⟨rfl,hb⟩;have n2:=aB hb K2.out;have l2:=n2.lt;obtain ⟨⟨b0,b1⟩,b2,b3⟩:=aK n2;have HB:=aaQ ((HB.out.trans (hb.mono HB.out.size)).setCell (p:=⟨w.heap.size+1,0,none⟩) (by simp) (.int .i64 0) |>.setCell (p:=⟨w.heap.size+1,1,none⟩) (by simp) (.int .i64 0));have n3:=n2.write 0 0;obtain ⟨⟨r0,r1⟩,r2,r3⟩:=aK n3;clear hb n2 n3;go_wp2;refine bodyPost_ret (v:=V) (by rw [hV.out];simp [results,Tryz.results135,go_sem,aL,aD,r0,r1]) rfl ⟨rfl,HB.out⟩
 ·rw [if_neg hv] at hV;have hv':aF lo hi=true:=by cases h:aF lo hi<;>simp_all
  rw [hv'] at HV;have hm:-1099511627776≤lo∧lo≤1099511627776∧-1099511627776≤hi∧hi≤1099511627776:=by simp [aF] at hv';omega
  have HE:=KB (lo+5400000) (hi+5400000) (by omega) (by omega) (by omega) (by omega);have HU:=FE lo hi (by omega) (by omega) (by omega) (by omega);generalize mX (lo+5400000) (hi+5400000)=p at*;generalize mW (lo+5400000) (hi+5400000)=q at*;have hV:=aaQ hV;unfold aD at HV HE HU ⊢;replace HE:=aaQ HE;replace HU:=aaQ HU;generalize lo+5400000=lo' at*;generalize hi+5400000=hi' at*;clear hv hv' hm;go_enter Tryz.func135,Tryz.ntmps135;go_wp2_with fail
  refine (HV.out _).mono ?_;rintro e w1 ⟨rfl,hb⟩;have n1:=aB hb K1.out;have n2:=aB hb K2.out;have l1:=n1.lt;have l2:=n2.lt;obtain ⟨⟨a0,a1⟩,a2,a3⟩:=aK n1;obtain ⟨⟨b0,b1⟩,b2,b3⟩:=aK n2;have K2:=aaQ n2;have HB:=aaQ (HB.out.trans (hb.mono HB.out.size));clear hb n1 n2;go_wp2_with fail
  refine (HU.out _).mono ?_;rintro e w3 ⟨rfl,hb⟩;have n2:=aB hb K2.out;have l2:=n2.lt;obtain ⟨⟨b0,b1⟩,b2,b3⟩:=aK n2;have K2:=aaQ n2;have HB:=aaQ (HB.out.trans (hb.mono HB.out.size));clear hb n2;go_wp2_with fail
  refine (HE.out _).mono ?_;rintro e w2 ⟨rfl,hb⟩;have n2:=aB hb K2.out;have l2:=n2.lt;obtain ⟨⟨b0,b1⟩,b2,b3⟩:=aK n2;have HB:=aaQ ((HB.out.trans (hb.mono HB.out.size)).setCell (p:=⟨w.heap.size+1,0,none⟩) (by simp) (.int .i64 p) |>.setCell (p:=⟨w.heap.size+1,1,none⟩) (by simp) (.int .i64 q));have n3:=n2.write p q;obtain ⟨⟨r0,r1⟩,r2,r3⟩:=aK n3;clear hb n2 n3;go_wp2;refine bodyPost_ret (v:=V) (by rw [hV.out];simp [results,Tryz.results135,go_sem,aL,aD,r0,r1]) rfl ⟨rfl,HB.out⟩
theorem hav_r (lo hi:Int) (w:World):Calls Tryz.prog 129 #[aD lo hi] w (bQ (aL (eJ lo hi)) w):=by
 have HV:=aaQ (yY lo hi);obtain ⟨V,hV⟩:∃V,V=aL (eJ lo hi):=⟨_,rfl⟩;rw [←hV];unfold eJ at hV;have K1:=aaQ (show dQ 23 _ w.heap.size lo hi from fX w (.cells #[.int .i64 lo,.int .i64 hi] 23) (.cells #[.int .i64 0,.int .i64 0] 88));have K2:=aaQ (show dQ 88 _ (w.heap.size+1) 0 0 from dO w (.cells #[.int .i64 lo,.int .i64 hi] 23) (.cells #[.int .i64 0,.int .i64 0] 88));have HB:=aaQ (((acQ w.heap.size w).alloc (aaX _) (.cells #[.int .i64 lo,.int .i64 hi] 23)).alloc (by simp) (.cells #[.int .i64 0,.int .i64 0] 88));by_cases hv:aF lo hi=false
 ·rw [if_pos hv] at hV;rw [hv] at HV;have hV:=aaQ hV;unfold aD at HV ⊢;clear hv;go_enter Tryz.func129,Tryz.ntmps129;go_wp2_with fail
  refine (HV.out _).mono ?_;rintro e w1 ⟨rfl,hb⟩;have n2:=aB hb K2.out;have l2:=n2.lt;obtain ⟨⟨b0,b1⟩,b2,b3⟩:=aK n2;have HB:=aaQ ((HB.out.trans (hb.mono HB.out.size)).setCell (p:=⟨w.heap.size+1,0,none⟩) (by simp) (.int .i64 0) |>.setCell (p:=⟨w.heap.size+1,1,none⟩) (by simp) (.int .i64 0));have n3:=n2.write 0 0;obtain ⟨⟨r0,r1⟩,r2,r3⟩:=aK n3;clear hb n2 n3;go_wp2;refine bodyPost_ret (v:=V) (by rw [hV.out];simp [results,Tryz.results129,go_sem,aL,aD,r0,r1]) rfl ⟨rfl,HB.out⟩
 ·rw [if_neg hv] at hV;have hv':aF lo hi=true:=by cases h:aF lo hi<;>simp_all
  rw [hv'] at HV;have hm:-1099511627776≤lo∧lo≤1099511627776∧-1099511627776≤hi∧hi≤1099511627776:=by simp [aF] at hv';omega
  have HE:=KB (lo+5400000) (hi+5400000) (by omega) (by omega) (by omega) (by omega);have HU:=FE lo hi (by omega) (by omega) (by omega) (by omega);obtain ⟨e1,e2,e3,e4⟩:=RW (lo+5400000) (hi+5400000);generalize mX (lo+5400000) (hi+5400000)=p at*;generalize mW (lo+5400000) (hi+5400000)=q at*;have hV:=aaQ hV;unfold aD at HV HE HU ⊢;replace HE:=aaQ HE;replace HU:=aaQ HU;generalize lo+5400000=lo' at*;generalize hi+5400000=hi' at*;clear hv hv' hm;go_enter Tryz.func129,Tryz.ntmps129;go_wp2_with fail
  refine (HV.out _).mono ?_;rintro e w1 ⟨rfl,hb⟩;have n1:=aB hb K1.out;have n2:=aB hb K2.out;have l1:=n1.lt;have l2:=n2.lt;obtain ⟨⟨a0,a1⟩,a2,a3⟩:=aK n1;obtain ⟨⟨b0,b1⟩,b2,b3⟩:=aK n2;have K2:=aaQ n2;have HB:=aaQ (HB.out.trans (hb.mono HB.out.size));clear hb n1 n2;go_wp2_with fail
  refine (HU.out _).mono ?_;rintro e w3 ⟨rfl,hb⟩;have n2:=aB hb K2.out;have l2:=n2.lt;obtain ⟨⟨b0,b1⟩,b2,b3⟩:=aK n2;have K2:=aaQ n2;have HB:=aaQ (HB.out.trans (hb.mono HB.out.size));clear hb n2;go_wp2_with fail
  refine (HE.out _).mono ?_;rintro e w2 ⟨rfl,hb⟩;have n2:=aB hb K2.out;have l2:=n2.lt;have hz:w.heap.size+2≤w2.heap.size:=by have:=l2;omega
  obtain ⟨⟨b0,b1⟩,b2,b3⟩:=aK n2;have N3:=(n2.write ((1073741824-q)/2) ((1073741824-p+1)/2)).alloc (.cells #[.int .i64 p,.int .i64 q] 88);obtain ⟨⟨r0,r1⟩,r2,r3⟩:=aK N3;have HB:=aaQ (((HB.out.trans (hb.mono HB.out.size)).setCell (p:=⟨w.heap.size+1,0,none⟩) (by simp) (.int .i64 ((1073741824-q)/2)) |>.setCell (p:=⟨w.heap.size+1,1,none⟩) (by simp) (.int .i64 ((1073741824-p+1)/2))).alloc (by simp;omega) (.cells #[.int .i64 p,.int .i64 q] 88));clear hb n2 N3;go_wp2;refine bodyPost_ret (v:=V) (by rw [hV.out];simp [results,Tryz.results129,go_sem,aL,aD,r0,r1]) rfl ⟨rfl,HB.out⟩
end
section
open Go.RowKit SM
theorem VO {u v:Int} (hu:-1073741824≤u) (h:u≤v):mF u≤mF v:=by
 obtain ⟨a0,a1,a2,a3⟩:=pA u hu;obtain ⟨b0,b1,b2,b3⟩:=pA v (by omega);rcases Int.lt_or_le (mF v) (mF u) with h2 | h2
 ·have:=pE (m:=mF v+1) (n:=mF u) (by omega) (by omega) a1;omega
 ·exact h2
theorem lob_sym (n:Int):fZ (n+5400000)=fZ (5400000-n)∧jF (n+5400000)=jF (5400000-n):=by
 have e:dW (n+5400000)=dW (5400000-n)∧(gZ (n+5400000)=gZ (5400000-n)∨jP (dW (5400000-n))=true∧lX (dW (5400000-n))=0):=by
  have a0:=ajQ (n+5400000) (show (21600000:Int)≠0 by omega);have a1:=ahJ (n+5400000) (show (0:Int)<21600000 by omega);have b0:=ajQ (5400000-n) (show (21600000:Int)≠0 by omega);have b1:=ahJ (5400000-n) (show (0:Int)<21600000 by omega);have hs:((n+5400000)%21600000+(5400000-n)%21600000=10800000)∨((n+5400000)%21600000+(5400000-n)%21600000=32400000):=by omega
  have hr:dW (n+5400000)=dW (5400000-n):=by
   unfold dW;generalize (n+5400000)%21600000=p at*;generalize (5400000-n)%21600000=q at*;simp only;repeat' split
   all_goals omega
  refine ⟨hr,?_⟩;by_cases h:(n+5400000)%21600000=10800000∨(5400000-n)%21600000=10800000
  ·right;rw [←hr];have:dW (n+5400000)=0:=by
    unfold dW;generalize (n+5400000)%21600000=p at*;generalize (5400000-n)%21600000=q at*;simp only;repeat' split
    all_goals omega
   rw [this];decide
  ·left;unfold gZ;generalize (n+5400000)%21600000=p at*;generalize (5400000-n)%21600000=q at*;simp only [decide_eq_decide];omega
 unfold fZ jF uS;rw [e.1];rcases e.2 with h | ⟨h,h2⟩
 ·rw [h];exact ⟨rfl,rfl⟩
 ·rw [h,h2];simp only [reduceIte];constructor<;>(repeat' split)<;>rfl
end
section
open Go.RowKit
def GH (n:Int):Bool:=decide (-1099511627776≤n∧n≤1099511627776)
theorem WY (n:Int) (w:World):Calls Tryz.prog 124 #[.int .i64 n] w (bQ (.bool (GH n)) w):=by
 have HB:=aaQ (acQ w.heap.size w);obtain ⟨V,hV⟩:∃V,V=Value.bool (GH n):=⟨_,rfl⟩;have HP:∀b,GH n=b→bQ V w (.returned (.bool b)) w:=fun b h=>⟨by rw [hV,h],HB.out⟩;have HP:=aaQ HP;rw [←hV];clear hV;by_cases h1:-1099511627776≤n
 ·by_cases h2:n≤1099511627776
  ·have HF:=aaQ (HP.out true (by unfold GH;rw [decide_eq_true];omega));go_enter Tryz.func124,Tryz.ntmps124;go_wp2;go_ret;exact HF.out
  ·have HF:=aaQ (HP.out false (by unfold GH;rw [decide_eq_false];omega));go_enter Tryz.func124,Tryz.ntmps124;go_wp2;go_ret;exact HF.out
 ·have HF:=aaQ (HP.out false (by unfold GH;rw [decide_eq_false];omega));go_enter Tryz.func124,Tryz.ntmps124;go_wp2;go_ret;exact HF.out
theorem sQ (lo hi:Int) (w:World):Calls Tryz.prog 58 #[aD lo hi] w (bQ (.bool (aF lo hi)) w):=by
 obtain ⟨V,hV⟩:∃V,V=Value.bool (aF lo hi):=⟨_,rfl⟩;have HP:∀b w',aF lo hi=b→Below w.heap.size w w'→bQ V w (.returned (.bool b)) w':=fun b w' h hb=>⟨by rw [hV,h],hb⟩;have HP:=aaQ HP;have HB:=aaQ ((acQ w.heap.size w).alloc (aaX _) (.cells #[.int .i64 lo,.int .i64 hi] 23));have K1:=aaQ (show dQ 23 _ w.heap.size lo hi from heap_alloc_new w (.cells #[.int .i64 lo,.int .i64 hi] 23));rw [←hV];clear hV;have H1:=WY lo;have H2:=WY hi;have e1:GH lo=decide (-1099511627776≤lo∧lo≤1099511627776):=rfl;have e2:GH hi=decide (-1099511627776≤hi∧hi≤1099511627776):=rfl;have he:aF lo hi=(decide (lo≤hi)&&(GH lo&&GH hi)):=by
  rw [e1,e2];unfold aF;rw [Bool.eq_iff_iff];simp only [Bool.and_eq_true,decide_eq_true_eq];omega
 have HE:=aaQ he;clear e1 e2 he;generalize GH lo=f1 at*;generalize GH hi=f2 at*;have H1:=aaQ H1;have H2:=aaQ H2;unfold aD;by_cases h:lo≤hi
 ·have HE:=aaQ (show aF lo hi=(f1&&f2) by rw [HE.out,decide_eq_true h];rfl);go_enter Tryz.func58,Tryz.ntmps58;go_wp2_with fail
  refine (H1.out _).mono ?_;rintro e w1 ⟨rfl,hb⟩;have HB:=aaQ (HB.out.trans (hb.mono HB.out.size));have k1:=aB hb K1.out;obtain ⟨⟨a0,a1⟩,a2,a3⟩:=aK k1;clear hb k1;cases f1
  ·have HF:=aaQ (HP.out false w1 (by rw [HE.out];rfl) HB.out);go_wp2;go_ret;exact HF.out
  ·go_wp2_with fail
   refine (H2.out _).mono ?_;rintro e w2 ⟨rfl,hb⟩;have HB:=aaQ (HB.out.trans (hb.mono HB.out.size));clear hb;have HF:=aaQ (HP.out f2 w2 (by rw [HE.out];rfl) HB.out);go_wp2;go_ret;exact HF.out
 ·have HF:=aaQ (HP.out false _ (by rw [HE.out,decide_eq_false h];rfl) HB.out);go_enter Tryz.func58,Tryz.ntmps58;go_wp2;go_ret;exact HF.out
end
section
open Go.RowKit
theorem turned_hm2 (n:Int):n.tmod 21600000=n%21600000∨n.tmod 21600000+21600000=n%21600000∧n.tmod 21600000<0:=by
 obtain ⟨k1,k2,_,_⟩:=EK n;by_cases h:0≤n.tmod 21600000
 ·exact .inl (k1 h)
 ·exact .inr ⟨k2 (by omega),by omega⟩
theorem wrap_any (n:Int) (w:World):Calls Tryz.prog 59 #[.int .i64 n] w (bQ (.int .i64 (n%21600000)) w):=by
 have hm:=turned_hm2 n;have HB:=aaQ (acQ w.heap.size w);obtain ⟨m,h⟩:∃m,n%21600000=m:=⟨_,rfl⟩;rw [h] at hm ⊢;have h0:0≤m:=by omega
 clear h;rcases hm with hs | ⟨hs,hs2⟩;all_goals (
  go_enter Tryz.func59,Tryz.ntmps59;go_wp2;go_ret;exact ⟨rfl,HB.out⟩)
def dE (lo hi:Int):Int:=if 21600000≤hi-lo then 0 else lo%21600000
def cJ (lo hi:Int):Int:=if 21600000≤hi-lo then 21600000 else lo%21600000+(hi-lo)
end
end Go.Proofs.YtmididlfnajhiaaGreatDoor
