/-
   .
-/
import Derived.Test.YtajpgkpdhcbngaaGreatDoorU4
import Derived.Deep.RegionHeld3
set_option maxRecDepth 100000
set_option maxHeartbeats 4000000
open Go.RowKit.Below renaming heap_alloc→ahX,refl→aeX
open _root_.Int renaming emod_lt_of_pos→agQ,emod_nonneg→aiQ,mul_nonneg→aeJ,toNat_of_nonneg→ajQ
open Go.Lib renaming hid→aaX
open _root_.Nat renaming le_refl→aaJ
open Go.Proofs.Tryz renaming prog→aaZ
open Go.IntKind (i64 u64)
namespace Go.Proofs.YtajpgkpdhcbngaaGreatDoor
section
open Go.RowKit
def mF (x y:Int):Nat→Int×Int
 | 0=>(x,y)
 | j+1=>((mF x y j).2,-(mF x y j).1)
def qr (x y:Int):Nat:=if 0<x∧0≤y then 0 else if 0<y∧x≤0 then 1 else if x<0∧y≤0 then 2 else 3
theorem rot_bd (x y:Int) (hx:-2147483648≤x∧x≤2147483648) (hy:-2147483648≤y∧y≤2147483648):∀j,(-2147483648≤(mF x y j).1∧(mF x y j).1≤2147483648)∧(-2147483648≤(mF x y j).2∧(mF x y j).2≤2147483648)
 | 0=>⟨hx,hy⟩
 | j+1=>by
  have:=rot_bd x y hx hy j;simp only [mF];omega
theorem qr_le (x y:Int):qr x y≤3:=by
 unfold qr;split
 ·omega
 ·split
  ·omega
  ·split<;>omega
theorem qr_not (x y:Int) (j:Nat) (h:j<qr x y):¬(0<(mF x y j).1∧0≤(mF x y j).2):=by
 unfold qr at h;split at h
 ·omega
 ·split at h
  ·obtain rfl:j=0:=by omega
   simp only [mF];omega
  ·split at h
   ·rcases (show j=0∨j=1 by omega) with rfl | rfl<;>simp only [mF]<;>omega
   ·rcases (show j=0∨j=1∨j=2 by omega) with rfl | rfl | rfl<;>simp only [mF]<;>omega
theorem qr_at (x y:Int) (h:¬(x=0∧y=0)):0<(mF x y (qr x y)).1∧0≤(mF x y (qr x y)).2:=by
 unfold qr;split
 ·simp only [mF];omega
 ·split
  ·simp only [mF];omega
  ·split
   ·simp only [mF];omega
   ·simp only [mF];omega
def rF (f:Nat→Bool):Nat→Nat→Nat→Nat
 | 0,low,_=>low
 | n+1,low,high=>if high-low≤1 then low else if f ((low+high)/2) then rF f n ((low+high)/2) high else rF f n low ((low+high)/2)
def CB (x y:Int):Nat:=rF (kD (mF x y (qr x y)).1.toNat (mF x y (qr x y)).2.toNat) 23 0 5400000
def mI (x y:Int):Int:=5400000*(qr x y:Int)+(CB x y:Int)
def yJ (x y:Int):Bool:=(CB x y==0&&(mF x y (qr x y)).2==0)||(CB x y==2700000&&(mF x y (qr x y)).1==(mF x y (qr x y)).2)
theorem mul_bd {x v:Int} (hx:-2147483648≤x∧x≤2147483648) (hv:-2147483648≤v∧v≤2147483648):-4611686018427387904≤x*v∧x*v≤4611686018427387904:=by
 have h1:=aeJ (show 0≤2147483648-x by omega) (show 0≤2147483648-v by omega);have h2:=aeJ (show 0≤2147483648+x by omega) (show 0≤2147483648+v by omega);have h3:=aeJ (show 0≤2147483648-x by omega) (show 0≤2147483648+v by omega);have h4:=aeJ (show 0≤2147483648+x by omega) (show 0≤2147483648-v by omega);rw [Int.sub_mul,Int.mul_sub,Int.mul_sub] at h1;rw [Int.add_mul,Int.mul_add,Int.mul_add] at h2;rw [Int.sub_mul,Int.mul_add,Int.mul_add] at h3;rw [Int.add_mul,Int.mul_sub,Int.mul_sub] at h4;generalize x*v=P at*;omega
theorem jG (x y u v:Int) (hx:-2147483648≤x∧x≤2147483648) (hy:-2147483648≤y∧y≤2147483648) (hu:-2147483648≤u∧u≤2147483648) (hv:-2147483648≤v∧v≤2147483648) (w:World):
  Calls aaZ 73 #[aG x y,aG u v] w (cI (.bool (decide (y*u≤x*v))) w):=by
 have HB:=aaX (((aeX w.heap.size w).alloc (aaJ _) (.cells #[.int .i64 x,.int .i64 y] 106)).alloc (by simp) (.cells #[.int .i64 u,.int .i64 v] 106));have b1:=mul_bd hx hv;have b2:=mul_bd hy hu;have w1:i64.wrap (x*v)=x*v:=IntWalk.i64_in _ (by omega);have w2:i64.wrap (y*u)=y*u:=IntWalk.i64_in _ (by omega);unfold aG;go_enter Tryz.func73,Tryz.ntmps73;go_wp2;go_ret;exact ⟨rfl,HB.out⟩
end
section
open Go.RowKit
theorem ZK (j:Int) (h0:0≤j) (h:j≤2):(16200000-qC (.int .i64 (5400000*j+5400000))).toNat<(16200000-qC (.int .i64 (5400000*j))).toNat:=by
 simp only [qC];omega
theorem meas_lo {L N H:Int} (h1:L<N) (h2:N<H):(qC (.int .i64 N)-qC (.int .i64 L)).toNat<(qC (.int .i64 H)-qC (.int .i64 L)).toNat:=by
 simp only [qC];omega
theorem meas_hi {L N H:Int} (h1:L<N) (h2:N<H):(qC (.int .i64 H)-qC (.int .i64 N)).toNat<(qC (.int .i64 H)-qC (.int .i64 L)).toNat:=by
 simp only [qC];omega
theorem MQ (x y:Int) (hx:-2147483648≤x∧x≤2147483648) (hy:-2147483648≤y∧y≤2147483648) (h0:¬(x=0∧y=0)) (w:World):
  Calls aaZ 74 #[aG x y] w (cI (.tuple #[.int .i64 (mI x y),.bool (yJ x y)]) w):=by
 obtain ⟨V,hV⟩:∃V,V=Value.tuple #[.int .i64 (mI x y),.bool (yJ x y)]:=⟨_,rfl⟩;rw [←hV];unfold mI yJ CB at hV;have hq:=qr_le x y;have hat:=qr_at x y h0;have hnot:=aaX (qr_not x y);have hbd:=aaX (rot_bd x y hx hy);have hbq:=rot_bd x y hx hy (qr x y);have HX:(((mF x y (qr x y)).1.toNat:Nat):Int)=(mF x y (qr x y)).1:=ajQ (by omega);have HY:(((mF x y (qr x y)).2.toNat:Nat):Int)=(mF x y (qr x y)).2:=ajQ (by omega);have K1:=aaX (show dG 106 _ w.heap.size x y from heap_alloc_new w (.cells #[.int .i64 x,.int .i64 y] 106));have HB:=aaX ((aeX w.heap.size w).alloc (aaJ _) (.cells #[.int .i64 x,.int .i64 y] 106));have hR0:=aaX (show (mF x y 0).1=x∧(mF x y 0).2=y from ⟨rfl,rfl⟩);have hRs:=aaX (show ∀j,(mF x y (j+1)).1=(mF x y j).2∧(mF x y (j+1)).2=-(mF x y j).1 from fun j=>⟨rfl,rfl⟩);generalize (mF x y (qr x y)).1.toNat=X at*;generalize (mF x y (qr x y)).2.toNat=Y at*;rw [←HX,←HY] at hV hat hbq;generalize qr x y=Q at*;replace HX:=aaX HX;replace HY:=aaX HY;replace hV:=aaX hV;clear hx hy h0;unfold aG;go_enter Tryz.func74,Tryz.ntmps74;go_wp2;go_loopw [4] (fun t wr=>∃j:Nat,j≤Q∧t=.int .i64 (5400000*(j:Int))∧dG 106 wr w.heap.size (mF x y j).1 (mF x y j).2∧Below w.heap.size w wr) (fun t _=>(16200000-qC t).toNat)
 case atStart=>exact ⟨0,by omega,by simp,K1.out,HB.out⟩
 case round=>
  clear K1 HB;obtain ⟨j,hj,rfl,k1,hb⟩:=hrel;have hbj:=hbd.out j;have l1:=k1.lt;obtain ⟨⟨a0,a1⟩,a2,a3⟩:=aL k1;have HB:=aaX hb;rcases Nat.lt_or_ge j Q with hlt | hge
  ·have hn:=hnot.out j hlt;have hs:=aaX (hRs.out j);generalize (mF x y j).1=a at*;generalize (mF x y j).2=b at*;have K2:=aaX (k1.write b (-a));have HB2:=aaX ((hb.setCell (p:=⟨w.heap.size,0,none⟩) (aaJ _) (.int .i64 b)).setCell (p:=⟨w.heap.size,1,none⟩) (aaJ _) (.int .i64 (-a)));clear k1 hb;replace hat:=aaX hat;replace hbq:=aaX hbq;obtain ⟨⟨_,_⟩,_,_⟩:=hbj;have hj3:(j:Int)≤2:=by omega
   have hlt:=aaX hlt;clear hq hj;by_cases ha:0<a
   ·have hb':¬0≤b:=fun h=>hn ⟨ha,h⟩;clear hn;go_wp2;go_roundw
    case rel=>exact ⟨j+1,hlt.out,by go_num,by rw [hs.out.1,hs.out.2];exact K2.out,HB2.out⟩
    case measure=>exact ZK j (by omega) hj3
   ·clear hn;go_wp2;go_roundw
    case rel=>exact ⟨j+1,hlt.out,by go_num,by rw [hs.out.1,hs.out.2];exact K2.out,HB2.out⟩
    case measure=>exact ZK j (by omega) hj3
  ·obtain rfl:j=Q:=by omega
   have hx1:=HX.out;have hy1:=HY.out;generalize (mF x y j).1=a at*;generalize (mF x y j).2=b at*;obtain ⟨g1,g2⟩:=hat;obtain ⟨⟨g3,g4⟩,g5,g6⟩:=hbq;have ha0:0<a:=by omega
   have hb0:0≤b:=by omega
   have ha1:a≤2147483648:=by omega
   have hb1:b≤2147483648:=by omega
   have hXb:X≤2147483648:=by omega
   have hYb:Y≤2147483648:=by omega
   have hq3:(j:Int)≤3:=by omega
   have HRe:Hid (∀k:Nat,k≤5400000→∀w,Calls aaZ 124 #[aG a b,.int .i64 (k:Int)] w (cI (.bool (kD X Y k)) w)):=aaX (fun k hk w=>by rw [←hx1,←hy1];exact ZF X Y k hXb hYb hk w);have K1:=aaX k1;have HXY:=aaX (And.intro hx1 hy1);clear hq hj hge HX HY hR0 hRs hnot hbd hbj k1 hb g1 g2 g3 g4 g5 g6;have hV2:=hV.out;rw [hx1,hy1] at hV2;clear hV HXY hx1 hy1;generalize hR:rF (kD X Y) 23 0 5400000=R at hV2;replace hV2:=aaX hV2;have hR:=aaX hR;go_wp2;go_loopw [5,6] (fun lo hi wr2=>∃n l h:Nat,lo=.int .i64 (l:Int)∧hi=.int .i64 (h:Int)∧l<h∧h≤5400000∧h-l≤2^n∧rF (kD X Y) n l h=R∧dG 106 wr2 w.heap.size a b∧Below w.heap.size w wr2) (fun lo hi _=>(qC hi-qC lo).toNat)
   case atStart=>exact ⟨23,0,5400000,rfl,rfl,by omega,by omega,by omega,hR.out,K1.out,HB.out⟩
   case round=>
    clear hR K1 HB a0 a1 a2 a3 l1;obtain ⟨n,l,h,rfl,rfl,hlh,hh,hn,hs,k1,hb⟩:=hrel;have l1:=k1.lt;obtain ⟨⟨a0,a1⟩,a2,a3⟩:=aL k1;have K1:=aaX k1;have HB:=aaX hb;have hn:=aaX hn;have hs:=aaX hs;clear k1 hb;by_cases hc:h-l≤1
    ·have hRl:R=l:=by
      have:=hs.out;cases n with
      | zero=>exact this.symm
      | succ n=>rw [rF,if_pos hc] at this;exact this.symm
     have hc2:(h:Int)-(l:Int)≤1:=by omega
     obtain ⟨L,hL⟩:∃L:Int,L=(l:Int):=⟨_,rfl⟩;obtain ⟨H,hH⟩:∃H:Int,H=(h:Int):=⟨_,rfl⟩;have i1:0≤L:=by omega
     have i3:H-L≤1:=by omega
     have i4:H≤5400000:=by omega
     have i5:L<H:=by omega
     rw [←hL,←hH];replace hL:=aaX hL;replace hH:=aaX hH;have hRL:=aaX (show (R:Int)=L by have:=hL.out;omega);clear hlh hh hc hc2 hn hs;have wj:i64.wrap (5400000*(j:Int))=5400000*(j:Int):=IntWalk.i64_in _ (by omega);have wl:i64.wrap (5400000*(j:Int)+L)=5400000*(j:Int)+L:=IntWalk.i64_in _ (by omega);by_cases z1:L=0
     ·by_cases z2:b=0
      ·have hE:(R==0&&b==0||R==2700000&&a==b)=true:=by (have:R=0:=by (have:=hRL.out;omega));simp [this,z2]
       have HF:=aaX (show ∀nq,cI V w (.returned (.tuple #[.int .i64 (5400000*(j:Int)+L),.bool true])) (wr.drewN nq) from fun nq=>⟨by rw [hV2.out,hE,hRl,hL.out],below_drewN HB.out nq⟩);clear hE hRl;go_wp2;go_quiet (fail)
       go_wp2;refine bodyPost_ret (v:=.tuple #[.int .i64 (5400000*(j:Int)+L),.bool true]) (by simp [results,Tryz.results74,go_sem,z1,z2]) rfl (HF.out _)
      ·have hE:(R==0&&b==0||R==2700000&&a==b)=false:=by (have:R=0:=by (have:=hRL.out;omega));simp [this,z2]
       have HF:=aaX (show ∀nq,cI V w (.returned (.tuple #[.int .i64 (5400000*(j:Int)+L),.bool false])) (wr.drewN nq) from fun nq=>⟨by rw [hV2.out,hE,hRl,hL.out],below_drewN HB.out nq⟩);clear hE hRl;go_wp2;go_quiet (fail)
       go_wp2;refine bodyPost_ret (v:=.tuple #[.int .i64 (5400000*(j:Int)+L),.bool false]) (by simp [results,Tryz.results74,go_sem,z1,z2]) rfl (HF.out _)
     ·by_cases z2:L=2700000
      ·by_cases z3:a=b
       ·have hE:(R==0&&b==0||R==2700000&&a==b)=true:=by (have:R=2700000:=by (have:=hRL.out;omega));simp [this,z3]
        have HF:=aaX (show ∀nq,cI V w (.returned (.tuple #[.int .i64 (5400000*(j:Int)+L),.bool true])) (wr.drewN nq) from fun nq=>⟨by rw [hV2.out,hE,hRl,hL.out],below_drewN HB.out nq⟩);clear hE hRl;go_wp2;go_quiet (fail)
        go_wp2;refine bodyPost_ret (v:=.tuple #[.int .i64 (5400000*(j:Int)+L),.bool true]) (by simp [results,Tryz.results74,go_sem,z2,z3]) rfl (HF.out _)
       ·have hE:(R==0&&b==0||R==2700000&&a==b)=false:=by (have:R=2700000:=by (have:=hRL.out;omega));simp [this,z3]
        have HF:=aaX (show ∀nq,cI V w (.returned (.tuple #[.int .i64 (5400000*(j:Int)+L),.bool false])) (wr.drewN nq) from fun nq=>⟨by rw [hV2.out,hE,hRl,hL.out],below_drewN HB.out nq⟩);clear hE hRl;go_wp2;go_quiet (fail)
        go_wp2;refine bodyPost_ret (v:=.tuple #[.int .i64 (5400000*(j:Int)+L),.bool false]) (by simp [results,Tryz.results74,go_sem,z2,z3]) rfl (HF.out _)
      ·have hE:(R==0&&b==0||R==2700000&&a==b)=false:=by (have h1:R≠0:=by (have:=hRL.out;omega));(have h2:R≠2700000:=by (have:=hRL.out;omega));simp [h1,h2]
       have HF:=aaX (show ∀nq,cI V w (.returned (.tuple #[.int .i64 (5400000*(j:Int)+L),.bool false])) (wr.drewN nq) from fun nq=>⟨by rw [hV2.out,hE,hRl,hL.out],below_drewN HB.out nq⟩);clear hE hRl;go_wp2;go_quiet (fail)
       go_wp2;refine bodyPost_ret (v:=.tuple #[.int .i64 (5400000*(j:Int)+L),.bool false]) (by simp [results,Tryz.results74,go_sem]) rfl (HF.out _)
    ·obtain ⟨n,rfl⟩:∃n',n=n'+1:=⟨n-1,by
      have:=hn.out;cases n with
      | zero=>simp at this;omega
      | succ n=>omega⟩
     obtain ⟨m,hm,hm1,hm2⟩:∃m,m=(l+h)/2∧l<m∧m<h:=⟨_,rfl,by omega,by omega⟩;have hp:2^(n+1)=2*2^n:=by rw [Nat.pow_succ];omega
     have hmi:((l:Int)+(h:Int))/2=(m:Int):=by omega
     have hmt:i64.wrap (((l:Int)+(h:Int)).tdiv 2)=(m:Int):=by rw [Int.tdiv_eq_ediv_of_nonneg (by omega),hmi];exact IntWalk.i64_in _ (by omega)
     clear hmi;have HM:=aaX (HRe.out m (by omega));have hs1:=hs.out;rw [rF,if_neg hc,←hm] at hs1;have hn1:m-l≤2^n∧h-m≤2^n:=by have:=hn.out;omega
     have hc2:¬(h:Int)-(l:Int)≤1:=by omega
     generalize kD X Y m=r at*;have HS:=aaX hs1;have hn1:=aaX hn1;have hm:=aaX hm;clear hn hs hs1 hp;unfold aG at HM;obtain ⟨L,hL⟩:∃L:Int,L=(l:Int):=⟨_,rfl⟩;obtain ⟨H,hH⟩:∃H:Int,H=(h:Int):=⟨_,rfl⟩;obtain ⟨N,hN⟩:∃N:Int,N=(m:Int):=⟨_,rfl⟩;have i1:0≤L:=by omega
     have i2:L<N:=by omega
     have i3:N<H:=by omega
     have i4:H≤5400000:=by omega
     have i5:1<H-L:=by omega
     rw [←hL,←hH];rw [←hL,←hH,←hN] at hmt;rw [←hN] at HM;have hF:=aaX (And.intro hm1 (And.intro hm2 (And.intro hlh hh)));replace hL:=aaX hL;replace hH:=aaX hH;replace hN:=aaX hN;clear hm1 hm2 hlh hh hc hc2;go_wp2_with fail
     refine (HM.out _).mono ?_;rintro e w1 ⟨rfl,hb⟩;have K2:=aaX (aD hb K1.out);have HB2:=aaX (HB.out.trans (hb.mono HB.out.size));clear hb;cases r
     ·have HS1:=aaX (show rF (kD X Y) n l m=R from HS.out);clear HS;go_wp2;go_roundw
      case rel=>exact ⟨n,l,m,congrArg (Value.int .i64) hL.out,congrArg (Value.int .i64) hN.out,hF.out.1,by have:=hF.out;omega,hn1.out.1,HS1.out,K2.out,HB2.out⟩
      case measure=>exact meas_lo i2 i3
     ·have HS1:=aaX (show rF (kD X Y) n m h=R from HS.out);clear HS;go_wp2;go_roundw
      case rel=>exact ⟨n,m,h,congrArg (Value.int .i64) hN.out,congrArg (Value.int .i64) hH.out,hF.out.2.1,hF.out.2.2.2,hn1.out.2,HS1.out,K2.out,HB2.out⟩
      case measure=>exact meas_hi i2 i3
end
section
open Go.RowKit
def pQ (p q:Int×Int):Bool:=decide (p.2*q.1≤p.1*q.2)
def IF (yl yh xl xh:Int):Nat→Int×Int
 | 0=>(xl,yl)
 | 1=>(xl,yh)
 | 2=>(xh,yl)
 | _=>(xh,yh)
def iF (yl yh xl xh:Int):Nat→Int×Int
 | 0=>(xl,yl)
 | j+1=>if pQ (IF yl yh xl xh j) (iF yl yh xl xh j) then IF yl yh xl xh j else iF yl yh xl xh j
def iG (yl yh xl xh:Int):Nat→Int×Int
 | 0=>(xl,yl)
 | j+1=>if pQ (iG yl yh xl xh j) (IF yl yh xl xh j) then IF yl yh xl xh j else iG yl yh xl xh j
def upE (lo hi:Int) (ex:Bool):Int:=(if hi<lo then hi+21600000 else hi)+(if ex then 0 else 1)
def dI (yl yh xl xh:Int):Bool:=decide (xl≤0∧0≤xh∧yl≤0∧0≤yh)
def aX (yl yh xl xh:Int):Int×Int×Int:=
 if (aN xl xh&&aN yl yh)=false then (0,0,1)
 else if dI yl yh xl xh then (0,21600000,0)
 else (mI (iF yl yh xl xh 4).1 (iF yl yh xl xh 4).2,upE (mI (iF yl yh xl xh 4).1 (iF yl yh xl xh 4).2) (mI (iG yl yh xl xh 4).1 (iG yl yh xl xh 4).2) (yJ (iG yl yh xl xh 4).1 (iG yl yh xl xh 4).2),0)
theorem blk3 (w:World) (a b c:Obj):(((w.alloc a).alloc b).alloc c).heap[w.heap.size]? =some a∧(((w.alloc a).alloc b).alloc c).heap[w.heap.size+ 1]? =some b∧(((w.alloc a).alloc b).alloc c).heap[w.heap.size+1+ 1]? =some c:=by
 refine ⟨?_,?_,?_⟩
 ·rw [ahX _ _ _ (by simp;omega),gH]
 ·rw [ahX _ _ _ (by simp),eM]
 ·have:=heap_alloc_new ((w.alloc a).alloc b) c;simpa using this
theorem cor_mem (yl yh xl xh:Int) (j:Nat):((IF yl yh xl xh j).1=xl∨(IF yl yh xl xh j).1=xh)∧((IF yl yh xl xh j).2=yl∨(IF yl yh xl xh j).2=yh):=by
 unfold IF;split<;>simp
theorem wO (yl yh xl xh:Int):∀j,((iF yl yh xl xh j).1=xl∨(iF yl yh xl xh j).1=xh)∧((iF yl yh xl xh j).2=yl∨(iF yl yh xl xh j).2=yh)
 | 0=>by simp [iF]
 | j+1=>by
  unfold iF;split
  ·exact cor_mem _ _ _ _ _
  ·exact wO yl yh xl xh j
theorem wS (yl yh xl xh:Int):∀j,((iG yl yh xl xh j).1=xl∨(iG yl yh xl xh j).1=xh)∧((iG yl yh xl xh j).2=yl∨(iG yl yh xl xh j).2=yh)
 | 0=>by simp [iG]
 | j+1=>by
  unfold iG;split
  ·exact cor_mem _ _ _ _ _
  ·exact wS yl yh xl xh j
theorem bear_bad (yl yh xl xh:Int) (h:(aN xl xh&&aN yl yh)=false) (w:World):Calls aaZ 34 #[aG yl yh,aG xl xh] w (cI (aP (0,0,1)) w):=by
 have HX:=aaX (iU xl xh);have HY:=aaX (iU yl yh);have b3:=blk3 w (.cells #[.int .i64 yl,.int .i64 yh] 66) (.cells #[.int .i64 xl,.int .i64 xh] 66) (.cells #[.int .i64 0,.int .i64 0] 23);have K2:=aaX (show dG 66 _ w.heap.size yl yh from b3.1);have K3:=aaX (show dG 66 _ (w.heap.size+1) xl xh from b3.2.1);have K4:=aaX (show dG 23 _ (w.heap.size+1+1) 0 0 from b3.2.2);have HB:=aaX ((((aeX w.heap.size w).alloc (aaJ _) (.cells #[.int .i64 yl,.int .i64 yh] 66)).alloc (by simp) (.cells #[.int .i64 xl,.int .i64 xh] 66)).alloc (by simp;omega) (.cells #[.int .i64 0,.int .i64 0] 23));clear b3;cases hx:aN xl xh
 ·rw [hx] at HX;clear h hx HY;unfold aG at HX ⊢;go_enter Tryz.func34,Tryz.ntmps34;go_wp2_with fail
  refine (HX.out _).mono ?_;rintro e w1 ⟨rfl,hb⟩;have k4:=aD hb K4.out;have l4:=k4.lt;obtain ⟨⟨a0,a1⟩,a2,a3⟩:=aL k4;have KF:=k4.write 0 0;obtain ⟨⟨r0,r1⟩,r2,r3⟩:=aL KF;have HF:=aaX (((HB.out.trans (hb.mono HB.out.size)).setCell (p:=⟨w.heap.size+1+1,0,none⟩) (by simp;omega) (.int .i64 0)).setCell (p:=⟨w.heap.size+1+1,1,none⟩) (by simp;omega) (.int .i64 0));clear hb k4 KF;go_wp2;refine bodyPost_ret (v:=aP (0,0,1)) (by simp [results,Tryz.results34,go_sem,aP,aG,r0,r1]) rfl ⟨rfl,HF.out⟩
 ·have hy:aN yl yh=false:=by rw [hx] at h;simpa using h
  rw [hx] at HX;rw [hy] at HY;clear h hx hy;unfold aG at HX HY ⊢;go_enter Tryz.func34,Tryz.ntmps34;go_wp2_with fail
  refine (HX.out _).mono ?_;rintro e w1 ⟨rfl,hb⟩;have k2:=aD hb K2.out;have l2:=k2.lt;obtain ⟨⟨c0,c1⟩,c2,c3⟩:=aL k2;have K4:=aaX (aD hb K4.out);have HB:=aaX (HB.out.trans (hb.mono HB.out.size));clear hb k2;go_wp2_with fail
  refine (HY.out _).mono ?_;rintro e w2 ⟨rfl,hb⟩;have k4:=aD hb K4.out;have l4:=k4.lt;obtain ⟨⟨a0,a1⟩,a2,a3⟩:=aL k4;have KF:=k4.write 0 0;obtain ⟨⟨r0,r1⟩,r2,r3⟩:=aL KF;have HF:=aaX (((HB.out.trans (hb.mono HB.out.size)).setCell (p:=⟨w.heap.size+1+1,0,none⟩) (by simp;omega) (.int .i64 0)).setCell (p:=⟨w.heap.size+1+1,1,none⟩) (by simp;omega) (.int .i64 0));clear hb k4 KF;go_wp2;refine bodyPost_ret (v:=aP (0,0,1)) (by simp [results,Tryz.results34,go_sem,aP,aG,r0,r1]) rfl ⟨rfl,HF.out⟩
theorem VF (yl yh xl xh:Int) (hx:aN xl xh=true) (hy:aN yl yh=true) (h:dI yl yh xl xh=true) (w:World):Calls aaZ 34 #[aG yl yh,aG xl xh] w (cI (aP (0,21600000,0)) w):=by
 have HX:=aaX (iU xl xh);have HY:=aaX (iU yl yh);have b3:=blk3 w (.cells #[.int .i64 yl,.int .i64 yh] 66) (.cells #[.int .i64 xl,.int .i64 xh] 66) (.cells #[.int .i64 0,.int .i64 0] 23);have K2:=aaX (show dG 66 _ w.heap.size yl yh from b3.1);have K3:=aaX (show dG 66 _ (w.heap.size+1) xl xh from b3.2.1);have K4:=aaX (show dG 23 _ (w.heap.size+1+1) 0 0 from b3.2.2);have HB:=aaX ((((aeX w.heap.size w).alloc (aaJ _) (.cells #[.int .i64 yl,.int .i64 yh] 66)).alloc (by simp) (.cells #[.int .i64 xl,.int .i64 xh] 66)).alloc (by simp;omega) (.cells #[.int .i64 0,.int .i64 0] 23));clear b3;rw [hx] at HX;rw [hy] at HY;clear hx hy;simp only [dI,decide_eq_true_eq] at h;obtain ⟨h1,h2,h3,h4⟩:=h;unfold aG at HX HY ⊢;go_enter Tryz.func34,Tryz.ntmps34;go_wp2_with fail
 refine (HX.out _).mono ?_;rintro e w1 ⟨rfl,hb⟩;have k2:=aD hb K2.out;have l2:=k2.lt;obtain ⟨⟨c0,c1⟩,c2,c3⟩:=aL k2;have K2:=aaX k2;have K3:=aaX (aD hb K3.out);have K4:=aaX (aD hb K4.out);have HB:=aaX (HB.out.trans (hb.mono HB.out.size));clear hb k2;go_wp2_with fail
 refine (HY.out _).mono ?_;rintro e w2 ⟨rfl,hb⟩;have k2:=aD hb K2.out;have k3:=aD hb K3.out;have k4:=aD hb K4.out;have l2:=k2.lt;have l3:=k3.lt;have l4:=k4.lt;obtain ⟨⟨d0,d1⟩,d2,d3⟩:=aL k2;obtain ⟨⟨e0,e1⟩,e2,e3⟩:=aL k3;obtain ⟨⟨a0,a1⟩,a2,a3⟩:=aL k4;have KF:=k4.write 0 21600000;obtain ⟨⟨r0,r1⟩,r2,r3⟩:=aL KF;have HF:=aaX (((HB.out.trans (hb.mono HB.out.size)).setCell (p:=⟨w.heap.size+1+1,0,none⟩) (by simp;omega) (.int .i64 0)).setCell (p:=⟨w.heap.size+1+1,1,none⟩) (by simp;omega) (.int .i64 21600000));clear hb k2 k3 k4 KF;go_wp2;refine bodyPost_ret (v:=aP (0,21600000,0)) (by simp [results,Tryz.results34,go_sem,aP,aG,r0,r1]) rfl ⟨rfl,HF.out⟩
end
section
open Go.RowKit
theorem keep8 {w:World} {b:Nat} {t:TypeId} {v0 v1 v2 v3 v4 v5 v6 v7:Value} (h:w.heap[b]? =some (.cells #[v0,v1,v2,v3,v4,v5,v6,v7] t (0,0))):
  (w.cell? ⟨b,0,none⟩=some v0∧w.cell? ⟨b,1,none⟩=some v1∧w.cell? ⟨b,2,none⟩=some v2∧w.cell? ⟨b,3,none⟩=some v3∧w.cell? ⟨b,4,none⟩=some v4∧w.cell? ⟨b,5,none⟩=some v5∧w.cell? ⟨b,6,none⟩=some v6∧w.cell? ⟨b,7,none⟩=some v7):=by
 refine ⟨?_,?_,?_,?_,?_,?_,?_,?_⟩<;>simp [World.cell?,h]
theorem idx0 (a b c d e f g h:Int) (w:World):(Instr.index 107 (.agg #[.int .i64 a,.int .i64 b,.int .i64 c,.int .i64 d,.int .i64 e,.int .i64 f,.int .i64 g,.int .i64 h]) (.int .i64 0)).run aaZ w=.ok (.agg #[.int .i64 a,.int .i64 b]) w:=by
 have u:=Tryz.underlying106;have a3:=Tryz.isAgg106;have z3:=Tryz.sizeOf106;simp [Instr.index,run_underlying Tryz.underlying107,asIntOf,go_sem]
theorem idx1 (a b c d e f g h:Int) (w:World):(Instr.index 107 (.agg #[.int .i64 a,.int .i64 b,.int .i64 c,.int .i64 d,.int .i64 e,.int .i64 f,.int .i64 g,.int .i64 h]) (.int .i64 1)).run aaZ w=.ok (.agg #[.int .i64 c,.int .i64 d]) w:=by
 have u:=Tryz.underlying106;have a3:=Tryz.isAgg106;have z3:=Tryz.sizeOf106;simp [Instr.index,run_underlying Tryz.underlying107,asIntOf,go_sem]
theorem idx2 (a b c d e f g h:Int) (w:World):(Instr.index 107 (.agg #[.int .i64 a,.int .i64 b,.int .i64 c,.int .i64 d,.int .i64 e,.int .i64 f,.int .i64 g,.int .i64 h]) (.int .i64 2)).run aaZ w=.ok (.agg #[.int .i64 e,.int .i64 f]) w:=by
 have u:=Tryz.underlying106;have a3:=Tryz.isAgg106;have z3:=Tryz.sizeOf106;simp [Instr.index,run_underlying Tryz.underlying107,asIntOf,go_sem]
theorem idx3 (a b c d e f g h:Int) (w:World):(Instr.index 107 (.agg #[.int .i64 a,.int .i64 b,.int .i64 c,.int .i64 d,.int .i64 e,.int .i64 f,.int .i64 g,.int .i64 h]) (.int .i64 3)).run aaZ w=.ok (.agg #[.int .i64 g,.int .i64 h]) w:=by
 have u:=Tryz.underlying106;have a3:=Tryz.isAgg106;have z3:=Tryz.sizeOf106;simp [Instr.index,run_underlying Tryz.underlying107,asIntOf,go_sem]
theorem TV (f:Nat→Bool):∀n l h:Nat,l≤h→l≤rF f n l h∧rF f n l h≤h
 | 0,l,h,hl=>⟨aaJ _,hl⟩
 | n+1,l,h,hl=>by
  unfold rF;split
  ·exact ⟨aaJ _,hl⟩
  ·split
   ·have:=TV f n ((l+h)/2) h (by omega);omega
   ·have:=TV f n l ((l+h)/2) (by omega);omega
theorem angF_bd (x y:Int):0≤mI x y∧mI x y≤21600000:=by
 have h:=qr_le x y;have h2:=TV (kD (mF x y (qr x y)).1.toNat (mF x y (qr x y)).2.toNat) 23 0 5400000 (by omega);unfold mI CB;omega
theorem bear_main (yl yh xl xh:Int) (hx:aN xl xh=true) (hy:aN yl yh=true) (h:dI yl yh xl xh=false) (w:World):
  Calls aaZ 34 #[aG yl yh,aG xl xh] w (cI (aP (mI (iF yl yh xl xh 4).1 (iF yl yh xl xh 4).2,upE (mI (iF yl yh xl xh 4).1 (iF yl yh xl xh 4).2) (mI (iG yl yh xl xh 4).1 (iG yl yh xl xh 4).2) (yJ (iG yl yh xl xh 4).1 (iG yl yh xl xh 4).2),0)) w):=by
 obtain ⟨V,hV⟩:∃V,V=aP (mI (iF yl yh xl xh 4).1 (iF yl yh xl xh 4).2,upE (mI (iF yl yh xl xh 4).1 (iF yl yh xl xh 4).2) (mI (iG yl yh xl xh 4).1 (iG yl yh xl xh 4).2) (yJ (iG yl yh xl xh 4).1 (iG yl yh xl xh 4).2),0):=⟨_,rfl⟩;rw [←hV];have HX:=aaX (iU xl xh);have HY:=aaX (iU yl yh);rw [hx] at HX;rw [hy] at HY;simp only [aN,decide_eq_true_eq] at hx hy;obtain ⟨x1,x2,x3⟩:=hx;obtain ⟨y1,y2,y3⟩:=hy;have ho:¬(xl≤0∧0≤xh∧yl≤0∧0≤yh):=by simpa [dI] using h
 clear h;have b3:=blk3 w (.cells #[.int .i64 yl,.int .i64 yh] 66) (.cells #[.int .i64 xl,.int .i64 xh] 66) (.cells #[.int .i64 0,.int .i64 0] 23);have K2:=aaX (show dG 66 _ w.heap.size yl yh from b3.1);have K3:=aaX (show dG 66 _ (w.heap.size+1) xl xh from b3.2.1);have K4:=aaX (show dG 23 _ (w.heap.size+1+1) 0 0 from b3.2.2);have HB:=aaX ((((aeX w.heap.size w).alloc (aaJ _) (.cells #[.int .i64 yl,.int .i64 yh] 66)).alloc (by simp) (.cells #[.int .i64 xl,.int .i64 xh] 66)).alloc (by simp;omega) (.cells #[.int .i64 0,.int .i64 0] 23));clear b3;have HO:=aaX ho;replace hV:=aaX hV;clear ho;unfold aG at HX HY ⊢;go_enter Tryz.func34,Tryz.ntmps34;go_wp2_with fail
 refine (HX.out _).mono ?_;rintro e w1 ⟨rfl,hb⟩;have k2:=aD hb K2.out;have l2:=k2.lt;obtain ⟨⟨c0,c1⟩,c2,c3⟩:=aL k2;have K2:=aaX k2;have K3:=aaX (aD hb K3.out);have K4:=aaX (aD hb K4.out);have HB:=aaX (HB.out.trans (hb.mono HB.out.size));clear hb k2;go_wp2_with fail
 refine (HY.out _).mono ?_;rintro e w2 ⟨rfl,hb⟩;have k2:=aD hb K2.out;have k3:=aD hb K3.out;have k4:=aD hb K4.out;have l2:=k2.lt;have l3:=k3.lt;have l4:=k4.lt;obtain ⟨⟨d0,d1⟩,d2,d3⟩:=aL k2;obtain ⟨⟨e0,e1⟩,e2,e3⟩:=aL k3;have K4:=aaX k4;have HB:=aaX (HB.out.trans (hb.mono HB.out.size));clear hb k2 k3 k4 HX HY K2 K3;go_upto_region 3 with fail
 go_cut [41] from 24 to 41 (fun c wx=>c=.bool false∧wx=w2)
 case first=>
  by_cases z1:xl≤0
  ·by_cases z2:0≤xh
   ·by_cases z3:yl≤0
    ·have z4:¬0≤yh:=fun h=>HO.out ⟨z1,z2,z3,h⟩;go_wp2_with fail
     go_meet
     exact ⟨by simp,rfl⟩
    ·go_wp2_with fail
     go_meet
     exact ⟨by simp,rfl⟩
   ·go_wp2_with fail
    go_meet
    exact ⟨by simp,rfl⟩
  ·go_wp2_with fail
   go_meet
   exact ⟨by simp,rfl⟩
 case rest=>
  obtain ⟨rfl,rfl⟩:=hcut;generalize wc=wd at*;have hs2:=HB.out.size;have HI:∀p7 p8 b7 b8,(p7=Value.pointer (some ⟨b7,0,none⟩)∧p8=Value.pointer (some ⟨b8,0,none⟩))→((b7=wd.heap.size+1∧b8=wd.heap.size+1+1)∨(b8=wd.heap.size+1∧b7=wd.heap.size+1+1))→
   ∃c7 c8:Nat,p7=Value.pointer (some ⟨c7,0,none⟩)∧p8=Value.pointer (some ⟨c8,0,none⟩)∧c7≠c8∧w.heap.size+1+1<c7∧w.heap.size+1+1<c8∧wd.heap.size<c7∧wd.heap.size<c8∧dG 106 (((wd.alloc (.cells #[.int .i64 xl,.int .i64 yl,.int .i64 xl,.int .i64 yh,.int .i64 xh,.int .i64 yl,.int .i64 xh,.int .i64 yh] 107)).alloc (.cells #[.int .i64 xl,.int .i64 yl] 106)).alloc (.cells #[.int .i64 xl,.int .i64 yl] 106)).drew c7 xl yl∧dG 106 (((wd.alloc (.cells #[.int .i64 xl,.int .i64 yl,.int .i64 xl,.int .i64 yh,.int .i64 xh,.int .i64 yl,.int .i64 xh,.int .i64 yh] 107)).alloc (.cells #[.int .i64 xl,.int .i64 yl] 106)).alloc (.cells #[.int .i64 xl,.int .i64 yl] 106)).drew c8 xl yl∧dG 23 (((wd.alloc (.cells #[.int .i64 xl,.int .i64 yl,.int .i64 xl,.int .i64 yh,.int .i64 xh,.int .i64 yl,.int .i64 xh,.int .i64 yh] 107)).alloc (.cells #[.int .i64 xl,.int .i64 yl] 106)).alloc (.cells #[.int .i64 xl,.int .i64 yl] 106)).drew (w.heap.size+1+1) 0 0∧(((wd.alloc (.cells #[.int .i64 xl,.int .i64 yl,.int .i64 xl,.int .i64 yh,.int .i64 xh,.int .i64 yl,.int .i64 xh,.int .i64 yh] 107)).alloc (.cells #[.int .i64 xl,.int .i64 yl] 106)).alloc (.cells #[.int .i64 xl,.int .i64 yl] 106)).drew.heap[wd.heap.size]? =some (.cells #[.int .i64 xl,.int .i64 yl,.int .i64 xl,.int .i64 yh,.int .i64 xh,.int .i64 yl,.int .i64 xh,.int .i64 yh] 107 (0,0))∧Below w.heap.size w (((wd.alloc (.cells #[.int .i64 xl,.int .i64 yl,.int .i64 xl,.int .i64 yh,.int .i64 xh,.int .i64 yl,.int .i64 xh,.int .i64 yh] 107)).alloc (.cells #[.int .i64 xl,.int .i64 yl] 106)).alloc (.cells #[.int .i64 xl,.int .i64 yl] 106)).drew:=by
   intro p7 p8 b7 b8 ⟨e7,e8⟩ hb;have l4':=K4.out.lt;have b3:=blk3 wd (.cells #[.int .i64 xl,.int .i64 yl,.int .i64 xl,.int .i64 yh,.int .i64 xh,.int .i64 yl,.int .i64 xh,.int .i64 yh] 107) (.cells #[.int .i64 xl,.int .i64 yl] 106) (.cells #[.int .i64 xl,.int .i64 yl] 106);have k4:=((K4.out.alloc (.cells #[.int .i64 xl,.int .i64 yl,.int .i64 xl,.int .i64 yh,.int .i64 xh,.int .i64 yl,.int .i64 xh,.int .i64 yh] 107)).alloc (.cells #[.int .i64 xl,.int .i64 yl] 106)).alloc (.cells #[.int .i64 xl,.int .i64 yl] 106);have hB:=((HB.out.alloc (by omega) (.cells #[.int .i64 xl,.int .i64 yl,.int .i64 xl,.int .i64 yh,.int .i64 xh,.int .i64 yl,.int .i64 xh,.int .i64 yh] 107)).alloc (by simp;omega) (.cells #[.int .i64 xl,.int .i64 yl] 106)).alloc (by simp;omega) (.cells #[.int .i64 xl,.int .i64 yl] 106);rcases hb with ⟨h7,h8⟩ | ⟨h8,h7⟩
   ·exact ⟨b7,b8,e7,e8,by omega,by omega,by omega,by omega,by omega,by rw [h7];exact b3.2.1,by rw [h8];exact b3.2.2,k4,b3.1,hB.drew⟩
   ·exact ⟨b7,b8,e7,e8,by omega,by omega,by omega,by omega,by omega,by rw [h7];exact b3.2.2,by rw [h8];exact b3.2.1,k4,b3.1,hB.drew⟩
  have HI:=aaX HI;go_upto_region 6 with fail
  go_cut [7,8] from 64 to 67 (fun p7 p8 wx=>∃c7 c8:Nat,p7=Value.pointer (some ⟨c7,0,none⟩)∧p8=Value.pointer (some ⟨c8,0,none⟩)∧c7≠c8∧w.heap.size+1+1<c7∧w.heap.size+1+1<c8∧wd.heap.size<c7∧wd.heap.size<c8∧dG 106 wx c7 xl yl∧dG 106 wx c8 xl yl∧dG 23 wx (w.heap.size+1+1) 0 0∧wx.heap[wd.heap.size]? =some (.cells #[.int .i64 xl,.int .i64 yl,.int .i64 xl,.int .i64 yh,.int .i64 xh,.int .i64 yl,.int .i64 xh,.int .i64 yh] 107 (0,0))∧Below w.heap.size w wx)
  case first=>
   go_region_with fail
   all_goals (
    go_wp2_with fail
    go_meet
    first
     | exact HI.out _ _ _ _ ⟨rfl,rfl⟩ (.inl ⟨rfl,rfl⟩)
     | exact HI.out _ _ _ _ ⟨rfl,rfl⟩ (.inr ⟨rfl,rfl⟩))
  case rest=>
   obtain ⟨b7,b8,rfl,rfl,h78,h7,h8,h9,h10,kF,kL,kR,kA,hb⟩:=hcut;clear HI;obtain ⟨a0,a1,a2,a3,a4,a5,a6,a7⟩:=keep8 kA;have lA:=(Array.getElem?_eq_some_iff.1 kA).1;have KF:=aaX kF;have KL:=aaX kL;have KR:=aaX kR;have HBc:=aaX hb;clear kF kL kR kA hb K4 HB hs2;go_wp2;go_loopw [69] (fun t wr=>∃j:Nat,j≤4∧t=.int .i64 (j:Int)∧dG 106 wr b7 (iF yl yh xl xh j).1 (iF yl yh xl xh j).2∧dG 106 wr b8 (iG yl yh xl xh j).1 (iG yl yh xl xh j).2∧dG 23 wr (w.heap.size+1+1) 0 0∧Below w.heap.size w wr) (fun t _=>(4-qC t).toNat)
   case atStart=>exact ⟨0,by omega,rfl,KF.out,KL.out,KR.out,HBc.out⟩
   case round=>
    clear KF KL KR HBc a0 a1 a2 a3 a4 a5 a6 a7 lA;obtain ⟨j,hj,rfl,kF,kL,kR,hb⟩:=hrel;have lF:=kF.lt;have lL:=kL.lt;rcases (show j=0∨j=1∨j=2∨j=3∨j=4 by omega) with rfl | rfl | rfl | rfl | rfl
    ·have hj:True:=trivial;have XJ:=idx0 xl yl xl yh xh yl xh yh;have hf1:iF yl yh xl xh (0+1)=if pQ (xl,yl) (iF yl yh xl xh 0) then (xl,yl) else iF yl yh xl xh 0:=rfl
     have hl1:iG yl yh xl xh (0+1)=if pQ (iG yl yh xl xh 0) (xl,yl) then (xl,yl) else iG yl yh xl xh 0:=rfl
     have hm:=wO yl yh xl xh 0;have hn:=wS yl yh xl xh 0;generalize iF yl yh xl xh 0=F at*;generalize iG yl yh xl xh 0=L at*;obtain ⟨fa,fb⟩:=F;obtain ⟨la,lb⟩:=L;simp only at kF kL hm hn;have g1:-2147483648≤fa∧fa≤2147483648:=by omega
     have g2:-2147483648≤fb∧fb≤2147483648:=by omega
     have g3:-2147483648≤la∧la≤2147483648:=by omega
     have g4:-2147483648≤lb∧lb≤2147483648:=by omega
     have H1:=aaX (jG xl yl fa fb (by omega) (by omega) g1 g2);have H2:=aaX (jG la lb xl yl g3 g4 (by omega) (by omega));change Hid (∀w,Calls aaZ 73 #[aG xl yl,aG fa fb] w (cI (.bool (pQ (xl,yl) (fa,fb))) w)) at H1;change Hid (∀w,Calls aaZ 73 #[aG la lb,aG xl yl] w (cI (.bool (pQ (la,lb) (xl,yl))) w)) at H2;generalize pQ (xl,yl) (fa,fb)=B1 at*;generalize pQ (la,lb) (xl,yl)=B2 at*;have hf1:=aaX hf1;have hl1:=aaX hl1;clear hm hn g1 g2 g3 g4;have lF:=kF.lt;have lL:=kL.lt;obtain ⟨⟨p0,p1⟩,p2,p3⟩:=aL kF;obtain ⟨⟨q0,q1⟩,q2,q3⟩:=aL kL;have KF:=aaX (kF.alloc (.cells #[.int .i64 xl,.int .i64 yl] 106));have KL:=aaX (kL.alloc (.cells #[.int .i64 xl,.int .i64 yl] 106));have KR:=aaX (kR.alloc (.cells #[.int .i64 xl,.int .i64 yl] 106));have KC:=aaX (show dG 106 _ wr.heap.size xl yl from heap_alloc_new wr (.cells #[.int .i64 xl,.int .i64 yl] 106));have HB:=aaX (hb.alloc (by have:=hb.size;omega) (.cells #[.int .i64 xl,.int .i64 yl] 106));have hc7:b7≠wr.heap.size:=by omega
     have hc8:b8≠wr.heap.size:=by omega
     clear kF kL kR hb hj;unfold aG at H1 H2;go_wp2_with fail
     refine (H1.out _).mono ?_;rintro e w3 ⟨rfl,hb⟩;have kF:=aD hb KF.out;have kL:=aD hb KL.out;have kC:=aD hb KC.out;have KR:=aaX (aD hb KR.out);have HB:=aaX (HB.out.trans (hb.mono HB.out.size));clear hb KF KL KC p0 p1 p2 p3 q0 q1 q2 q3;have lC:=kC.lt;have lF:=kF.lt;have lL:=kL.lt;obtain ⟨⟨p0,p1⟩,p2,p3⟩:=aL kF;obtain ⟨⟨q0,q1⟩,q2,q3⟩:=aL kL;obtain ⟨⟨s0,s1⟩,s2,s3⟩:=aL kC;cases B1
     ·have hz:True:=trivial;go_wp2_with fail
      refine (H2.out _).mono ?_;rintro e w4 ⟨rfl,hb⟩;have kF:=aD hb kF;have kL:=aD hb kL;have kC:=aD hb kC;have KR:=aaX (aD hb KR.out);have HB:=aaX (HB.out.trans (hb.mono HB.out.size));have lC:=kC.lt;have lF:=kF.lt;have lL:=kL.lt;obtain ⟨⟨p0,p1⟩,p2,p3⟩:=aL kF;obtain ⟨⟨q0,q1⟩,q2,q3⟩:=aL kL;obtain ⟨⟨s0,s1⟩,s2,s3⟩:=aL kC;clear hb;cases B2
      ·have KF:=aaX kF;have KL:=aaX kL;clear kF kL kC;go_wp2;go_roundw
       case rel=>exact ⟨1,by omega,rfl,by rw [hf1.out];exact KF.out,by rw [hl1.out];exact KL.out,KR.out,HB.out⟩
       case measure=>decide
      ·have KF:=aaX (kF.other h78 (.int .i64 xl) (.int .i64 yl));have KL:=aaX (kL.write xl yl);have KR:=aaX (KR.out.other (b':=b8) (by omega) (.int .i64 xl) (.int .i64 yl));have HB:=aaX ((HB.out.setCell (p:=⟨b8,0,none⟩) (by simp;omega) (.int .i64 xl)).setCell (p:=⟨b8,1,none⟩) (by simp;omega) (.int .i64 yl));clear kF kL kC;go_wp2;go_roundw
       case rel=>exact ⟨1,by omega,rfl,by rw [hf1.out];exact KF.out,by rw [hl1.out];exact KL.out,KR.out,HB.out⟩
       case measure=>decide
     ·have kF:=kF.write xl yl;have kL:=kL.other (b':=b7) h78.symm (.int .i64 xl) (.int .i64 yl);have kC:=kC.other (b':=b7) hc7.symm (.int .i64 xl) (.int .i64 yl);have KR:=aaX (KR.out.other (b':=b7) (by omega) (.int .i64 xl) (.int .i64 yl));have HB:=aaX ((HB.out.setCell (p:=⟨b7,0,none⟩) (by simp;omega) (.int .i64 xl)).setCell (p:=⟨b7,1,none⟩) (by simp;omega) (.int .i64 yl));have lF:=kF.lt;have lL:=kL.lt;have lC:=kC.lt;obtain ⟨⟨i0,i1⟩,i2,i3⟩:=aL kF;obtain ⟨⟨m0,m1⟩,m2,m3⟩:=aL kL;obtain ⟨⟨n0,n1⟩,n2,n3⟩:=aL kC;go_wp2_with fail
      generalize (w3.setCell ⟨b7,0,none⟩ (.int .i64 xl)).setCell ⟨b7,1,none⟩ (.int .i64 yl)=w3 at*;refine (H2.out _).mono ?_;rintro e w4 ⟨rfl,hb⟩;have kF:=aD hb kF;have kL:=aD hb kL;have kC:=aD hb kC;have KR:=aaX (aD hb KR.out);have HB:=aaX (HB.out.trans (hb.mono HB.out.size));have lC:=kC.lt;have lF:=kF.lt;have lL:=kL.lt;obtain ⟨⟨p0,p1⟩,p2,p3⟩:=aL kF;obtain ⟨⟨q0,q1⟩,q2,q3⟩:=aL kL;obtain ⟨⟨s0,s1⟩,s2,s3⟩:=aL kC;clear hb;cases B2
      ·have KF:=aaX kF;have KL:=aaX kL;clear kF kL kC;go_wp2;go_roundw
       case rel=>exact ⟨1,by omega,rfl,by rw [hf1.out];exact KF.out,by rw [hl1.out];exact KL.out,KR.out,HB.out⟩
       case measure=>decide
      ·have KF:=aaX (kF.other h78 (.int .i64 xl) (.int .i64 yl));have KL:=aaX (kL.write xl yl);have KR:=aaX (KR.out.other (b':=b8) (by omega) (.int .i64 xl) (.int .i64 yl));have HB:=aaX ((HB.out.setCell (p:=⟨b8,0,none⟩) (by simp;omega) (.int .i64 xl)).setCell (p:=⟨b8,1,none⟩) (by simp;omega) (.int .i64 yl));clear kF kL kC;go_wp2;go_roundw
       case rel=>exact ⟨1,by omega,rfl,by rw [hf1.out];exact KF.out,by rw [hl1.out];exact KL.out,KR.out,HB.out⟩
       case measure=>decide
    ·have hj:True:=trivial;have XJ:=idx1 xl yl xl yh xh yl xh yh;have hf1:iF yl yh xl xh (1+1)=if pQ (xl,yh) (iF yl yh xl xh 1) then (xl,yh) else iF yl yh xl xh 1:=rfl
     have hl1:iG yl yh xl xh (1+1)=if pQ (iG yl yh xl xh 1) (xl,yh) then (xl,yh) else iG yl yh xl xh 1:=rfl
     have hm:=wO yl yh xl xh 1;have hn:=wS yl yh xl xh 1;generalize iF yl yh xl xh 1=F at*;generalize iG yl yh xl xh 1=L at*;obtain ⟨fa,fb⟩:=F;obtain ⟨la,lb⟩:=L;simp only at kF kL hm hn;have g1:-2147483648≤fa∧fa≤2147483648:=by omega
     have g2:-2147483648≤fb∧fb≤2147483648:=by omega
     have g3:-2147483648≤la∧la≤2147483648:=by omega
     have g4:-2147483648≤lb∧lb≤2147483648:=by omega
     have H1:=aaX (jG xl yh fa fb (by omega) (by omega) g1 g2);have H2:=aaX (jG la lb xl yh g3 g4 (by omega) (by omega));change Hid (∀w,Calls aaZ 73 #[aG xl yh,aG fa fb] w (cI (.bool (pQ (xl,yh) (fa,fb))) w)) at H1;change Hid (∀w,Calls aaZ 73 #[aG la lb,aG xl yh] w (cI (.bool (pQ (la,lb) (xl,yh))) w)) at H2;generalize pQ (xl,yh) (fa,fb)=B1 at*;generalize pQ (la,lb) (xl,yh)=B2 at*;have hf1:=aaX hf1;have hl1:=aaX hl1;clear hm hn g1 g2 g3 g4;have lF:=kF.lt;have lL:=kL.lt;obtain ⟨⟨p0,p1⟩,p2,p3⟩:=aL kF;obtain ⟨⟨q0,q1⟩,q2,q3⟩:=aL kL;have KF:=aaX (kF.alloc (.cells #[.int .i64 xl,.int .i64 yh] 106));have KL:=aaX (kL.alloc (.cells #[.int .i64 xl,.int .i64 yh] 106));have KR:=aaX (kR.alloc (.cells #[.int .i64 xl,.int .i64 yh] 106));have KC:=aaX (show dG 106 _ wr.heap.size xl yh from heap_alloc_new wr (.cells #[.int .i64 xl,.int .i64 yh] 106));have HB:=aaX (hb.alloc (by have:=hb.size;omega) (.cells #[.int .i64 xl,.int .i64 yh] 106));have hc7:b7≠wr.heap.size:=by omega
     have hc8:b8≠wr.heap.size:=by omega
     clear kF kL kR hb hj;unfold aG at H1 H2;go_wp2_with fail
     refine (H1.out _).mono ?_;rintro e w3 ⟨rfl,hb⟩;have kF:=aD hb KF.out;have kL:=aD hb KL.out;have kC:=aD hb KC.out;have KR:=aaX (aD hb KR.out);have HB:=aaX (HB.out.trans (hb.mono HB.out.size));clear hb KF KL KC p0 p1 p2 p3 q0 q1 q2 q3;have lC:=kC.lt;have lF:=kF.lt;have lL:=kL.lt;obtain ⟨⟨p0,p1⟩,p2,p3⟩:=aL kF;obtain ⟨⟨q0,q1⟩,q2,q3⟩:=aL kL;obtain ⟨⟨s0,s1⟩,s2,s3⟩:=aL kC;cases B1
     ·have hz:True:=trivial;go_wp2_with fail
      refine (H2.out _).mono ?_;rintro e w4 ⟨rfl,hb⟩;have kF:=aD hb kF;have kL:=aD hb kL;have kC:=aD hb kC;have KR:=aaX (aD hb KR.out);have HB:=aaX (HB.out.trans (hb.mono HB.out.size));have lC:=kC.lt;have lF:=kF.lt;have lL:=kL.lt;obtain ⟨⟨p0,p1⟩,p2,p3⟩:=aL kF;obtain ⟨⟨q0,q1⟩,q2,q3⟩:=aL kL;obtain ⟨⟨s0,s1⟩,s2,s3⟩:=aL kC;clear hb;cases B2
      ·have KF:=aaX kF;have KL:=aaX kL;clear kF kL kC;go_wp2;go_roundw
       case rel=>exact ⟨2,by omega,rfl,by rw [hf1.out];exact KF.out,by rw [hl1.out];exact KL.out,KR.out,HB.out⟩
       case measure=>decide
      ·have KF:=aaX (kF.other h78 (.int .i64 xl) (.int .i64 yh));have KL:=aaX (kL.write xl yh);have KR:=aaX (KR.out.other (b':=b8) (by omega) (.int .i64 xl) (.int .i64 yh));have HB:=aaX ((HB.out.setCell (p:=⟨b8,0,none⟩) (by simp;omega) (.int .i64 xl)).setCell (p:=⟨b8,1,none⟩) (by simp;omega) (.int .i64 yh));clear kF kL kC;go_wp2;go_roundw
       case rel=>exact ⟨2,by omega,rfl,by rw [hf1.out];exact KF.out,by rw [hl1.out];exact KL.out,KR.out,HB.out⟩
       case measure=>decide
     ·have kF:=kF.write xl yh;have kL:=kL.other (b':=b7) h78.symm (.int .i64 xl) (.int .i64 yh);have kC:=kC.other (b':=b7) hc7.symm (.int .i64 xl) (.int .i64 yh);have KR:=aaX (KR.out.other (b':=b7) (by omega) (.int .i64 xl) (.int .i64 yh));have HB:=aaX ((HB.out.setCell (p:=⟨b7,0,none⟩) (by simp;omega) (.int .i64 xl)).setCell (p:=⟨b7,1,none⟩) (by simp;omega) (.int .i64 yh));have lF:=kF.lt;have lL:=kL.lt;have lC:=kC.lt;obtain ⟨⟨i0,i1⟩,i2,i3⟩:=aL kF;obtain ⟨⟨m0,m1⟩,m2,m3⟩:=aL kL;obtain ⟨⟨n0,n1⟩,n2,n3⟩:=aL kC;go_wp2_with fail
      generalize (w3.setCell ⟨b7,0,none⟩ (.int .i64 xl)).setCell ⟨b7,1,none⟩ (.int .i64 yh)=w3 at*;refine (H2.out _).mono ?_;rintro e w4 ⟨rfl,hb⟩;have kF:=aD hb kF;have kL:=aD hb kL;have kC:=aD hb kC;have KR:=aaX (aD hb KR.out);have HB:=aaX (HB.out.trans (hb.mono HB.out.size));have lC:=kC.lt;have lF:=kF.lt;have lL:=kL.lt;obtain ⟨⟨p0,p1⟩,p2,p3⟩:=aL kF;obtain ⟨⟨q0,q1⟩,q2,q3⟩:=aL kL;obtain ⟨⟨s0,s1⟩,s2,s3⟩:=aL kC;clear hb;cases B2
      ·have KF:=aaX kF;have KL:=aaX kL;clear kF kL kC;go_wp2;go_roundw
       case rel=>exact ⟨2,by omega,rfl,by rw [hf1.out];exact KF.out,by rw [hl1.out];exact KL.out,KR.out,HB.out⟩
       case measure=>decide
      ·have KF:=aaX (kF.other h78 (.int .i64 xl) (.int .i64 yh));have KL:=aaX (kL.write xl yh);have KR:=aaX (KR.out.other (b':=b8) (by omega) (.int .i64 xl) (.int .i64 yh));have HB:=aaX ((HB.out.setCell (p:=⟨b8,0,none⟩) (by simp;omega) (.int .i64 xl)).setCell (p:=⟨b8,1,none⟩) (by simp;omega) (.int .i64 yh));clear kF kL kC;go_wp2;go_roundw
       case rel=>exact ⟨2,by omega,rfl,by rw [hf1.out];exact KF.out,by rw [hl1.out];exact KL.out,KR.out,HB.out⟩
       case measure=>decide
    ·have hj:True:=trivial;have XJ:=idx2 xl yl xl yh xh yl xh yh;have hf1:iF yl yh xl xh (2+1)=if pQ (xh,yl) (iF yl yh xl xh 2) then (xh,yl) else iF yl yh xl xh 2:=rfl
     have hl1:iG yl yh xl xh (2+1)=if pQ (iG yl yh xl xh 2) (xh,yl) then (xh,yl) else iG yl yh xl xh 2:=rfl
     have hm:=wO yl yh xl xh 2;have hn:=wS yl yh xl xh 2;generalize iF yl yh xl xh 2=F at*;generalize iG yl yh xl xh 2=L at*;obtain ⟨fa,fb⟩:=F;obtain ⟨la,lb⟩:=L;simp only at kF kL hm hn;have g1:-2147483648≤fa∧fa≤2147483648:=by omega
     have g2:-2147483648≤fb∧fb≤2147483648:=by omega
     have g3:-2147483648≤la∧la≤2147483648:=by omega
     have g4:-2147483648≤lb∧lb≤2147483648:=by omega
     have H1:=aaX (jG xh yl fa fb (by omega) (by omega) g1 g2);have H2:=aaX (jG la lb xh yl g3 g4 (by omega) (by omega));change Hid (∀w,Calls aaZ 73 #[aG xh yl,aG fa fb] w (cI (.bool (pQ (xh,yl) (fa,fb))) w)) at H1;change Hid (∀w,Calls aaZ 73 #[aG la lb,aG xh yl] w (cI (.bool (pQ (la,lb) (xh,yl))) w)) at H2;generalize pQ (xh,yl) (fa,fb)=B1 at*;generalize pQ (la,lb) (xh,yl)=B2 at*;have hf1:=aaX hf1;have hl1:=aaX hl1;clear hm hn g1 g2 g3 g4;have lF:=kF.lt;have lL:=kL.lt;obtain ⟨⟨p0,p1⟩,p2,p3⟩:=aL kF;obtain ⟨⟨q0,q1⟩,q2,q3⟩:=aL kL;have KF:=aaX (kF.alloc (.cells #[.int .i64 xh,.int .i64 yl] 106));have KL:=aaX (kL.alloc (.cells #[.int .i64 xh,.int .i64 yl] 106));have KR:=aaX (kR.alloc (.cells #[.int .i64 xh,.int .i64 yl] 106));have KC:=aaX (show dG 106 _ wr.heap.size xh yl from heap_alloc_new wr (.cells #[.int .i64 xh,.int .i64 yl] 106));have HB:=aaX (hb.alloc (by have:=hb.size;omega) (.cells #[.int .i64 xh,.int .i64 yl] 106));have hc7:b7≠wr.heap.size:=by omega
     have hc8:b8≠wr.heap.size:=by omega
     clear kF kL kR hb hj;unfold aG at H1 H2;go_wp2_with fail
     refine (H1.out _).mono ?_;rintro e w3 ⟨rfl,hb⟩;have kF:=aD hb KF.out;have kL:=aD hb KL.out;have kC:=aD hb KC.out;have KR:=aaX (aD hb KR.out);have HB:=aaX (HB.out.trans (hb.mono HB.out.size));clear hb KF KL KC p0 p1 p2 p3 q0 q1 q2 q3;have lC:=kC.lt;have lF:=kF.lt;have lL:=kL.lt;obtain ⟨⟨p0,p1⟩,p2,p3⟩:=aL kF;obtain ⟨⟨q0,q1⟩,q2,q3⟩:=aL kL;obtain ⟨⟨s0,s1⟩,s2,s3⟩:=aL kC;cases B1
     ·have hz:True:=trivial;go_wp2_with fail
      refine (H2.out _).mono ?_;rintro e w4 ⟨rfl,hb⟩;have kF:=aD hb kF;have kL:=aD hb kL;have kC:=aD hb kC;have KR:=aaX (aD hb KR.out);have HB:=aaX (HB.out.trans (hb.mono HB.out.size));have lC:=kC.lt;have lF:=kF.lt;have lL:=kL.lt;obtain ⟨⟨p0,p1⟩,p2,p3⟩:=aL kF;obtain ⟨⟨q0,q1⟩,q2,q3⟩:=aL kL;obtain ⟨⟨s0,s1⟩,s2,s3⟩:=aL kC;clear hb;cases B2
      ·have KF:=aaX kF;have KL:=aaX kL;clear kF kL kC;go_wp2;go_roundw
       case rel=>exact ⟨3,by omega,rfl,by rw [hf1.out];exact KF.out,by rw [hl1.out];exact KL.out,KR.out,HB.out⟩
       case measure=>decide
      ·have KF:=aaX (kF.other h78 (.int .i64 xh) (.int .i64 yl));have KL:=aaX (kL.write xh yl);have KR:=aaX (KR.out.other (b':=b8) (by omega) (.int .i64 xh) (.int .i64 yl));have HB:=aaX ((HB.out.setCell (p:=⟨b8,0,none⟩) (by simp;omega) (.int .i64 xh)).setCell (p:=⟨b8,1,none⟩) (by simp;omega) (.int .i64 yl));clear kF kL kC;go_wp2;go_roundw
       case rel=>exact ⟨3,by omega,rfl,by rw [hf1.out];exact KF.out,by rw [hl1.out];exact KL.out,KR.out,HB.out⟩
       case measure=>decide
     ·have kF:=kF.write xh yl;have kL:=kL.other (b':=b7) h78.symm (.int .i64 xh) (.int .i64 yl);have kC:=kC.other (b':=b7) hc7.symm (.int .i64 xh) (.int .i64 yl);have KR:=aaX (KR.out.other (b':=b7) (by omega) (.int .i64 xh) (.int .i64 yl));have HB:=aaX ((HB.out.setCell (p:=⟨b7,0,none⟩) (by simp;omega) (.int .i64 xh)).setCell (p:=⟨b7,1,none⟩) (by simp;omega) (.int .i64 yl));have lF:=kF.lt;have lL:=kL.lt;have lC:=kC.lt;obtain ⟨⟨i0,i1⟩,i2,i3⟩:=aL kF;obtain ⟨⟨m0,m1⟩,m2,m3⟩:=aL kL;obtain ⟨⟨n0,n1⟩,n2,n3⟩:=aL kC;go_wp2_with fail
      generalize (w3.setCell ⟨b7,0,none⟩ (.int .i64 xh)).setCell ⟨b7,1,none⟩ (.int .i64 yl)=w3 at*;refine (H2.out _).mono ?_;rintro e w4 ⟨rfl,hb⟩;have kF:=aD hb kF;have kL:=aD hb kL;have kC:=aD hb kC;have KR:=aaX (aD hb KR.out);have HB:=aaX (HB.out.trans (hb.mono HB.out.size));have lC:=kC.lt;have lF:=kF.lt;have lL:=kL.lt;obtain ⟨⟨p0,p1⟩,p2,p3⟩:=aL kF;obtain ⟨⟨q0,q1⟩,q2,q3⟩:=aL kL;obtain ⟨⟨s0,s1⟩,s2,s3⟩:=aL kC;clear hb;cases B2
      ·have KF:=aaX kF;have KL:=aaX kL;clear kF kL kC;go_wp2;go_roundw
       case rel=>exact ⟨3,by omega,rfl,by rw [hf1.out];exact KF.out,by rw [hl1.out];exact KL.out,KR.out,HB.out⟩
       case measure=>decide
      ·have KF:=aaX (kF.other h78 (.int .i64 xh) (.int .i64 yl));have KL:=aaX (kL.write xh yl);have KR:=aaX (KR.out.other (b':=b8) (by omega) (.int .i64 xh) (.int .i64 yl));have HB:=aaX ((HB.out.setCell (p:=⟨b8,0,none⟩) (by simp;omega) (.int .i64 xh)).setCell (p:=⟨b8,1,none⟩) (by simp;omega) (.int .i64 yl));clear kF kL kC;go_wp2;go_roundw
       case rel=>exact ⟨3,by omega,rfl,by rw [hf1.out];exact KF.out,by rw [hl1.out];exact KL.out,KR.out,HB.out⟩
       case measure=>decide
    ·have hj:True:=trivial;have XJ:=idx3 xl yl xl yh xh yl xh yh;have hf1:iF yl yh xl xh (3+1)=if pQ (xh,yh) (iF yl yh xl xh 3) then (xh,yh) else iF yl yh xl xh 3:=rfl
     have hl1:iG yl yh xl xh (3+1)=if pQ (iG yl yh xl xh 3) (xh,yh) then (xh,yh) else iG yl yh xl xh 3:=rfl
     have hm:=wO yl yh xl xh 3;have hn:=wS yl yh xl xh 3;generalize iF yl yh xl xh 3=F at*;generalize iG yl yh xl xh 3=L at*;obtain ⟨fa,fb⟩:=F;obtain ⟨la,lb⟩:=L;simp only at kF kL hm hn;have g1:-2147483648≤fa∧fa≤2147483648:=by omega
     have g2:-2147483648≤fb∧fb≤2147483648:=by omega
     have g3:-2147483648≤la∧la≤2147483648:=by omega
     have g4:-2147483648≤lb∧lb≤2147483648:=by omega
     have H1:=aaX (jG xh yh fa fb (by omega) (by omega) g1 g2);have H2:=aaX (jG la lb xh yh g3 g4 (by omega) (by omega));change Hid (∀w,Calls aaZ 73 #[aG xh yh,aG fa fb] w (cI (.bool (pQ (xh,yh) (fa,fb))) w)) at H1;change Hid (∀w,Calls aaZ 73 #[aG la lb,aG xh yh] w (cI (.bool (pQ (la,lb) (xh,yh))) w)) at H2;generalize pQ (xh,yh) (fa,fb)=B1 at*;generalize pQ (la,lb) (xh,yh)=B2 at*;have hf1:=aaX hf1;have hl1:=aaX hl1;clear hm hn g1 g2 g3 g4;have lF:=kF.lt;have lL:=kL.lt;obtain ⟨⟨p0,p1⟩,p2,p3⟩:=aL kF;obtain ⟨⟨q0,q1⟩,q2,q3⟩:=aL kL;have KF:=aaX (kF.alloc (.cells #[.int .i64 xh,.int .i64 yh] 106));have KL:=aaX (kL.alloc (.cells #[.int .i64 xh,.int .i64 yh] 106));have KR:=aaX (kR.alloc (.cells #[.int .i64 xh,.int .i64 yh] 106));have KC:=aaX (show dG 106 _ wr.heap.size xh yh from heap_alloc_new wr (.cells #[.int .i64 xh,.int .i64 yh] 106));have HB:=aaX (hb.alloc (by have:=hb.size;omega) (.cells #[.int .i64 xh,.int .i64 yh] 106));have hc7:b7≠wr.heap.size:=by omega
     have hc8:b8≠wr.heap.size:=by omega
     clear kF kL kR hb hj;unfold aG at H1 H2;go_wp2_with fail
     refine (H1.out _).mono ?_;rintro e w3 ⟨rfl,hb⟩;have kF:=aD hb KF.out;have kL:=aD hb KL.out;have kC:=aD hb KC.out;have KR:=aaX (aD hb KR.out);have HB:=aaX (HB.out.trans (hb.mono HB.out.size));clear hb KF KL KC p0 p1 p2 p3 q0 q1 q2 q3;have lC:=kC.lt;have lF:=kF.lt;have lL:=kL.lt;obtain ⟨⟨p0,p1⟩,p2,p3⟩:=aL kF;obtain ⟨⟨q0,q1⟩,q2,q3⟩:=aL kL;obtain ⟨⟨s0,s1⟩,s2,s3⟩:=aL kC;cases B1
     ·have hz:True:=trivial;go_wp2_with fail
      refine (H2.out _).mono ?_;rintro e w4 ⟨rfl,hb⟩;have kF:=aD hb kF;have kL:=aD hb kL;have kC:=aD hb kC;have KR:=aaX (aD hb KR.out);have HB:=aaX (HB.out.trans (hb.mono HB.out.size));have lC:=kC.lt;have lF:=kF.lt;have lL:=kL.lt;obtain ⟨⟨p0,p1⟩,p2,p3⟩:=aL kF;obtain ⟨⟨q0,q1⟩,q2,q3⟩:=aL kL;obtain ⟨⟨s0,s1⟩,s2,s3⟩:=aL kC;clear hb;cases B2
      ·have KF:=aaX kF;have KL:=aaX kL;clear kF kL kC;go_wp2;go_roundw
       case rel=>exact ⟨4,by omega,rfl,by rw [hf1.out];exact KF.out,by rw [hl1.out];exact KL.out,KR.out,HB.out⟩
       case measure=>decide
      ·have KF:=aaX (kF.other h78 (.int .i64 xh) (.int .i64 yh));have KL:=aaX (kL.write xh yh);have KR:=aaX (KR.out.other (b':=b8) (by omega) (.int .i64 xh) (.int .i64 yh));have HB:=aaX ((HB.out.setCell (p:=⟨b8,0,none⟩) (by simp;omega) (.int .i64 xh)).setCell (p:=⟨b8,1,none⟩) (by simp;omega) (.int .i64 yh));clear kF kL kC;go_wp2;go_roundw
       case rel=>exact ⟨4,by omega,rfl,by rw [hf1.out];exact KF.out,by rw [hl1.out];exact KL.out,KR.out,HB.out⟩
       case measure=>decide
     ·have kF:=kF.write xh yh;have kL:=kL.other (b':=b7) h78.symm (.int .i64 xh) (.int .i64 yh);have kC:=kC.other (b':=b7) hc7.symm (.int .i64 xh) (.int .i64 yh);have KR:=aaX (KR.out.other (b':=b7) (by omega) (.int .i64 xh) (.int .i64 yh));have HB:=aaX ((HB.out.setCell (p:=⟨b7,0,none⟩) (by simp;omega) (.int .i64 xh)).setCell (p:=⟨b7,1,none⟩) (by simp;omega) (.int .i64 yh));have lF:=kF.lt;have lL:=kL.lt;have lC:=kC.lt;obtain ⟨⟨i0,i1⟩,i2,i3⟩:=aL kF;obtain ⟨⟨m0,m1⟩,m2,m3⟩:=aL kL;obtain ⟨⟨n0,n1⟩,n2,n3⟩:=aL kC;go_wp2_with fail
      generalize (w3.setCell ⟨b7,0,none⟩ (.int .i64 xh)).setCell ⟨b7,1,none⟩ (.int .i64 yh)=w3 at*;refine (H2.out _).mono ?_;rintro e w4 ⟨rfl,hb⟩;have kF:=aD hb kF;have kL:=aD hb kL;have kC:=aD hb kC;have KR:=aaX (aD hb KR.out);have HB:=aaX (HB.out.trans (hb.mono HB.out.size));have lC:=kC.lt;have lF:=kF.lt;have lL:=kL.lt;obtain ⟨⟨p0,p1⟩,p2,p3⟩:=aL kF;obtain ⟨⟨q0,q1⟩,q2,q3⟩:=aL kL;obtain ⟨⟨s0,s1⟩,s2,s3⟩:=aL kC;clear hb;cases B2
      ·have KF:=aaX kF;have KL:=aaX kL;clear kF kL kC;go_wp2;go_roundw
       case rel=>exact ⟨4,by omega,rfl,by rw [hf1.out];exact KF.out,by rw [hl1.out];exact KL.out,KR.out,HB.out⟩
       case measure=>decide
      ·have KF:=aaX (kF.other h78 (.int .i64 xh) (.int .i64 yh));have KL:=aaX (kL.write xh yh);have KR:=aaX (KR.out.other (b':=b8) (by omega) (.int .i64 xh) (.int .i64 yh));have HB:=aaX ((HB.out.setCell (p:=⟨b8,0,none⟩) (by simp;omega) (.int .i64 xh)).setCell (p:=⟨b8,1,none⟩) (by simp;omega) (.int .i64 yh));clear kF kL kC;go_wp2;go_roundw
       case rel=>exact ⟨4,by omega,rfl,by rw [hf1.out];exact KF.out,by rw [hl1.out];exact KL.out,KR.out,HB.out⟩
       case measure=>decide
    ·have hm:=wO yl yh xl xh 4;have hn:=wS yl yh xl xh 4;generalize iF yl yh xl xh 4=F at*;generalize iG yl yh xl xh 4=L at*;obtain ⟨fa,fb⟩:=F;obtain ⟨la,lb⟩:=L;simp only at kF kL hm hn;have hV:=hV.out;simp only at hV;have ho:=HO.out;have H1:=MQ fa fb (by omega) (by omega) (by omega);have H2:=MQ la lb (by omega) (by omega) (by omega);obtain ⟨g1,g2⟩:=angF_bd fa fb;obtain ⟨g3,g4⟩:=angF_bd la lb;generalize mI fa fb=A1 at*;generalize yJ fa fb=E1 at*;generalize mI la lb=A2 at*;generalize yJ la lb=E2 at*;replace H1:=aaX H1;replace H2:=aaX H2;replace hV:=aaX hV;obtain ⟨⟨p0,p1⟩,p2,p3⟩:=aL kF;obtain ⟨⟨q0,q1⟩,q2,q3⟩:=aL kL;have KL:=aaX kL;have KR:=aaX kR;have HB:=aaX hb;clear kF kL kR hb hm hn ho hj;unfold aG at H1 H2;go_wp2_with fail
     refine (H1.out _).mono ?_;rintro e w3 ⟨rfl,hb⟩;have kL:=aD hb KL.out;have KR:=aaX (aD hb KR.out);have HB:=aaX (HB.out.trans (hb.mono HB.out.size));have lL:=kL.lt;obtain ⟨⟨q0,q1⟩,q2,q3⟩:=aL kL;clear hb kL KL;go_wp2_with fail
     refine (H2.out _).mono ?_;rintro e w4 ⟨rfl,hb⟩;have kR:=aD hb KR.out;have HB:=aaX (HB.out.trans (hb.mono HB.out.size));have lR:=kR.lt;obtain ⟨⟨r0,r1⟩,r2,r3⟩:=aL kR;have KR:=aaX kR;clear hb kR H1 H2;by_cases hh:A2<A1
     ·cases E2
      ·have hU:=aaX (show upE A1 A2 false=A2+21600000+1 by simp [upE,hh]);have kF:=KR.out.write A1 (A2+21600000+1);obtain ⟨⟨s0,s1⟩,s2,s3⟩:=aL kF;have HF:=aaX ((HB.out.setCell (p:=⟨w.heap.size+1+1,0,none⟩) (by simp;omega) (.int .i64 A1)).setCell (p:=⟨w.heap.size+1+1,1,none⟩) (by simp;omega) (.int .i64 (A2+21600000+1)));clear kF;go_wp2;refine bodyPost_ret (v:=V) (by rw [hV.out,hU.out];simp [results,Tryz.results34,go_sem,aP,aG,s0,s1]) rfl ⟨rfl,HF.out⟩
      ·have hU:=aaX (show upE A1 A2 true=A2+21600000 by simp [upE,hh]);have kF:=KR.out.write A1 (A2+21600000);obtain ⟨⟨s0,s1⟩,s2,s3⟩:=aL kF;have HF:=aaX ((HB.out.setCell (p:=⟨w.heap.size+1+1,0,none⟩) (by simp;omega) (.int .i64 A1)).setCell (p:=⟨w.heap.size+1+1,1,none⟩) (by simp;omega) (.int .i64 (A2+21600000)));clear kF;go_wp2;refine bodyPost_ret (v:=V) (by rw [hV.out,hU.out];simp [results,Tryz.results34,go_sem,aP,aG,s0,s1]) rfl ⟨rfl,HF.out⟩
     ·cases E2
      ·have hU:=aaX (show upE A1 A2 false=A2+1 by simp [upE,hh]);have kF:=KR.out.write A1 (A2+1);obtain ⟨⟨s0,s1⟩,s2,s3⟩:=aL kF;have HF:=aaX ((HB.out.setCell (p:=⟨w.heap.size+1+1,0,none⟩) (by simp;omega) (.int .i64 A1)).setCell (p:=⟨w.heap.size+1+1,1,none⟩) (by simp;omega) (.int .i64 (A2+1)));clear kF;go_wp2;refine bodyPost_ret (v:=V) (by rw [hV.out,hU.out];simp [results,Tryz.results34,go_sem,aP,aG,s0,s1]) rfl ⟨rfl,HF.out⟩
      ·have hU:=aaX (show upE A1 A2 true=A2 by simp [upE,hh]);have kF:=KR.out.write A1 (A2);obtain ⟨⟨s0,s1⟩,s2,s3⟩:=aL kF;have HF:=aaX ((HB.out.setCell (p:=⟨w.heap.size+1+1,0,none⟩) (by simp;omega) (.int .i64 A1)).setCell (p:=⟨w.heap.size+1+1,1,none⟩) (by simp;omega) (.int .i64 (A2)));clear kF;go_wp2;refine bodyPost_ret (v:=V) (by rw [hV.out,hU.out];simp [results,Tryz.results34,go_sem,aP,aG,s0,s1]) rfl ⟨rfl,HF.out⟩
end
section
open Go.RowKit
theorem zH (yl yh xl xh:Int) (w:World):Calls aaZ 34 #[aG yl yh,aG xl xh] w (cI (aP (aX yl yh xl xh)) w):=by
 unfold aX;by_cases h:(aN xl xh&&aN yl yh)=false
 ·rw [if_pos h];exact bear_bad yl yh xl xh h w
 ·have h2:aN xl xh=true∧aN yl yh=true:=by
   cases hx:aN xl xh<;>cases hy:aN yl yh<;>simp [hx,hy] at h ⊢
  rw [if_neg h];by_cases ho:dI yl yh xl xh=true
  ·rw [if_pos ho];exact VF yl yh xl xh h2.1 h2.2 ho w
  ·rw [if_neg ho];exact bear_main yl yh xl xh h2.1 h2.2 (by simpa using ho) w
end
section
open Go.RowKit
end
section
open Go.RowKit SM
def aE (lo hi:Int):Bool:=decide (-1099511627776≤lo∧lo≤hi∧hi≤1099511627776)
theorem xX (lo hi:Int) (w:World):Calls aaZ 118 #[aG lo hi] w (cI (.bool (aE lo hi)) w):=by
 obtain ⟨V,hV⟩:∃V,V=Value.bool (aE lo hi):=⟨_,rfl⟩;have HP:∀b w',aE lo hi=b→Below w.heap.size w w'→cI V w (.returned (.bool b)) w':=fun b w' h hb=>⟨by rw [hV,h],hb⟩;have HP:=aaX HP;have HB:=aaX ((aeX w.heap.size w).alloc (aaJ _) (.cells #[.int .i64 lo,.int .i64 hi] 23));rw [←hV];clear hV;unfold aG;by_cases h1:-1099511627776≤lo
 ·by_cases h2:lo≤hi
  ·by_cases h3:hi≤1099511627776
   ·have HF:=aaX (HP.out true _ (by unfold aE;rw [decide_eq_true];omega) HB.out);go_enter Tryz.func118,Tryz.ntmps118;go_wp2;go_ret;exact HF.out
   ·have HF:=aaX (HP.out false _ (by unfold aE;rw [decide_eq_false];omega) HB.out);go_enter Tryz.func118,Tryz.ntmps118;go_wp2;go_ret;exact HF.out
  ·have HF:=aaX (HP.out false _ (by unfold aE;rw [decide_eq_false];omega) HB.out);go_enter Tryz.func118,Tryz.ntmps118;go_wp2;go_ret;exact HF.out
 ·have HF:=aaX (HP.out false _ (by unfold aE;rw [decide_eq_false];omega) HB.out);go_enter Tryz.func118,Tryz.ntmps118;go_wp2;go_ret;exact HF.out
def AK (lo hi n:Int):Bool:=decide ((n-lo)%21600000≤hi-lo)
theorem keepc {w0 W w1:World} {b:Nat} {v0 v1:Value} (h:(W.cell? ⟨b,0,none⟩=some v0∧W.cell? ⟨b,1,none⟩=some v1)∧Below w0.heap.size w0 W) (hb:Below W.heap.size W w1):
  (w1.cell? ⟨b,0,none⟩=some v0∧w1.cell? ⟨b,1,none⟩=some v1)∧Below w0.heap.size w0 w1:=by
 obtain ⟨⟨h0,h1⟩,hB⟩:=h;have hlt:=World.block_lt_of_cell? W _ h0;exact ⟨⟨(hb.cell (p:=⟨b,0,none⟩) hlt).trans h0,(hb.cell (p:=⟨b,1,none⟩) hlt).trans h1⟩,hB.trans (hb.mono hB.size)⟩
theorem OD (lo hi n:Int) (h0:-2000000000000≤lo) (h1:lo≤2000000000000) (h2:-2000000000000≤hi) (h3:hi≤2000000000000) (h4:0≤n) (h5:n≤21600000) (w:World):Calls aaZ 157 #[aG lo hi,.int .i64 n] w (cI (.bool (AK lo hi n)) w):=by
 have K1:=aaX (show dG 23 _ w.heap.size lo hi from heap_alloc_new w (.cells #[.int .i64 lo,.int .i64 hi] 23));have HB:=aaX ((aeX w.heap.size w).alloc (aaJ _) (.cells #[.int .i64 lo,.int .i64 hi] 23));have HT:=aaX (fun m (hm:m=n-lo) w=>(LJ m w).mono (fun e w' h=>(⟨by rw [←hm];exact h.1,h.2 ▸ aeX _ _⟩:cI (.int .i64 ((n-lo)%21600000)) w e w')));have wv:=aaX (show i64.wrap (n-lo)=n-lo from IntWalk.i64_in _ (by omega));have wu:i64.wrap (hi-lo)=hi-lo:=IntWalk.i64_in _ (by omega);have HD:decide ((n-lo)%21600000≤hi-lo)=AK lo hi n:=rfl;obtain ⟨t,ht⟩:∃t,(n-lo)%21600000=t:=⟨_,rfl⟩;rw [ht] at HT HD;have HD:=aaX HD;have t0:0≤t:=by omega
 have t1:t<21600000:=by omega
 clear ht;unfold aG;go_enter Tryz.func157,Tryz.ntmps157;go_wp2_with fail
 generalize w.alloc (.cells #[.int .i64 lo,.int .i64 hi] 23)=W at*;obtain ⟨⟨a0,a1⟩,a2,a3⟩:=aL K1.out;go_region_held3 (fun w'=>(w'.cell? ⟨w.heap.size,0,none⟩=some (.int .i64 lo)∧w'.cell? ⟨w.heap.size,1,none⟩=some (.int .i64 hi))∧Below W.heap.size W w')
  (first | exact ⟨⟨a0,a1⟩,(aeX _ _).drew⟩ | exact keepc (by assumption) (by assumption))
  (first
   | (go_at_call 186;(with_reducible refine (HT.out _ wv.out _).mono ?_);rintro e w6 ⟨rfl,hb⟩))
 have hh:Below W.heap.size W w6:=And.right (by assumption);have HF:=aaX (HB.out.trans (hh.mono HB.out.size));clear hh;go_wp2;go_ret;refine ⟨?_,HF.out⟩;rw [←HD.out,←wu];rfl
def mK (lo hi:Int):Int:=if AK lo hi 16200000 then -1073741824 else min (qD lo) (qD hi)
def mJ (lo hi:Int):Int:=if AK lo hi 5400000 then 1073741824 else max (nF lo) (nF hi)
theorem IW (lo hi:Int) (h0:-2000000000000≤lo) (h1:lo≤2000000000000) (h2:-2000000000000≤hi) (h3:hi≤2000000000000) (w:World):Calls aaZ 119 #[aG lo hi] w (cI (aG (mK lo hi) (mJ lo hi)) w):=by
 have HL:=aaX (yA lo);have HH:=aaX (yA hi);have H1:=OD lo hi 5400000 h0 h1 h2 h3 (by omega) (by omega);have H2:=OD lo hi 16200000 h0 h1 h2 h3 (by omega) (by omega);obtain ⟨V,hV⟩:∃V,V=aG (mK lo hi) (mJ lo hi):=⟨_,rfl⟩;rw [←hV];unfold mK mJ at hV;generalize AK lo hi 5400000=c1 at*;generalize AK lo hi 16200000=c2 at*;generalize qD lo=a at*;generalize nF lo=b at*;generalize qD hi=c at*;generalize nF hi=d at*;unfold aG at H1 H2 ⊢;replace H1:=aaX H1;replace H2:=aaX H2;replace hV:=aaX hV;clear h0 h1 h2 h3;have b3:=eM w (.cells #[.int .i64 lo,.int .i64 hi] 23) (.cells #[.int .i64 0,.int .i64 0] 66);have b2:=gH w (.cells #[.int .i64 lo,.int .i64 hi] 23) (.cells #[.int .i64 0,.int .i64 0] 66);have K1:=aaX (show dG 23 _ w.heap.size lo hi from b2);have K2:=aaX (show dG 66 _ (w.heap.size+1) 0 0 from b3);have HB:=aaX (((aeX w.heap.size w).alloc (aaJ _) (.cells #[.int .i64 lo,.int .i64 hi] 23)).alloc (by simp) (.cells #[.int .i64 0,.int .i64 0] 66));clear b2 b3;go_enter Tryz.func119,Tryz.ntmps119;go_wp2_with fail
 refine (HL.out _).mono ?_;rintro e w1 ⟨rfl,hb⟩;have k1:=aD hb K1.out;have k2:=aD hb K2.out;have l1:=k1.lt;have l2:=k2.lt;obtain ⟨⟨a10,a11⟩,a12,a13⟩:=aL k1;obtain ⟨⟨a20,a21⟩,a22,a23⟩:=aL k2;have HB:=aaX (HB.out.trans (hb.mono HB.out.size));have K1:=aaX k1;have K2:=aaX k2;clear hb k1 k2;go_wp2_with fail
 refine (HH.out _).mono ?_;rintro e w2 ⟨rfl,hb⟩;have k1:=aD hb K1.out;have k2:=aD hb K2.out;have l1:=k1.lt;have l2:=k2.lt;obtain ⟨⟨a10,a11⟩,a12,a13⟩:=aL k1;obtain ⟨⟨a20,a21⟩,a22,a23⟩:=aL k2;have HB:=aaX (HB.out.trans (hb.mono HB.out.size));have K1:=aaX k1;have K2:=aaX k2;clear hb k1 k2;go_wp2_with fail
 refine (H1.out _).mono ?_;rintro e w3 ⟨rfl,hb⟩;have k1:=aD hb K1.out;have k2:=aD hb K2.out;have l1:=k1.lt;have l2:=k2.lt;obtain ⟨⟨a10,a11⟩,a12,a13⟩:=aL k1;obtain ⟨⟨a20,a21⟩,a22,a23⟩:=aL k2;have HB:=aaX (HB.out.trans (hb.mono HB.out.size));have K1:=aaX k1;have K2:=aaX k2;clear hb k1 k2;cases c1<;>cases c2;all_goals (
  replace hV:=aaX hV.out;go_wp2_with fail
  refine (H2.out _).mono ?_;rintro e w4 ⟨rfl,hb⟩;have k2:=aD hb K2.out;have l2:=k2.lt;obtain ⟨⟨a20,a21⟩,a22,a23⟩:=aL k2;have HB:=aaX (HB.out.trans (hb.mono HB.out.size));have K2:=aaX k2;clear hb k2)
 ·have hV:=hV.out;simp only [Bool.false_eq_true,reduceIte] at hV;have K3:=K2.out.write (min a c) (max b d);obtain ⟨⟨r0,r1⟩,r2,r3⟩:=aL K3;have HB:=aaX ((HB.out.setCell (p:=⟨w.heap.size+1,0,none⟩) (by simp) (.int .i64 (min a c))).setCell (p:=⟨w.heap.size+1,1,none⟩) (by simp) (.int .i64 (max b d)));replace hV:=aaX hV;clear K3;go_wp2;refine bodyPost_ret (v:=V) (by rw [hV.out];simp [results,Tryz.results119,go_sem,aG,r0,r1]) rfl ⟨rfl,HB.out⟩
 ·have hV:=hV.out;simp only [Bool.false_eq_true,reduceIte] at hV;have K3:=K2.out.write (-1073741824) (max b d);obtain ⟨⟨r0,r1⟩,r2,r3⟩:=aL K3;have HB:=aaX ((HB.out.setCell (p:=⟨w.heap.size+1,0,none⟩) (by simp) (.int .i64 (-1073741824))).setCell (p:=⟨w.heap.size+1,1,none⟩) (by simp) (.int .i64 (max b d)));replace hV:=aaX hV;clear K3;go_wp2;refine bodyPost_ret (v:=V) (by rw [hV.out];simp [results,Tryz.results119,go_sem,aG,r0,r1]) rfl ⟨rfl,HB.out⟩
 ·have hV:=hV.out;simp only [Bool.false_eq_true,reduceIte] at hV;have K3:=K2.out.write (min a c) 1073741824;obtain ⟨⟨r0,r1⟩,r2,r3⟩:=aL K3;have HB:=aaX ((HB.out.setCell (p:=⟨w.heap.size+1,0,none⟩) (by simp) (.int .i64 (min a c))).setCell (p:=⟨w.heap.size+1,1,none⟩) (by simp) (.int .i64 1073741824));replace hV:=aaX hV;clear K3;go_wp2;refine bodyPost_ret (v:=V) (by rw [hV.out];simp [results,Tryz.results119,go_sem,aG,r0,r1]) rfl ⟨rfl,HB.out⟩
 ·have hV:=hV.out;simp only [reduceIte] at hV;have K3:=K2.out.write (-1073741824) 1073741824;obtain ⟨⟨r0,r1⟩,r2,r3⟩:=aL K3;have HB:=aaX ((HB.out.setCell (p:=⟨w.heap.size+1,0,none⟩) (by simp) (.int .i64 (-1073741824))).setCell (p:=⟨w.heap.size+1,1,none⟩) (by simp) (.int .i64 1073741824));replace hV:=aaX hV;clear K3;go_wp2;refine bodyPost_ret (v:=V) (by rw [hV.out];simp [results,Tryz.results119,go_sem,aG,r0,r1]) rfl ⟨rfl,HB.out⟩
end
section
open Go.RowKit SM
theorem DT (lo hi:Int) (h0:-2000000000000≤lo) (h1:lo≤2000000000000) (h2:-2000000000000≤hi) (h3:hi≤2000000000000) (w:World):Calls aaZ 120 #[aG lo hi] w (cI (aG (lo+5400000) (hi+5400000)) w):=by
 have b2:=eM w (.cells #[.int .i64 lo,.int .i64 hi] 23) (.cells #[.int .i64 0,.int .i64 0] 23);have HB:=aaX (((aeX w.heap.size w).alloc (aaJ _) (.cells #[.int .i64 lo,.int .i64 hi] 23)).alloc (by simp) (.cells #[.int .i64 0,.int .i64 0] 23));have HB2:=aaX (((aeX w.heap.size w).alloc (aaJ _) (.cells #[.int .i64 lo,.int .i64 hi] 23)).alloc (by simp) (.cells #[.int .i64 (lo+5400000),.int .i64 (hi+5400000)] 23));clear b2;unfold aG;go_enter Tryz.func120,Tryz.ntmps120;go_wp2;refine bodyPost_ret (v:=aG (lo+5400000) (hi+5400000)) (by simp [results,Tryz.results120,go_sem,aG]) rfl ⟨rfl,?_⟩;first
  | exact HB2.out
  | exact HB.out
theorem QZ (lo hi:Int):-1073741824≤mK lo hi∧mK lo hi≤1073741824∧-1073741824≤mJ lo hi∧mJ lo hi≤1073741824:=by
 obtain ⟨a1,a2,a3⟩:=oG lo;obtain ⟨b1,b2,b3⟩:=oG hi;unfold mK mJ;refine ⟨?_,?_,?_,?_⟩<;>split<;>omega
def aK (lo hi:Int):Int×Int×Int:=if aE lo hi=false then (0,0,1) else (mK lo hi,mJ lo hi,0)
def aI (lo hi:Int):Int×Int×Int:=if aE lo hi=false then (0,0,1) else (mK (lo+5400000) (hi+5400000),mJ (lo+5400000) (hi+5400000),0)
def dT (lo hi:Int):Int×Int×Int:=if aE lo hi=false then (0,0,1) else ((1073741824-mJ (lo+5400000) (hi+5400000))/2,(1073741824-mK (lo+5400000) (hi+5400000)+1)/2,0)
theorem LB (lo hi:Int) (w:World):Calls aaZ 65 #[aG lo hi] w (cI (aP (aK lo hi)) w):=by
 have HV:=aaX (xX lo hi);obtain ⟨V,hV⟩:∃V,V=aP (aK lo hi):=⟨_,rfl⟩;rw [←hV];unfold aK at hV;have K1:=aaX (show dG 23 _ w.heap.size lo hi from gH w (.cells #[.int .i64 lo,.int .i64 hi] 23) (.cells #[.int .i64 0,.int .i64 0] 66));have K2:=aaX (show dG 66 _ (w.heap.size+1) 0 0 from eM w (.cells #[.int .i64 lo,.int .i64 hi] 23) (.cells #[.int .i64 0,.int .i64 0] 66));have HB:=aaX (((aeX w.heap.size w).alloc (aaJ _) (.cells #[.int .i64 lo,.int .i64 hi] 23)).alloc (by simp) (.cells #[.int .i64 0,.int .i64 0] 66));by_cases hv:aE lo hi=false
 ·rw [if_pos hv] at hV;rw [hv] at HV;have hV:=aaX hV;unfold aG at HV ⊢;clear hv;go_enter Tryz.func65,Tryz.ntmps65;go_wp2_with fail
  refine (HV.out _).mono ?_;rintro e w1 ⟨rfl,hb⟩;have n2:=aD hb K2.out;have l2:=n2.lt;obtain ⟨⟨b0,b1⟩,b2,b3⟩:=aL n2;have HB:=aaX ((HB.out.trans (hb.mono HB.out.size)).setCell (p:=⟨w.heap.size+1,0,none⟩) (by simp) (.int .i64 0) |>.setCell (p:=⟨w.heap.size+1,1,none⟩) (by simp) (.int .i64 0));have n3:=n2.write 0 0;obtain ⟨⟨r0,r1⟩,r2,r3⟩:=aL n3;clear hb n2 n3;go_wp2;refine bodyPost_ret (v:=V) (by rw [hV.out];simp [results,Tryz.results65,go_sem,aP,aG,r0,r1]) rfl ⟨rfl,HB.out⟩
 ·rw [if_neg hv] at hV;have hv':aE lo hi=true:=by cases h:aE lo hi<;>simp_all
  rw [hv'] at HV;have hm:-1099511627776≤lo∧lo≤1099511627776∧-1099511627776≤hi∧hi≤1099511627776:=by simp [aE] at hv';omega
  have HE:=IW lo hi (by omega) (by omega) (by omega) (by omega);generalize mK lo hi=p at*;generalize mJ lo hi=q at*;have hV:=aaX hV;unfold aG at HV HE ⊢;replace HE:=aaX HE;clear hv hv' hm;go_enter Tryz.func65,Tryz.ntmps65;go_wp2_with fail
  refine (HV.out _).mono ?_;rintro e w1 ⟨rfl,hb⟩;have n1:=aD hb K1.out;have n2:=aD hb K2.out;have l1:=n1.lt;have l2:=n2.lt;obtain ⟨⟨a0,a1⟩,a2,a3⟩:=aL n1;obtain ⟨⟨b0,b1⟩,b2,b3⟩:=aL n2;have K2:=aaX n2;have HB:=aaX (HB.out.trans (hb.mono HB.out.size));clear hb n1 n2;go_wp2_with fail
  refine (HE.out _).mono ?_;rintro e w2 ⟨rfl,hb⟩;have n2:=aD hb K2.out;have l2:=n2.lt;obtain ⟨⟨b0,b1⟩,b2,b3⟩:=aL n2;have HB:=aaX ((HB.out.trans (hb.mono HB.out.size)).setCell (p:=⟨w.heap.size+1,0,none⟩) (by simp) (.int .i64 p) |>.setCell (p:=⟨w.heap.size+1,1,none⟩) (by simp) (.int .i64 q));have n3:=n2.write p q;obtain ⟨⟨r0,r1⟩,r2,r3⟩:=aL n3;clear hb n2 n3;go_wp2;refine bodyPost_ret (v:=V) (by rw [hV.out];simp [results,Tryz.results65,go_sem,aP,aG,r0,r1]) rfl ⟨rfl,HB.out⟩
theorem DL (lo hi:Int) (w:World):Calls aaZ 66 #[aG lo hi] w (cI (aP (aI lo hi)) w):=by
 have HV:=aaX (xX lo hi);obtain ⟨V,hV⟩:∃V,V=aP (aI lo hi):=⟨_,rfl⟩;rw [←hV];unfold aI at hV;have K1:=aaX (show dG 23 _ w.heap.size lo hi from gH w (.cells #[.int .i64 lo,.int .i64 hi] 23) (.cells #[.int .i64 0,.int .i64 0] 66));have K2:=aaX (show dG 66 _ (w.heap.size+1) 0 0 from eM w (.cells #[.int .i64 lo,.int .i64 hi] 23) (.cells #[.int .i64 0,.int .i64 0] 66));have HB:=aaX (((aeX w.heap.size w).alloc (aaJ _) (.cells #[.int .i64 lo,.int .i64 hi] 23)).alloc (by simp) (.cells #[.int .i64 0,.int .i64 0] 66));by_cases hv:aE lo hi=false
 ·rw [if_pos hv] at hV;rw [hv] at HV;have hV:=aaX hV;unfold aG at HV ⊢;clear hv;go_enter Tryz.func66,Tryz.ntmps66;go_wp2_with fail
  refine (HV.out _).mono ?_;rintro e w1 ⟨rfl,hb⟩;have n2:=aD hb K2.out;have l2:=n2.lt;obtain ⟨⟨b0,b1⟩,b2,b3⟩:=aL n2;have HB:=aaX ((HB.out.trans (hb.mono HB.out.size)).setCell (p:=⟨w.heap.size+1,0,none⟩) (by simp) (.int .i64 0) |>.setCell (p:=⟨w.heap.size+1,1,none⟩) (by simp) (.int .i64 0));have n3:=n2.write 0 0;obtain ⟨⟨r0,r1⟩,r2,r3⟩:=aL n3;clear hb n2 n3;go_wp2;refine bodyPost_ret (v:=V) (by rw [hV.out];simp [results,Tryz.results66,go_sem,aP,aG,r0,r1]) rfl ⟨rfl,HB.out⟩
 ·rw [if_neg hv] at hV;have hv':aE lo hi=true:=by cases h:aE lo hi<;>simp_all
  rw [hv'] at HV;have hm:-1099511627776≤lo∧lo≤1099511627776∧-1099511627776≤hi∧hi≤1099511627776:=by simp [aE] at hv';omega
  have HE:=IW (lo+5400000) (hi+5400000) (by omega) (by omega) (by omega) (by omega);have HU:=DT lo hi (by omega) (by omega) (by omega) (by omega);generalize mK (lo+5400000) (hi+5400000)=p at*;generalize mJ (lo+5400000) (hi+5400000)=q at*;have hV:=aaX hV;unfold aG at HV HE HU ⊢;replace HE:=aaX HE;replace HU:=aaX HU;generalize lo+5400000=lo' at*;generalize hi+5400000=hi' at*;clear hv hv' hm;go_enter Tryz.func66,Tryz.ntmps66;go_wp2_with fail
  refine (HV.out _).mono ?_;rintro e w1 ⟨rfl,hb⟩;have n1:=aD hb K1.out;have n2:=aD hb K2.out;have l1:=n1.lt;have l2:=n2.lt;obtain ⟨⟨a0,a1⟩,a2,a3⟩:=aL n1;obtain ⟨⟨b0,b1⟩,b2,b3⟩:=aL n2;have K2:=aaX n2;have HB:=aaX (HB.out.trans (hb.mono HB.out.size));clear hb n1 n2;go_wp2_with fail
  refine (HU.out _).mono ?_;rintro e w3 ⟨rfl,hb⟩;have n2:=aD hb K2.out;have l2:=n2.lt;obtain ⟨⟨b0,b1⟩,b2,b3⟩:=aL n2;have K2:=aaX n2;have HB:=aaX (HB.out.trans (hb.mono HB.out.size));clear hb n2;go_wp2_with fail
  refine (HE.out _).mono ?_;rintro e w2 ⟨rfl,hb⟩;have n2:=aD hb K2.out;have l2:=n2.lt;obtain ⟨⟨b0,b1⟩,b2,b3⟩:=aL n2;have HB:=aaX ((HB.out.trans (hb.mono HB.out.size)).setCell (p:=⟨w.heap.size+1,0,none⟩) (by simp) (.int .i64 p) |>.setCell (p:=⟨w.heap.size+1,1,none⟩) (by simp) (.int .i64 q));have n3:=n2.write p q;obtain ⟨⟨r0,r1⟩,r2,r3⟩:=aL n3;clear hb n2 n3;go_wp2;refine bodyPost_ret (v:=V) (by rw [hV.out];simp [results,Tryz.results66,go_sem,aP,aG,r0,r1]) rfl ⟨rfl,HB.out⟩
theorem hav_r (lo hi:Int) (w:World):Calls aaZ 88 #[aG lo hi] w (cI (aP (dT lo hi)) w):=by
 have HV:=aaX (xX lo hi);obtain ⟨V,hV⟩:∃V,V=aP (dT lo hi):=⟨_,rfl⟩;rw [←hV];unfold dT at hV;have K1:=aaX (show dG 23 _ w.heap.size lo hi from gH w (.cells #[.int .i64 lo,.int .i64 hi] 23) (.cells #[.int .i64 0,.int .i64 0] 66));have K2:=aaX (show dG 66 _ (w.heap.size+1) 0 0 from eM w (.cells #[.int .i64 lo,.int .i64 hi] 23) (.cells #[.int .i64 0,.int .i64 0] 66));have HB:=aaX (((aeX w.heap.size w).alloc (aaJ _) (.cells #[.int .i64 lo,.int .i64 hi] 23)).alloc (by simp) (.cells #[.int .i64 0,.int .i64 0] 66));by_cases hv:aE lo hi=false
 ·rw [if_pos hv] at hV;rw [hv] at HV;have hV:=aaX hV;unfold aG at HV ⊢;clear hv;go_enter Tryz.func88,Tryz.ntmps88;go_wp2_with fail
  refine (HV.out _).mono ?_;rintro e w1 ⟨rfl,hb⟩;have n2:=aD hb K2.out;have l2:=n2.lt;obtain ⟨⟨b0,b1⟩,b2,b3⟩:=aL n2;have HB:=aaX ((HB.out.trans (hb.mono HB.out.size)).setCell (p:=⟨w.heap.size+1,0,none⟩) (by simp) (.int .i64 0) |>.setCell (p:=⟨w.heap.size+1,1,none⟩) (by simp) (.int .i64 0));have n3:=n2.write 0 0;obtain ⟨⟨r0,r1⟩,r2,r3⟩:=aL n3;clear hb n2 n3;go_wp2;refine bodyPost_ret (v:=V) (by rw [hV.out];simp [results,Tryz.results88,go_sem,aP,aG,r0,r1]) rfl ⟨rfl,HB.out⟩
 ·rw [if_neg hv] at hV;have hv':aE lo hi=true:=by cases h:aE lo hi<;>simp_all
  rw [hv'] at HV;have hm:-1099511627776≤lo∧lo≤1099511627776∧-1099511627776≤hi∧hi≤1099511627776:=by simp [aE] at hv';omega
  have HE:=IW (lo+5400000) (hi+5400000) (by omega) (by omega) (by omega) (by omega);have HU:=DT lo hi (by omega) (by omega) (by omega) (by omega);obtain ⟨e1,e2,e3,e4⟩:=QZ (lo+5400000) (hi+5400000);generalize mK (lo+5400000) (hi+5400000)=p at*;generalize mJ (lo+5400000) (hi+5400000)=q at*;have hV:=aaX hV;unfold aG at HV HE HU ⊢;replace HE:=aaX HE;replace HU:=aaX HU;generalize lo+5400000=lo' at*;generalize hi+5400000=hi' at*;clear hv hv' hm;go_enter Tryz.func88,Tryz.ntmps88;go_wp2_with fail
  refine (HV.out _).mono ?_;rintro e w1 ⟨rfl,hb⟩;have n1:=aD hb K1.out;have n2:=aD hb K2.out;have l1:=n1.lt;have l2:=n2.lt;obtain ⟨⟨a0,a1⟩,a2,a3⟩:=aL n1;obtain ⟨⟨b0,b1⟩,b2,b3⟩:=aL n2;have K2:=aaX n2;have HB:=aaX (HB.out.trans (hb.mono HB.out.size));clear hb n1 n2;go_wp2_with fail
  refine (HU.out _).mono ?_;rintro e w3 ⟨rfl,hb⟩;have n2:=aD hb K2.out;have l2:=n2.lt;obtain ⟨⟨b0,b1⟩,b2,b3⟩:=aL n2;have K2:=aaX n2;have HB:=aaX (HB.out.trans (hb.mono HB.out.size));clear hb n2;go_wp2_with fail
  refine (HE.out _).mono ?_;rintro e w2 ⟨rfl,hb⟩;have n2:=aD hb K2.out;have l2:=n2.lt;have hz:w.heap.size+2≤w2.heap.size:=by have:=l2;omega
  obtain ⟨⟨b0,b1⟩,b2,b3⟩:=aL n2;have N3:=(n2.write ((1073741824-q)/2) ((1073741824-p+1)/2)).alloc (.cells #[.int .i64 p,.int .i64 q] 66);obtain ⟨⟨r0,r1⟩,r2,r3⟩:=aL N3;have HB:=aaX (((HB.out.trans (hb.mono HB.out.size)).setCell (p:=⟨w.heap.size+1,0,none⟩) (by simp) (.int .i64 ((1073741824-q)/2)) |>.setCell (p:=⟨w.heap.size+1,1,none⟩) (by simp) (.int .i64 ((1073741824-p+1)/2))).alloc (by simp;omega) (.cells #[.int .i64 p,.int .i64 q] 66));clear hb n2 N3;go_wp2;refine bodyPost_ret (v:=V) (by rw [hV.out];simp [results,Tryz.results88,go_sem,aP,aG,r0,r1]) rfl ⟨rfl,HB.out⟩
end
section
open Go.RowKit SM
theorem VA {u v:Int} (hu:-1073741824≤u) (h:u≤v):pK u≤pK v:=by
 obtain ⟨a0,a1,a2,a3⟩:=pZ u hu;obtain ⟨b0,b1,b2,b3⟩:=pZ v (by omega);rcases Int.lt_or_le (pK v) (pK u) with h2 | h2
 ·have:=oX (m:=pK v+1) (n:=pK u) (by omega) (by omega) a1;omega
 ·exact h2
theorem FK (n:Int):mK n n=qD n∧mJ n n=nF n:=by
 have m0:=aiQ n (show (21600000:Int)≠0 by omega);have m1:=agQ n (show (0:Int)<21600000 by omega);unfold mK mJ AK;simp only [Int.sub_self,Int.min_self,Int.max_self,decide_eq_true_eq];constructor
 ·split
  ·have h:n%21600000=16200000:=by omega
   unfold qD nO nT LT;rw [h];decide+kernel
  ·rfl
 ·split
  ·have h:n%21600000=5400000:=by omega
   unfold nF nO nT LT;rw [h];decide+kernel
  ·rfl
theorem lob_sym (n:Int):qD (n+5400000)=qD (5400000-n)∧nF (n+5400000)=nF (5400000-n):=by
 have e:nT (n+5400000)=nT (5400000-n)∧(nO (n+5400000)=nO (5400000-n)∨DR (nT (5400000-n))=true∧mV (nT (5400000-n))=0):=by
  have a0:=aiQ (n+5400000) (show (21600000:Int)≠0 by omega);have a1:=agQ (n+5400000) (show (0:Int)<21600000 by omega);have b0:=aiQ (5400000-n) (show (21600000:Int)≠0 by omega);have b1:=agQ (5400000-n) (show (0:Int)<21600000 by omega);have hs:((n+5400000)%21600000+(5400000-n)%21600000=10800000)∨((n+5400000)%21600000+(5400000-n)%21600000=32400000):=by omega
  have hr:nT (n+5400000)=nT (5400000-n):=by
   unfold nT;generalize (n+5400000)%21600000=p at*;generalize (5400000-n)%21600000=q at*;simp only;repeat' split
   all_goals omega
  refine ⟨hr,?_⟩;by_cases h:(n+5400000)%21600000=10800000∨(5400000-n)%21600000=10800000
  ·right;rw [←hr];have:nT (n+5400000)=0:=by
    unfold nT;generalize (n+5400000)%21600000=p at*;generalize (5400000-n)%21600000=q at*;simp only;repeat' split
    all_goals omega
   rw [this];decide
  ·left;unfold nO;generalize (n+5400000)%21600000=p at*;generalize (5400000-n)%21600000=q at*;simp only [decide_eq_decide];omega
 unfold qD nF LT;rw [e.1];rcases e.2 with h | ⟨h,h2⟩
 ·rw [h];exact ⟨rfl,rfl⟩
 ·rw [h,h2];simp only [reduceIte];constructor<;>(repeat' split)<;>rfl
end
section
open Go.RowKit
def EV (n:Int):Bool:=decide (-1099511627776≤n∧n≤1099511627776)
theorem WM (n:Int) (w:World):Calls aaZ 63 #[.int .i64 n] w (cI (.bool (EV n)) w):=by
 have HB:=aaX (aeX w.heap.size w);obtain ⟨V,hV⟩:∃V,V=Value.bool (EV n):=⟨_,rfl⟩;have HP:∀b,EV n=b→cI V w (.returned (.bool b)) w:=fun b h=>⟨by rw [hV,h],HB.out⟩;have HP:=aaX HP;rw [←hV];clear hV;by_cases h1:-1099511627776≤n
 ·by_cases h2:n≤1099511627776
  ·have HF:=aaX (HP.out true (by unfold EV;rw [decide_eq_true];omega));go_enter Tryz.func63,Tryz.ntmps63;go_wp2;go_ret;exact HF.out
  ·have HF:=aaX (HP.out false (by unfold EV;rw [decide_eq_false];omega));go_enter Tryz.func63,Tryz.ntmps63;go_wp2;go_ret;exact HF.out
 ·have HF:=aaX (HP.out false (by unfold EV;rw [decide_eq_false];omega));go_enter Tryz.func63,Tryz.ntmps63;go_wp2;go_ret;exact HF.out
theorem lE (lo hi:Int) (w:World):Calls aaZ 24 #[aG lo hi] w (cI (.bool (aE lo hi)) w):=by
 obtain ⟨V,hV⟩:∃V,V=Value.bool (aE lo hi):=⟨_,rfl⟩;have HP:∀b w',aE lo hi=b→Below w.heap.size w w'→cI V w (.returned (.bool b)) w':=fun b w' h hb=>⟨by rw [hV,h],hb⟩;have HP:=aaX HP;have HB:=aaX ((aeX w.heap.size w).alloc (aaJ _) (.cells #[.int .i64 lo,.int .i64 hi] 23));have K1:=aaX (show dG 23 _ w.heap.size lo hi from heap_alloc_new w (.cells #[.int .i64 lo,.int .i64 hi] 23));rw [←hV];clear hV;have H1:=WM lo;have H2:=WM hi;have e1:EV lo=decide (-1099511627776≤lo∧lo≤1099511627776):=rfl;have e2:EV hi=decide (-1099511627776≤hi∧hi≤1099511627776):=rfl;have he:aE lo hi=(decide (lo≤hi)&&(EV lo&&EV hi)):=by
  rw [e1,e2];unfold aE;rw [Bool.eq_iff_iff];simp only [Bool.and_eq_true,decide_eq_true_eq];omega
 have HE:=aaX he;clear e1 e2 he;generalize EV lo=f1 at*;generalize EV hi=f2 at*;have H1:=aaX H1;have H2:=aaX H2;unfold aG;by_cases h:lo≤hi
 ·have HE:=aaX (show aE lo hi=(f1&&f2) by rw [HE.out,decide_eq_true h];rfl);go_enter Tryz.func24,Tryz.ntmps24;go_wp2_with fail
  refine (H1.out _).mono ?_;rintro e w1 ⟨rfl,hb⟩;have HB:=aaX (HB.out.trans (hb.mono HB.out.size));have k1:=aD hb K1.out;obtain ⟨⟨a0,a1⟩,a2,a3⟩:=aL k1;clear hb k1;cases f1
  ·have HF:=aaX (HP.out false w1 (by rw [HE.out];rfl) HB.out);go_wp2;go_ret;exact HF.out
  ·go_wp2_with fail
   refine (H2.out _).mono ?_;rintro e w2 ⟨rfl,hb⟩;have HB:=aaX (HB.out.trans (hb.mono HB.out.size));clear hb;have HF:=aaX (HP.out f2 w2 (by rw [HE.out];rfl) HB.out);go_wp2;go_ret;exact HF.out
 ·have HF:=aaX (HP.out false _ (by rw [HE.out,decide_eq_false h];rfl) HB.out);go_enter Tryz.func24,Tryz.ntmps24;go_wp2;go_ret;exact HF.out
end
section
open Go.RowKit
theorem turned_hm2 (n:Int):n.tmod 21600000=n%21600000∨n.tmod 21600000+21600000=n%21600000∧n.tmod 21600000<0:=by
 obtain ⟨k1,k2,_,_⟩:=OV n;by_cases h:0≤n.tmod 21600000
 ·exact .inl (k1 h)
 ·exact .inr ⟨k2 (by omega),by omega⟩
theorem LN (n:Int) (w:World):Calls aaZ 25 #[.int .i64 n] w (cI (.int .i64 (n%21600000)) w):=by
 have hm:=turned_hm2 n;have HB:=aaX (aeX w.heap.size w);obtain ⟨m,h⟩:∃m,n%21600000=m:=⟨_,rfl⟩;rw [h] at hm ⊢;have h0:0≤m:=by omega
 clear h;rcases hm with hs | ⟨hs,hs2⟩;all_goals (
  go_enter Tryz.func25,Tryz.ntmps25;go_wp2;go_ret;exact ⟨rfl,HB.out⟩)
def fG (lo hi:Int):Int:=if 21600000≤hi-lo then 0 else lo%21600000
def dU (lo hi:Int):Int:=if 21600000≤hi-lo then 21600000 else lo%21600000+(hi-lo)
end
end Go.Proofs.YtajpgkpdhcbngaaGreatDoor
