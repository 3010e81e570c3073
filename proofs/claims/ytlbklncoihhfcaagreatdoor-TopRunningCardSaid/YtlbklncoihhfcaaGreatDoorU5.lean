/-
    Quotients of fixed-point intervals, and angles: what each function gives, as a plain law. The cosine formula: what each function.
-/
import Derived.Test.YtlbklncoihhfcaaGreatDoorU4
import Derived.Deep.RegionHeld3
import Derived.Test.YtlbklncoihhfcaaGreatDoorU3
set_option maxRecDepth 100000
set_option maxHeartbeats 4000000
open Go.RowKit.Below renaming heap_alloc→zW,refl→zD
open _root_.Int renaming emod_lt_of_pos→qQ,emod_nonneg→yC,zero_sub→ajQ
open Go.Lib renaming hid→zA
open _root_.Nat renaming le_refl→zC
open Go.Proofs.Tryz renaming prog→zB
open Go.IntKind (i64 u64)
open Go.Value renaming int→jI
open Go.IntKind renaming i64→jJ
open Go.Obj renaming cells→jC
open Go.Value renaming agg→jA
namespace Go.Proofs.YtlbklncoihhfcaaGreatDoor
noncomputable section
section
open Go.RowKit
def bef(p q:Int×Int):Bool:=decide (p.2*q.1<=p.1*q.2)
def i8(yl yh xl xh:Int):Nat->Int×Int
 | 0=>(xl,yl)
 | 1=>(xl,yh)
 | 2=>(xh,yl)
 |_=>(xh,yh)
def kK(yl yh xl xh:Int):Nat->Int×Int
 | 0=>(xl,yl)
 |j+1=>if bef (i8 yl yh xl xh j) (kK yl yh xl xh j) then i8 yl yh xl xh j else kK yl yh xl xh j
def kV(yl yh xl xh:Int):Nat->Int×Int
 | 0=>(xl,yl)
 |j+1=>if bef (kV yl yh xl xh j) (i8 yl yh xl xh j) then i8 yl yh xl xh j else kV yl yh xl xh j
def M5(lo hi:Int)(ex:Bool):Int:=(if hi<lo then hi+21600000 else hi)+(if ex then 0 else 1)
def uQ(yl yh xl xh:Int):Bool:=decide (xl<=0/\0<=xh/\yl<=0/\0<=yh)
def VG(yl yh xl xh:Int):Int×Int×Int:=
 if (aX xl xh&&aX yl yh)=false then(0,0,1)
 else if uQ yl yh xl xh then(0,21600000,0)
 else(sS (kK yl yh xl xh 4).1 (kK yl yh xl xh 4).2,M5 (sS (kK yl yh xl xh 4).1 (kK yl yh xl xh 4).2) (sS (kV yl yh xl xh 4).1 (kV yl yh xl xh 4).2) (XH (kV yl yh xl xh 4).1 (kV yl yh xl xh 4).2),0)
theorem V5(w:World)(a b c:Obj):(((w.alloc a).alloc b).alloc c).heap[w.heap.size]? =some a/\(((w.alloc a).alloc b).alloc c).heap[w.heap.size+ 1]? =some b/\(((w.alloc a).alloc b).alloc c).heap[w.heap.size+1+ 1]? =some c:=by
 refine⟨?_,?_,?_⟩
 ·rw[zW _ _ _ (by simp;omega),fG]
 ·rw[zW _ _ _ (by simp),dP]
 ·have:=heap_alloc_new ((w.alloc a).alloc b) c;simpa using this
theorem Jl(d c b a:Int)(j:Nat):((i8 d c b a j).1=b\/(i8 d c b a j).1=a)/\((i8 d c b a j).2=d\/(i8 d c b a j).2=c):=by
 unfold i8;split<;>simp
theorem SV(d c b a:Int):∀j,((kK d c b a j).1=b\/(kK d c b a j).1=a)/\((kK d c b a j).2=d\/(kK d c b a j).2=c)
 | 0=>by simp[kK]
 |j+1=>by
  unfold kK;split
  ·exact Jl _ _ _ _ _
  ·exact SV d c b a j
theorem TK(d c b a:Int):∀j,((kV d c b a j).1=b\/(kV d c b a j).1=a)/\((kV d c b a j).2=d\/(kV d c b a j).2=c)
 | 0=>by simp[kV]
 |j+1=>by
  unfold kV;split
  ·exact Jl _ _ _ _ _
  ·exact TK d c b a j
theorem Tw(i g f d:Int)(h:(aX f d&&aX i g)=false)(w:World):Calls zB 171 #[aG i g,aG f d] w (bI (aT (0,0,1)) w):=by
 have j:=zA (gO f d);have m:=zA (gO i g);have o:=V5 w (jC #[jI jJ i,jI jJ g] 99) (jC #[jI jJ f,jI jJ d] 99) (jC #[jI jJ 0,jI jJ 0] 31);have x:=zA (show cV 99 _ w.heap.size i g from o.1);have I:=zA (show cV 99 _ (w.heap.size+1) f d from o.2.1);have n:=zA (show cV 31 _ (w.heap.size+1+1) 0 0 from o.2.2);have c:=zA ((((zD w.heap.size w).alloc (zC _) (jC #[jI jJ i,jI jJ g] 99)).alloc (by simp) (jC #[jI jJ f,jI jJ d] 99)).alloc (by simp;omega) (jC #[jI jJ 0,jI jJ 0] 31));clear o;cases l:aX f d
 ·rw[l]at j;clear h l m;unfold aG at j ⊢;go_enter Tryz.func171,Tryz.ntmps171;go_wp2_with fail
  refine(j.out _).mono ?_;rintro e H ⟨rfl,a⟩;have b:=aH a n.out;have D:=b.lt;obtain⟨⟨y,z⟩,A,B⟩:=aV b;have k:=b.write 0 0;obtain⟨⟨s,t⟩,E,G⟩:=aV k;have q:=zA (((c.out.trans (a.mono c.out.size)).setCell (p:=⟨w.heap.size+1+1,0,none⟩) (by simp;omega) (jI jJ 0)).setCell (p:=⟨w.heap.size+1+1,1,none⟩) (by simp;omega) (jI jJ 0));clear a b k;go_wp2;refine bodyPost_ret (v:=aT (0,0,1)) (by simp[results,Tryz.results171,go_sem,aT,aG,s,t]) rfl ⟨rfl,q.out⟩
 ·have u:aX i g=false:=by rw[l]at h;simpa using h
  rw[l]at j;rw[u]at m;clear h l u;unfold aG at j m ⊢;go_enter Tryz.func171,Tryz.ntmps171;go_wp2_with fail
  refine(j.out _).mono ?_;rintro e H ⟨rfl,a⟩;have r:=aH a x.out;have M:=r.lt;obtain⟨⟨J,c1⟩,K,L⟩:=aV r;have n:=zA (aH a n.out);have c:=zA (c.out.trans (a.mono c.out.size));clear a r;go_wp2_with fail
  refine(m.out _).mono ?_;rintro e N ⟨rfl,a⟩;have b:=aH a n.out;have D:=b.lt;obtain⟨⟨y,z⟩,A,B⟩:=aV b;have k:=b.write 0 0;obtain⟨⟨s,t⟩,E,G⟩:=aV k;have q:=zA (((c.out.trans (a.mono c.out.size)).setCell (p:=⟨w.heap.size+1+1,0,none⟩) (by simp;omega) (jI jJ 0)).setCell (p:=⟨w.heap.size+1+1,1,none⟩) (by simp;omega) (jI jJ 0));clear a b k;go_wp2;refine bodyPost_ret (v:=aT (0,0,1)) (by simp[results,Tryz.results171,go_sem,aT,aG,s,t]) rfl ⟨rfl,q.out⟩
theorem VI(g f d c:Int)(t:aX d c=true)(u:aX g f=true)(h:uQ g f d c=true)(w:World):Calls zB 171 #[aG g f,aG d c] w (bI (aT (0,21600000,0)) w):=by
 have l:=zA (gO d c);have m:=zA (gO g f);have j:=V5 w (jC #[jI jJ g,jI jJ f] 99) (jC #[jI jJ d,jI jJ c] 99) (jC #[jI jJ 0,jI jJ 0] 31);have n:=zA (show cV 99 _ w.heap.size g f from j.1);have o:=zA (show cV 99 _ (w.heap.size+1) d c from j.2.1);have q:=zA (show cV 31 _ (w.heap.size+1+1) 0 0 from j.2.2);have i:=zA ((((zD w.heap.size w).alloc (zC _) (jC #[jI jJ g,jI jJ f] 99)).alloc (by simp) (jC #[jI jJ d,jI jJ c] 99)).alloc (by simp;omega) (jC #[jI jJ 0,jI jJ 0] 31));clear j;rw[t]at l;rw[u]at m;clear t u;simp only[uQ,decide_eq_true_eq]at h;obtain⟨M,N,O,Q⟩:=h;unfold aG at l m ⊢;go_enter Tryz.func171,Tryz.ntmps171;go_wp2_with fail
 refine(l.out _).mono ?_;rintro e Y ⟨rfl,a⟩;have b:=aH a n.out;have y:=b.lt;obtain⟨⟨H,c1⟩,I,J⟩:=aV b;have n:=zA b;have o:=zA (aH a o.out);have q:=zA (aH a q.out);have i:=zA (i.out.trans (a.mono i.out.size));clear a b;go_wp2_with fail
 refine(m.out _).mono ?_;rintro e Z ⟨rfl,a⟩;have b:=aH a n.out;have r:=aH a o.out;have k:=aH a q.out;have y:=b.lt;have R:=r.lt;have U:=k.lt;obtain⟨⟨K,d1⟩,d2,d3⟩:=aV b;obtain⟨⟨e0,e1⟩,e2,L⟩:=aV r;obtain⟨⟨B,D⟩,E,G⟩:=aV k;have s:=k.write 0 21600000;obtain⟨⟨z,A⟩,V,X⟩:=aV s;have x:=zA (((i.out.trans (a.mono i.out.size)).setCell (p:=⟨w.heap.size+1+1,0,none⟩) (by simp;omega) (jI jJ 0)).setCell (p:=⟨w.heap.size+1+1,1,none⟩) (by simp;omega) (jI jJ 21600000));clear a b r k s;go_wp2;refine bodyPost_ret (v:=aT (0,21600000,0)) (by simp[results,Tryz.results171,go_sem,aT,aG,z,A]) rfl ⟨rfl,x.out⟩
end
section
open Go.RowKit
theorem aFH{w:World}{b:Nat}{t:TypeId}{a c d e f g i v7:Value}(h:w.heap[b]? =some (jC #[a,c,d,e,f,g,i,v7] t (0,0))):
  (w.cell? ⟨b,0,none⟩=some a/\w.cell? ⟨b,1,none⟩=some c/\w.cell? ⟨b,2,none⟩=some d/\w.cell? ⟨b,3,none⟩=some e/\w.cell? ⟨b,4,none⟩=some f/\w.cell? ⟨b,5,none⟩=some g/\w.cell? ⟨b,6,none⟩=some i/\w.cell? ⟨b,7,none⟩=some v7):=by
 refine⟨?_,?_,?_,?_,?_,?_,?_,?_⟩<;>simp[World.cell?,h]
theorem aGz(a b c d e f g h:Int)(w:World):(Instr.index 236 (jA #[jI jJ a,jI jJ b,jI jJ c,jI jJ d,jI jJ e,jI jJ f,jI jJ g,jI jJ h]) (jI jJ 0)).run zB w=.ok (jA #[jI jJ a,jI jJ b]) w:=by
 have u:=Tryz.underlying235;have i:=Tryz.isAgg235;have j:=Tryz.sizeOf235;simp[Instr.index,run_underlying Tryz.underlying236,asIntOf,go_sem]
theorem aGA(a b c d e f g h:Int)(w:World):(Instr.index 236 (jA #[jI jJ a,jI jJ b,jI jJ c,jI jJ d,jI jJ e,jI jJ f,jI jJ g,jI jJ h]) (jI jJ 1)).run zB w=.ok (jA #[jI jJ c,jI jJ d]) w:=by
 have u:=Tryz.underlying235;have i:=Tryz.isAgg235;have j:=Tryz.sizeOf235;simp[Instr.index,run_underlying Tryz.underlying236,asIntOf,go_sem]
theorem aGB(a b c d e f g h:Int)(w:World):(Instr.index 236 (jA #[jI jJ a,jI jJ b,jI jJ c,jI jJ d,jI jJ e,jI jJ f,jI jJ g,jI jJ h]) (jI jJ 2)).run zB w=.ok (jA #[jI jJ e,jI jJ f]) w:=by
 have u:=Tryz.underlying235;have i:=Tryz.isAgg235;have j:=Tryz.sizeOf235;simp[Instr.index,run_underlying Tryz.underlying236,asIntOf,go_sem]
theorem aGC(a b c d e f g h:Int)(w:World):(Instr.index 236 (jA #[jI jJ a,jI jJ b,jI jJ c,jI jJ d,jI jJ e,jI jJ f,jI jJ g,jI jJ h]) (jI jJ 3)).run zB w=.ok (jA #[jI jJ g,jI jJ h]) w:=by
 have u:=Tryz.underlying235;have i:=Tryz.isAgg235;have j:=Tryz.sizeOf235;simp[Instr.index,run_underlying Tryz.underlying236,asIntOf,go_sem]
theorem UE(f:Nat->Bool):∀n l h:Nat,l<=h->l<=EY f n l h/\EY f n l h<=h
 | 0,l,h,a=>⟨zC _,a⟩
 |n+1,l,h,a=>by
  unfold EY;split
  ·exact⟨zC _,a⟩
  ·split
   ·have:=UE f n ((l+h)/2) h (by omega);omega
   ·have:=UE f n l ((l+h)/2) (by omega);omega
theorem Iv(x y:Int):0<=sS x y/\sS x y<=21600000:=by
 have h:=aCa x y;have a:=UE (GJ (oQ x y (qr x y)).1.toNat (oQ x y (qr x y)).2.toNat) 23 0 5400000 (by omega);unfold sS Yf;omega
theorem Oj(b f a d:Int)(hx:aX a d=true)(hy:aX b f=true)(h:uQ b f a d=false)(w:World):
  Calls zB 171 #[aG b f,aG a d] w (bI (aT (sS (kK b f a d 4).1 (kK b f a d 4).2,M5 (sS (kK b f a d 4).1 (kK b f a d 4).2) (sS (kV b f a d 4).1 (kV b f a d 4).2) (XH (kV b f a d 4).1 (kV b f a d 4).2),0)) w):=by
 obtain⟨V,E⟩:∃V,V=aT (sS (kK b f a d 4).1 (kK b f a d 4).2,M5 (sS (kK b f a d 4).1 (kK b f a d 4).2) (sS (kV b f a d 4).1 (kV b f a d 4).2) (XH (kV b f a d 4).1 (kV b f a d 4).2),0):=⟨_,rfl⟩;rw[<-E];have HX:=zA (gO a d);have HY:=zA (gO b f);rw[hx]at HX;rw[hy]at HY;simp only[aX,decide_eq_true_eq]at hx hy;obtain⟨x1,x2,x3⟩:=hx;obtain⟨y1,y2,y3⟩:=hy;have ho:¬(a<=0/\0<=d/\b<=0/\0<=f):=by simpa[uQ]using h
 clear h;have H:=V5 w (jC #[jI jJ b,jI jJ f] 99) (jC #[jI jJ a,jI jJ d] 99) (jC #[jI jJ 0,jI jJ 0] 31);have K2:=zA (show cV 99 _ w.heap.size b f from H.1);have K3:=zA (show cV 99 _ (w.heap.size+1) a d from H.2.1);have Z:=zA (show cV 31 _ (w.heap.size+1+1) 0 0 from H.2.2);have k:=zA ((((zD w.heap.size w).alloc (zC _) (jC #[jI jJ b,jI jJ f] 99)).alloc (by simp) (jC #[jI jJ a,jI jJ d] 99)).alloc (by simp;omega) (jC #[jI jJ 0,jI jJ 0] 31));clear H;have HO:=zA ho;replace E:=zA E;clear ho;unfold aG at HX HY ⊢;go_enter Tryz.func171,Tryz.ntmps171;go_wp2_with fail
 refine(HX.out _).mono ?_;rintro e w1 ⟨rfl,g⟩;have X:=aH g K2.out;have l2:=X.lt;obtain⟨⟨c0,c1⟩,c2,c3⟩:=aV X;have K2:=zA X;have K3:=zA (aH g K3.out);have Z:=zA (aH g Z.out);have k:=zA (k.out.trans (g.mono k.out.size));clear g X;go_wp2_with fail
 refine(HY.out _).mono ?_;rintro e w2 ⟨rfl,g⟩;have X:=aH g K2.out;have k3:=aH g K3.out;have k4:=aH g Z.out;have l2:=X.lt;have l3:=k3.lt;have l4:=k4.lt;obtain⟨⟨d0,d1⟩,d2,d3⟩:=aV X;obtain⟨⟨e0,e1⟩,e2,e3⟩:=aV k3;have Z:=zA k4;have k:=zA (k.out.trans (g.mono k.out.size));clear g X k3 k4 HX HY K2 K3;go_upto_region 3 with fail
 go_cut [41]from 24 to 41 (fun c wx=>c=.bool false/\wx=w2)
 case first=>
  by_cases z1:a<=0
  ·by_cases z2:0<=d
   ·by_cases z3:b<=0
    ·have z4:¬0<=f:=fun h=>HO.out ⟨z1,z2,z3,h⟩;go_wp2_with fail
     go_meet
     exact⟨by simp,rfl⟩
    ·go_wp2_with fail
     go_meet
     exact⟨by simp,rfl⟩
   ·go_wp2_with fail
    go_meet
    exact⟨by simp,rfl⟩
  ·go_wp2_with fail
   go_meet
   exact⟨by simp,rfl⟩
 case rest=>
  obtain⟨rfl,rfl⟩:=hcut;generalize wc=x at*;have b2:=k.out.size;have HI:∀p7 p8 u y,(p7=Value.pointer (some ⟨u,0,none⟩)/\p8=Value.pointer (some ⟨y,0,none⟩))->((u=x.heap.size+1/\y=x.heap.size+1+1)\/(y=x.heap.size+1/\u=x.heap.size+1+1))->
   ∃I J:Nat,p7=Value.pointer (some ⟨I,0,none⟩)/\p8=Value.pointer (some ⟨J,0,none⟩)/\I≠J/\w.heap.size+1+1<I/\w.heap.size+1+1<J/\x.heap.size<I/\x.heap.size<J/\cV 235 (((x.alloc (jC #[jI jJ a,jI jJ b,jI jJ a,jI jJ f,jI jJ d,jI jJ b,jI jJ d,jI jJ f] 236)).alloc (jC #[jI jJ a,jI jJ b] 235)).alloc (jC #[jI jJ a,jI jJ b] 235)).drew I a b/\cV 235 (((x.alloc (jC #[jI jJ a,jI jJ b,jI jJ a,jI jJ f,jI jJ d,jI jJ b,jI jJ d,jI jJ f] 236)).alloc (jC #[jI jJ a,jI jJ b] 235)).alloc (jC #[jI jJ a,jI jJ b] 235)).drew J a b/\cV 31 (((x.alloc (jC #[jI jJ a,jI jJ b,jI jJ a,jI jJ f,jI jJ d,jI jJ b,jI jJ d,jI jJ f] 236)).alloc (jC #[jI jJ a,jI jJ b] 235)).alloc (jC #[jI jJ a,jI jJ b] 235)).drew (w.heap.size+1+1) 0 0/\(((x.alloc (jC #[jI jJ a,jI jJ b,jI jJ a,jI jJ f,jI jJ d,jI jJ b,jI jJ d,jI jJ f] 236)).alloc (jC #[jI jJ a,jI jJ b] 235)).alloc (jC #[jI jJ a,jI jJ b] 235)).drew.heap[x.heap.size]? =some (jC #[jI jJ a,jI jJ b,jI jJ a,jI jJ f,jI jJ d,jI jJ b,jI jJ d,jI jJ f] 236 (0,0))/\Below w.heap.size w (((x.alloc (jC #[jI jJ a,jI jJ b,jI jJ a,jI jJ f,jI jJ d,jI jJ b,jI jJ d,jI jJ f] 236)).alloc (jC #[jI jJ a,jI jJ b] 235)).alloc (jC #[jI jJ a,jI jJ b] 235)).drew:=by
   intro p7 p8 u y ⟨e7,e8⟩ g;have c6:=Z.out.lt;have H:=V5 x (jC #[jI jJ a,jI jJ b,jI jJ a,jI jJ f,jI jJ d,jI jJ b,jI jJ d,jI jJ f] 236) (jC #[jI jJ a,jI jJ b] 235) (jC #[jI jJ a,jI jJ b] 235);have k4:=((Z.out.alloc (jC #[jI jJ a,jI jJ b,jI jJ a,jI jJ f,jI jJ d,jI jJ b,jI jJ d,jI jJ f] 236)).alloc (jC #[jI jJ a,jI jJ b] 235)).alloc (jC #[jI jJ a,jI jJ b] 235);have hB:=((k.out.alloc (by omega) (jC #[jI jJ a,jI jJ b,jI jJ a,jI jJ f,jI jJ d,jI jJ b,jI jJ d,jI jJ f] 236)).alloc (by simp;omega) (jC #[jI jJ a,jI jJ b] 235)).alloc (by simp;omega) (jC #[jI jJ a,jI jJ b] 235);rcases g with⟨h7,h8⟩|⟨h8,h7⟩
   ·exact⟨u,y,e7,e8,by omega,by omega,by omega,by omega,by omega,by rw[h7];exact H.2.1,by rw[h8];exact H.2.2,k4,H.1,hB.drew⟩
   ·exact⟨u,y,e7,e8,by omega,by omega,by omega,by omega,by omega,by rw[h7];exact H.2.2,by rw[h8];exact H.2.1,k4,H.1,hB.drew⟩
  have HI:=zA HI;go_upto_region 6 with fail
  go_cut [7,8]from 64 to 67 (fun p7 p8 wx=>∃I J:Nat,p7=Value.pointer (some ⟨I,0,none⟩)/\p8=Value.pointer (some ⟨J,0,none⟩)/\I≠J/\w.heap.size+1+1<I/\w.heap.size+1+1<J/\x.heap.size<I/\x.heap.size<J/\cV 235 wx I a b/\cV 235 wx J a b/\cV 31 wx (w.heap.size+1+1) 0 0/\wx.heap[x.heap.size]? =some (jC #[jI jJ a,jI jJ b,jI jJ a,jI jJ f,jI jJ d,jI jJ b,jI jJ d,jI jJ f] 236 (0,0))/\Below w.heap.size w wx)
  case first=>
   go_region_with fail
   all_goals (
    go_wp2_with fail
    go_meet
    first
     |exact HI.out _ _ _ _ ⟨rfl,rfl⟩ (.inl ⟨rfl,rfl⟩)
     |exact HI.out _ _ _ _ ⟨rfl,rfl⟩ (.inr ⟨rfl,rfl⟩))
  case rest=>
   obtain⟨u,y,rfl,rfl,a9,h7,h8,h9,b4,i,l,G,kA,g⟩:=hcut;clear HI;obtain⟨a0,a1,a2,a3,a4,a5,a6,a7⟩:=aFH kA;have lA:=(Array.getElem?_eq_some_iff.1 kA).1;have A:=zA i;have s:=zA l;have o:=zA G;have b0:=zA g;clear i l G kA g Z k b2;go_wp2;go_loopw [69] (fun t wr=>∃j:Nat,j<=4/\t=jI jJ (j:Int)/\cV 235 wr u (kK b f a d j).1 (kK b f a d j).2/\cV 235 wr y (kV b f a d j).1 (kV b f a d j).2/\cV 31 wr (w.heap.size+1+1) 0 0/\Below w.heap.size w wr) (fun t _=>(4-mB t).toNat)
   case atStart=>exact⟨0,by omega,rfl,A.out,s.out,o.out,b0.out⟩
   case round=>
    clear A s o b0 a0 a1 a2 a3 a4 a5 a6 a7 lA;obtain⟨j,hj,rfl,i,l,G,g⟩:=hrel;have lF:=i.lt;have lL:=l.lt;rcases(show j<4\/j=4 by omega)with c4|rfl
    ·obtain⟨m,n,b6,b9,XJ,B,D⟩:∃m n:Int,(m=a\/m=d)/\(n=b\/n=f)/\(∀w:World,(Instr.index 236 (jA #[jI jJ a,jI jJ b,jI jJ a,jI jJ f,jI jJ d,jI jJ b,jI jJ d,jI jJ f]) (jI jJ (j:Int))).run zB w=.ok (jA #[jI jJ m,jI jJ n]) w)/\kK b f a d (j+1)=(if bef (m,n) (kK b f a d j) then(m,n) else kK b f a d j)/\kV b f a d (j+1)=(if bef (kV b f a d j) (m,n) then(m,n) else kV b f a d j):=by
      rcases(show j=0\/j=1\/j=2\/j=3 by omega)with rfl|rfl|rfl|rfl
      ·exact⟨a,b,.inl rfl,.inl rfl,aGz _ _ _ _ _ _ _ _,rfl,rfl⟩
      ·exact⟨a,f,.inl rfl,.inr rfl,aGA _ _ _ _ _ _ _ _,rfl,rfl⟩
      ·exact⟨d,b,.inr rfl,.inl rfl,aGB _ _ _ _ _ _ _ _,rfl,rfl⟩
      ·exact⟨d,f,.inr rfl,.inr rfl,aGC _ _ _ _ _ _ _ _,rfl,rfl⟩
     have wj:i64.wrap ((j:Int)+1)=(j:Int)+1:=IntWalk.i64_in _ (by omega);have c5:(j:Int)<4:=by omega
     have hm:=SV b f a d j;have hn:=TK b f a d j;generalize kK b f a d j=F at*;generalize kV b f a d j=L at*;obtain⟨K,M⟩:=F;obtain⟨N,O⟩:=L;simp only at i l hm hn;have g1:-2147483648<=K/\K<=2147483648:=by omega
     have g2:-2147483648<=M/\M<=2147483648:=by omega
     have g3:-2147483648<=N/\N<=2147483648:=by omega
     have g4:-2147483648<=O/\O<=2147483648:=by omega
     have U:=zA (JL m n K M (by omega) (by omega) g1 g2);have Q:=zA (JL N O m n g3 g4 (by omega) (by omega));change Hid (∀w,Calls zB 230 #[aG m n,aG K M] w (bI (.bool (bef (m,n) (K,M))) w))at U;change Hid (∀w,Calls zB 230 #[aG N O,aG m n] w (bI (.bool (bef (N,O) (m,n))) w))at Q;generalize bef (m,n) (K,M)=B1 at*;generalize bef (N,O) (m,n)=B2 at*;have B:=zA B;have D:=zA D;clear hm hn g1 g2 g3 g4;have lF:=i.lt;have lL:=l.lt;obtain⟨⟨p0,p1⟩,p2,p3⟩:=aV i;obtain⟨⟨q0,q1⟩,q2,q3⟩:=aV l;have A:=zA (i.alloc (jC #[jI jJ m,jI jJ n] 235));have s:=zA (l.alloc (jC #[jI jJ m,jI jJ n] 235));have o:=zA (G.alloc (jC #[jI jJ m,jI jJ n] 235));have KC:=zA (show cV 235 _ wr.heap.size m n from heap_alloc_new wr (jC #[jI jJ m,jI jJ n] 235));have k:=zA (g.alloc (by have:=g.size;omega) (jC #[jI jJ m,jI jJ n] 235));have b1:u≠wr.heap.size:=by omega
     have b5:y≠wr.heap.size:=by omega
     clear i l G g hj;unfold aG at U Q;go_wp2_with fail
     refine(U.out _).mono ?_;rintro e w3 ⟨rfl,g⟩;have i:=aH g A.out;have l:=aH g s.out;have q:=aH g KC.out;have o:=zA (aH g o.out);have k:=zA (k.out.trans (g.mono k.out.size));clear g A s KC p0 p1 p2 p3 q0 q1 q2 q3;have lC:=q.lt;have lF:=i.lt;have lL:=l.lt;obtain⟨⟨p0,p1⟩,p2,p3⟩:=aV i;obtain⟨⟨q0,q1⟩,q2,q3⟩:=aV l;obtain⟨⟨R,s1⟩,s2,s3⟩:=aV q;cases B1
     ·have hz:True:=trivial;go_wp2_with fail
      refine(Q.out _).mono ?_;rintro e w4 ⟨rfl,g⟩;have i:=aH g i;have l:=aH g l;have q:=aH g q;have o:=zA (aH g o.out);have k:=zA (k.out.trans (g.mono k.out.size));have lC:=q.lt;have lF:=i.lt;have lL:=l.lt;obtain⟨⟨p0,p1⟩,p2,p3⟩:=aV i;obtain⟨⟨q0,q1⟩,q2,q3⟩:=aV l;obtain⟨⟨R,s1⟩,s2,s3⟩:=aV q;clear g;cases B2
      ·have A:=zA i;have s:=zA l;clear i l q;go_wp2;go_roundw
       case rel=>exact⟨j+1,by omega,by simp,by rw[B.out];exact A.out,by rw[D.out];exact s.out,o.out,k.out⟩
       case measure=>simp only[mB];omega
      ·have A:=zA (i.other a9 (jI jJ m) (jI jJ n));have s:=zA (l.write m n);have o:=zA (o.out.other (b':=y) (by omega) (jI jJ m) (jI jJ n));have k:=zA ((k.out.setCell (p:=⟨y,0,none⟩) (by simp;omega) (jI jJ m)).setCell (p:=⟨y,1,none⟩) (by simp;omega) (jI jJ n));clear i l q;go_wp2;go_roundw
       case rel=>exact⟨j+1,by omega,by simp,by rw[B.out];exact A.out,by rw[D.out];exact s.out,o.out,k.out⟩
       case measure=>simp only[mB];omega
     ·have i:=i.write m n;have l:=l.other (b':=u) a9.symm (jI jJ m) (jI jJ n);have q:=q.other (b':=u) b1.symm (jI jJ m) (jI jJ n);have o:=zA (o.out.other (b':=u) (by omega) (jI jJ m) (jI jJ n));have k:=zA ((k.out.setCell (p:=⟨u,0,none⟩) (by simp;omega) (jI jJ m)).setCell (p:=⟨u,1,none⟩) (by simp;omega) (jI jJ n));have lF:=i.lt;have lL:=l.lt;have lC:=q.lt;obtain⟨⟨i0,i1⟩,i2,i3⟩:=aV i;obtain⟨⟨m0,m1⟩,m2,m3⟩:=aV l;obtain⟨⟨n0,n1⟩,n2,n3⟩:=aV q;go_wp2_with fail
      generalize (w3.setCell ⟨u,0,none⟩ (jI jJ m)).setCell ⟨u,1,none⟩ (jI jJ n)=w3 at*;refine(Q.out _).mono ?_;rintro e w4 ⟨rfl,g⟩;have i:=aH g i;have l:=aH g l;have q:=aH g q;have o:=zA (aH g o.out);have k:=zA (k.out.trans (g.mono k.out.size));have lC:=q.lt;have lF:=i.lt;have lL:=l.lt;obtain⟨⟨p0,p1⟩,p2,p3⟩:=aV i;obtain⟨⟨q0,q1⟩,q2,q3⟩:=aV l;obtain⟨⟨R,s1⟩,s2,s3⟩:=aV q;clear g;cases B2
      ·have A:=zA i;have s:=zA l;clear i l q;go_wp2;go_roundw
       case rel=>exact⟨j+1,by omega,by simp,by rw[B.out];exact A.out,by rw[D.out];exact s.out,o.out,k.out⟩
       case measure=>simp only[mB];omega
      ·have A:=zA (i.other a9 (jI jJ m) (jI jJ n));have s:=zA (l.write m n);have o:=zA (o.out.other (b':=y) (by omega) (jI jJ m) (jI jJ n));have k:=zA ((k.out.setCell (p:=⟨y,0,none⟩) (by simp;omega) (jI jJ m)).setCell (p:=⟨y,1,none⟩) (by simp;omega) (jI jJ n));clear i l q;go_wp2;go_roundw
       case rel=>exact⟨j+1,by omega,by simp,by rw[B.out];exact A.out,by rw[D.out];exact s.out,o.out,k.out⟩
       case measure=>simp only[mB];omega
    ·have hm:=SV b f a d 4;have hn:=TK b f a d 4;generalize kK b f a d 4=F at*;generalize kV b f a d 4=L at*;obtain⟨K,M⟩:=F;obtain⟨N,O⟩:=L;simp only at i l hm hn;have E:=E.out;simp only at E;have ho:=HO.out;have U:=OU K M (by omega) (by omega) (by omega);have Q:=OU N O (by omega) (by omega) (by omega);obtain⟨g1,g2⟩:=Iv K M;obtain⟨g3,g4⟩:=Iv N O;generalize sS K M=z at*;generalize XH K M=E1 at*;generalize sS N O=r at*;generalize XH N O=E2 at*;replace U:=zA U;replace Q:=zA Q;replace E:=zA E;obtain⟨⟨p0,p1⟩,p2,p3⟩:=aV i;obtain⟨⟨q0,q1⟩,q2,q3⟩:=aV l;have s:=zA l;have o:=zA G;have k:=zA g;clear i l G g hm hn ho hj;unfold aG at U Q;go_wp2_with fail
     refine(U.out _).mono ?_;rintro e w3 ⟨rfl,g⟩;have l:=aH g s.out;have o:=zA (aH g o.out);have k:=zA (k.out.trans (g.mono k.out.size));have lL:=l.lt;obtain⟨⟨q0,q1⟩,q2,q3⟩:=aV l;clear g l s;go_wp2_with fail
     refine(Q.out _).mono ?_;rintro e w4 ⟨rfl,g⟩;have G:=aH g o.out;have k:=zA (k.out.trans (g.mono k.out.size));have lR:=G.lt;obtain⟨⟨r0,r1⟩,r2,r3⟩:=aV G;have o:=zA G;clear g G U Q;by_cases hh:r<z
     ·cases E2
      ·have hU:=zA (show M5 z r false=r+21600000+1 by simp[M5,hh]);have i:=o.out.write z (r+21600000+1);obtain⟨⟨R,s1⟩,s2,s3⟩:=aV i;have Y:=zA ((k.out.setCell (p:=⟨w.heap.size+1+1,0,none⟩) (by simp;omega) (jI jJ z)).setCell (p:=⟨w.heap.size+1+1,1,none⟩) (by simp;omega) (jI jJ (r+21600000+1)));clear i;go_wp2;refine bodyPost_ret (v:=V) (by rw[E.out,hU.out];simp[results,Tryz.results171,go_sem,aT,aG,R,s1]) rfl ⟨rfl,Y.out⟩
      ·have hU:=zA (show M5 z r true=r+21600000 by simp[M5,hh]);have i:=o.out.write z (r+21600000);obtain⟨⟨R,s1⟩,s2,s3⟩:=aV i;have Y:=zA ((k.out.setCell (p:=⟨w.heap.size+1+1,0,none⟩) (by simp;omega) (jI jJ z)).setCell (p:=⟨w.heap.size+1+1,1,none⟩) (by simp;omega) (jI jJ (r+21600000)));clear i;go_wp2;refine bodyPost_ret (v:=V) (by rw[E.out,hU.out];simp[results,Tryz.results171,go_sem,aT,aG,R,s1]) rfl ⟨rfl,Y.out⟩
     ·cases E2
      ·have hU:=zA (show M5 z r false=r+1 by simp[M5,hh]);have i:=o.out.write z (r+1);obtain⟨⟨R,s1⟩,s2,s3⟩:=aV i;have Y:=zA ((k.out.setCell (p:=⟨w.heap.size+1+1,0,none⟩) (by simp;omega) (jI jJ z)).setCell (p:=⟨w.heap.size+1+1,1,none⟩) (by simp;omega) (jI jJ (r+1)));clear i;go_wp2;refine bodyPost_ret (v:=V) (by rw[E.out,hU.out];simp[results,Tryz.results171,go_sem,aT,aG,R,s1]) rfl ⟨rfl,Y.out⟩
      ·have hU:=zA (show M5 z r true=r by simp[M5,hh]);have i:=o.out.write z (r);obtain⟨⟨R,s1⟩,s2,s3⟩:=aV i;have Y:=zA ((k.out.setCell (p:=⟨w.heap.size+1+1,0,none⟩) (by simp;omega) (jI jJ z)).setCell (p:=⟨w.heap.size+1+1,1,none⟩) (by simp;omega) (jI jJ (r)));clear i;go_wp2;refine bodyPost_ret (v:=V) (by rw[E.out,hU.out];simp[results,Tryz.results171,go_sem,aT,aG,R,s1]) rfl ⟨rfl,Y.out⟩
end
section
open Go.RowKit
theorem VH(d c b a:Int)(w:World):Calls zB 171 #[aG d c,aG b a] w (bI (aT (VG d c b a)) w):=by
 unfold VG;by_cases h:(aX b a&&aX d c)=false
 ·rw[if_pos h];exact Tw d c b a h w
 ·have e:aX b a=true/\aX d c=true:=by
   cases g:aX b a<;>cases i:aX d c<;>simp[g,i]at h ⊢
  rw[if_neg h];by_cases f:uQ d c b a=true
  ·rw[if_pos f];exact VI d c b a e.1 e.2 f w
  ·rw[if_neg f];exact Oj d c b a e.1 e.2 (by simpa using f) w
end
section
open Go.RowKit
end
section
open Go.RowKit SM
def aB(lo hi:Int):Bool:=decide (-1099511627776<=lo/\lo<=hi/\hi<=1099511627776)
theorem wM(lo hi:Int)(w:World):Calls zB 90 #[aG lo hi] w (bI (.bool (aB lo hi)) w):=by
 obtain⟨V,e⟩:∃V,V=Value.bool (aB lo hi):=⟨_,rfl⟩;have c:∀b f,aB lo hi=b->Below w.heap.size w f->bI V w (.returned (.bool b)) f:=fun b f h g=>⟨by rw[e,h],g⟩;have c:=zA c;have d:=zA ((zD w.heap.size w).alloc (zC _) (jC #[jI jJ lo,jI jJ hi] 31));rw[<-e];clear e;unfold aG;by_cases i:-1099511627776<=lo
 ·by_cases j:lo<=hi
  ·by_cases k:hi<=1099511627776
   ·have a:=zA (c.out true _ (by unfold aB;rw[decide_eq_true];omega) d.out);go_enter Tryz.func90,Tryz.ntmps90;go_wp2;go_ret;exact a.out
   ·have a:=zA (c.out false _ (by unfold aB;rw[decide_eq_false];omega) d.out);go_enter Tryz.func90,Tryz.ntmps90;go_wp2;go_ret;exact a.out
  ·have a:=zA (c.out false _ (by unfold aB;rw[decide_eq_false];omega) d.out);go_enter Tryz.func90,Tryz.ntmps90;go_wp2;go_ret;exact a.out
 ·have a:=zA (c.out false _ (by unfold aB;rw[decide_eq_false];omega) d.out);go_enter Tryz.func90,Tryz.ntmps90;go_wp2;go_ret;exact a.out
def tP(lo hi n:Int):Bool:=decide ((n-lo)%21600000<=hi-lo)
theorem aFI{w0 W w1:World}{b:Nat}{f g:Value}(h:(W.cell? ⟨b,0,none⟩=some f/\W.cell? ⟨b,1,none⟩=some g)/\Below w0.heap.size w0 W)(c:Below W.heap.size W w1):
  (w1.cell? ⟨b,0,none⟩=some f/\w1.cell? ⟨b,1,none⟩=some g)/\Below w0.heap.size w0 w1:=by
 obtain⟨⟨d,i⟩,e⟩:=h;have a:=World.block_lt_of_cell? W _ d;exact⟨⟨(c.cell (p:=⟨b,0,none⟩) a).trans d,(c.cell (p:=⟨b,1,none⟩) a).trans i⟩,e.trans (c.mono e.size)⟩
theorem PY(lo hi n:Int)(v:-2000000000000<=lo)(x:lo<=2000000000000)(y:-2000000000000<=hi)(z:hi<=2000000000000)(A:0<=n)(B:n<=21600000)(w:World):Calls zB 122 #[aG lo hi,jI jJ n] w (bI (.bool (tP lo hi n)) w):=by
 have j:=zA (show cV 31 _ w.heap.size lo hi from heap_alloc_new w (jC #[jI jJ lo,jI jJ hi] 31));have c:=zA ((zD w.heap.size w).alloc (zC _) (jC #[jI jJ lo,jI jJ hi] 31));have d:=zA (fun m (o:m=n-lo) w=>(NU m w).mono (fun e a h=>(⟨by rw[<-o];exact h.1,h.2 ▸ zD _ _⟩:bI (jI jJ ((n-lo)%21600000)) w e a)));have r:=zA (show i64.wrap (n-lo)=n-lo from IntWalk.i64_in _ (by omega));have q:i64.wrap (hi-lo)=hi-lo:=IntWalk.i64_in _ (by omega);have b:decide ((n-lo)%21600000<=hi-lo)=tP lo hi n:=rfl;obtain⟨t,g⟩:∃t,(n-lo)%21600000=t:=⟨_,rfl⟩;rw[g]at d b;have b:=zA b;have E:0<=t:=by omega
 have t1:t<21600000:=by omega
 clear g;unfold aG;go_enter Tryz.func122,Tryz.ntmps122;go_wp2_with fail
 generalize w.alloc (jC #[jI jJ lo,jI jJ hi] 31)=W at*;obtain⟨⟨k,l⟩,s,u⟩:=aV j.out;go_region_held3 (fun a=>(a.cell? ⟨w.heap.size,0,none⟩=some (jI jJ lo)/\a.cell? ⟨w.heap.size,1,none⟩=some (jI jJ hi))/\Below W.heap.size W a)
  (first|exact⟨⟨k,l⟩,(zD _ _).drew⟩|exact aFI (by assumption) (by assumption))
  (first
   |(go_at_call 173;(with_reducible refine(d.out _ r.out _).mono ?_);rintro e p ⟨rfl,D⟩))
 have f:Below W.heap.size W p:=And.right (by assumption);have i:=zA (c.out.trans (f.mono c.out.size));clear f;go_wp2;go_ret;refine⟨?_,i.out⟩;rw[<-b.out,<-q];rfl
def lJ(lo hi:Int):Int:=if tP lo hi 16200000 then -1073741824 else min (mE lo) (mE hi)
def lZ(lo hi:Int):Int:=if tP lo hi 5400000 then 1073741824 else max (iQ lo) (iQ hi)
theorem KJ(lo hi:Int)(D:-2000000000000<=lo)(E:lo<=2000000000000)(G:-2000000000000<=hi)(H:hi<=2000000000000)(w:World):Calls zB 91 #[aG lo hi] w (bI (aG (lJ lo hi) (lZ lo hi)) w):=by
 have O:=zA (wO lo);have HH:=zA (wO hi);have A:=PY lo hi 5400000 D E G H (by omega) (by omega);have B:=PY lo hi 16200000 D E G H (by omega) (by omega);obtain⟨V,f⟩:∃V,V=aG (lJ lo hi) (lZ lo hi):=⟨_,rfl⟩;rw[<-f];unfold lJ lZ at f;generalize tP lo hi 5400000=c1 at*;generalize tP lo hi 16200000=Q at*;generalize mE lo=a at*;generalize iQ lo=b at*;generalize mE hi=c at*;generalize iQ hi=d at*;unfold aG at A B ⊢;replace A:=zA A;replace B:=zA B;replace f:=zA f;clear D E G H;have M:=dP w (jC #[jI jJ lo,jI jJ hi] 31) (jC #[jI jJ 0,jI jJ 0] 99);have L:=fG w (jC #[jI jJ lo,jI jJ hi] 31) (jC #[jI jJ 0,jI jJ 0] 99);have t:=zA (show cV 31 _ w.heap.size lo hi from L);have k:=zA (show cV 99 _ (w.heap.size+1) 0 0 from M);have g:=zA (((zD w.heap.size w).alloc (zC _) (jC #[jI jJ lo,jI jJ hi] 31)).alloc (by simp) (jC #[jI jJ 0,jI jJ 0] 99));clear L M;go_enter Tryz.func91,Tryz.ntmps91;go_wp2_with fail
 refine(O.out _).mono ?_;rintro e R ⟨rfl,i⟩;have j:=aH i t.out;have h:=aH i k.out;have N:=j.lt;have I:=h.lt;obtain⟨⟨u,x⟩,y,z⟩:=aV j;obtain⟨⟨m,n⟩,o,q⟩:=aV h;have g:=zA (g.out.trans (i.mono g.out.size));have t:=zA j;have k:=zA h;clear i j h;go_wp2_with fail
 refine(HH.out _).mono ?_;rintro e U ⟨rfl,i⟩;have j:=aH i t.out;have h:=aH i k.out;have N:=j.lt;have I:=h.lt;obtain⟨⟨u,x⟩,y,z⟩:=aV j;obtain⟨⟨m,n⟩,o,q⟩:=aV h;have g:=zA (g.out.trans (i.mono g.out.size));have t:=zA j;have k:=zA h;clear i j h;go_wp2_with fail
 refine(A.out _).mono ?_;rintro e X ⟨rfl,i⟩;have j:=aH i t.out;have h:=aH i k.out;have N:=j.lt;have I:=h.lt;obtain⟨⟨u,x⟩,y,z⟩:=aV j;obtain⟨⟨m,n⟩,o,q⟩:=aV h;have g:=zA (g.out.trans (i.mono g.out.size));have t:=zA j;have k:=zA h;clear i j h;cases c1<;>cases Q;all_goals (
  replace f:=zA f.out;go_wp2_with fail
  refine(B.out _).mono ?_;rintro e Y ⟨rfl,i⟩;have h:=aH i k.out;have I:=h.lt;obtain⟨⟨m,n⟩,o,q⟩:=aV h;have g:=zA (g.out.trans (i.mono g.out.size));have k:=zA h;clear i h)
 ·have f:=f.out;simp only[Bool.false_eq_true,reduceIte]at f;have l:=k.out.write (min a c) (max b d);obtain⟨⟨r,s⟩,J,K⟩:=aV l;have g:=zA ((g.out.setCell (p:=⟨w.heap.size+1,0,none⟩) (by simp) (jI jJ (min a c))).setCell (p:=⟨w.heap.size+1,1,none⟩) (by simp) (jI jJ (max b d)));replace f:=zA f;clear l;go_wp2;refine bodyPost_ret (v:=V) (by rw[f.out];simp[results,Tryz.results91,go_sem,aG,r,s]) rfl ⟨rfl,g.out⟩
 ·have f:=f.out;simp only[Bool.false_eq_true,reduceIte]at f;have l:=k.out.write (-1073741824) (max b d);obtain⟨⟨r,s⟩,J,K⟩:=aV l;have g:=zA ((g.out.setCell (p:=⟨w.heap.size+1,0,none⟩) (by simp) (jI jJ (-1073741824))).setCell (p:=⟨w.heap.size+1,1,none⟩) (by simp) (jI jJ (max b d)));replace f:=zA f;clear l;go_wp2;refine bodyPost_ret (v:=V) (by rw[f.out];simp[results,Tryz.results91,go_sem,aG,r,s]) rfl ⟨rfl,g.out⟩
 ·have f:=f.out;simp only[Bool.false_eq_true,reduceIte]at f;have l:=k.out.write (min a c) 1073741824;obtain⟨⟨r,s⟩,J,K⟩:=aV l;have g:=zA ((g.out.setCell (p:=⟨w.heap.size+1,0,none⟩) (by simp) (jI jJ (min a c))).setCell (p:=⟨w.heap.size+1,1,none⟩) (by simp) (jI jJ 1073741824));replace f:=zA f;clear l;go_wp2;refine bodyPost_ret (v:=V) (by rw[f.out];simp[results,Tryz.results91,go_sem,aG,r,s]) rfl ⟨rfl,g.out⟩
 ·have f:=f.out;simp only[reduceIte]at f;have l:=k.out.write (-1073741824) 1073741824;obtain⟨⟨r,s⟩,J,K⟩:=aV l;have g:=zA ((g.out.setCell (p:=⟨w.heap.size+1,0,none⟩) (by simp) (jI jJ (-1073741824))).setCell (p:=⟨w.heap.size+1,1,none⟩) (by simp) (jI jJ 1073741824));replace f:=zA f;clear l;go_wp2;refine bodyPost_ret (v:=V) (by rw[f.out];simp[results,Tryz.results91,go_sem,aG,r,s]) rfl ⟨rfl,g.out⟩
end
section
open Go.RowKit SM
theorem FL(lo hi:Int)(d:-2000000000000<=lo)(e:lo<=2000000000000)(f:-2000000000000<=hi)(g:hi<=2000000000000)(w:World):Calls zB 92 #[aG lo hi] w (bI (aG (lo+5400000) (hi+5400000)) w):=by
 have c:=dP w (jC #[jI jJ lo,jI jJ hi] 31) (jC #[jI jJ 0,jI jJ 0] 31);have b:=zA (((zD w.heap.size w).alloc (zC _) (jC #[jI jJ lo,jI jJ hi] 31)).alloc (by simp) (jC #[jI jJ 0,jI jJ 0] 31));have a:=zA (((zD w.heap.size w).alloc (zC _) (jC #[jI jJ lo,jI jJ hi] 31)).alloc (by simp) (jC #[jI jJ (lo+5400000),jI jJ (hi+5400000)] 31));clear c;unfold aG;go_enter Tryz.func92,Tryz.ntmps92;go_wp2;refine bodyPost_ret (v:=aG (lo+5400000) (hi+5400000)) (by simp[results,Tryz.results92,go_sem,aG]) rfl ⟨rfl,?_⟩;first
  |exact a.out
  |exact b.out
theorem SN(lo hi:Int):-1073741824<=lJ lo hi/\lJ lo hi<=1073741824/\-1073741824<=lZ lo hi/\lZ lo hi<=1073741824:=by
 obtain⟨a,b,c⟩:=mK lo;obtain⟨d,e,f⟩:=mK hi;unfold lJ lZ;refine⟨?_,?_,?_,?_⟩<;>split<;>omega
def fK(lo hi:Int):Int×Int×Int:=if aB lo hi=false then(0,0,1) else(lJ lo hi,lZ lo hi,0)
def bB(lo hi:Int):Int×Int×Int:=if aB lo hi=false then(0,0,1) else(lJ (lo+5400000) (hi+5400000),lZ (lo+5400000) (hi+5400000),0)
def OG(lo hi:Int):Int×Int×Int:=if aB lo hi=false then(0,0,1) else((1073741824-lZ (lo+5400000) (hi+5400000))/2,(1073741824-lJ (lo+5400000) (hi+5400000)+1)/2,0)
theorem Af(lo hi:Int)(w:World):Calls zB 52 #[aG lo hi] w (bI (aT (fK lo hi)) w):=by
 have g:=zA (wM lo hi);obtain⟨V,d⟩:∃V,V=aT (fK lo hi):=⟨_,rfl⟩;rw[<-d];unfold fK at d;have y:=zA (show cV 31 _ w.heap.size lo hi from fG w (jC #[jI jJ lo,jI jJ hi] 31) (jC #[jI jJ 0,jI jJ 0] 99));have l:=zA (show cV 99 _ (w.heap.size+1) 0 0 from dP w (jC #[jI jJ lo,jI jJ hi] 31) (jC #[jI jJ 0,jI jJ 0] 99));have c:=zA (((zD w.heap.size w).alloc (zC _) (jC #[jI jJ lo,jI jJ hi] 31)).alloc (by simp) (jC #[jI jJ 0,jI jJ 0] 99));by_cases i:aB lo hi=false
 ·rw[if_pos i]at d;rw[i]at g;have d:=zA d;unfold aG at g ⊢;clear i;go_enter Tryz.func52,Tryz.ntmps52;go_wp2_with fail
  refine(g.out _).mono ?_;rintro e D ⟨rfl,b⟩;have a:=aH b l.out;have x:=a.lt;obtain⟨⟨r,s⟩,t,u⟩:=aV a;have c:=zA ((c.out.trans (b.mono c.out.size)).setCell (p:=⟨w.heap.size+1,0,none⟩) (by simp) (jI jJ 0)|>.setCell (p:=⟨w.heap.size+1,1,none⟩) (by simp) (jI jJ 0));have j:=a.write 0 0;obtain⟨⟨n,o⟩,A,B⟩:=aV j;clear b a j;go_wp2;refine bodyPost_ret (v:=V) (by rw[d.out];simp[results,Tryz.results52,go_sem,aT,aG,n,o]) rfl ⟨rfl,c.out⟩
 ·rw[if_neg i]at d;have f:aB lo hi=true:=by cases h:aB lo hi<;>simp_all
  rw[f]at g;have z:-1099511627776<=lo/\lo<=1099511627776/\-1099511627776<=hi/\hi<=1099511627776:=by simp[aB]at f;omega
  have k:=KJ lo hi (by omega) (by omega) (by omega) (by omega);generalize lJ lo hi=p at*;generalize lZ lo hi=q at*;have d:=zA d;unfold aG at g k ⊢;replace k:=zA k;clear i f z;go_enter Tryz.func52,Tryz.ntmps52;go_wp2_with fail
  refine(g.out _).mono ?_;rintro e D ⟨rfl,b⟩;have m:=aH b y.out;have a:=aH b l.out;have J:=m.lt;have x:=a.lt;obtain⟨⟨E,G⟩,H,I⟩:=aV m;obtain⟨⟨r,s⟩,t,u⟩:=aV a;have l:=zA a;have c:=zA (c.out.trans (b.mono c.out.size));clear b m a;go_wp2_with fail
  refine(k.out _).mono ?_;rintro e K ⟨rfl,b⟩;have a:=aH b l.out;have x:=a.lt;obtain⟨⟨r,s⟩,t,u⟩:=aV a;have c:=zA ((c.out.trans (b.mono c.out.size)).setCell (p:=⟨w.heap.size+1,0,none⟩) (by simp) (jI jJ p)|>.setCell (p:=⟨w.heap.size+1,1,none⟩) (by simp) (jI jJ q));have j:=a.write p q;obtain⟨⟨n,o⟩,A,B⟩:=aV j;clear b a j;go_wp2;refine bodyPost_ret (v:=V) (by rw[d.out];simp[results,Tryz.results52,go_sem,aT,aG,n,o]) rfl ⟨rfl,c.out⟩
theorem WI(lo hi:Int)(w:World):Calls zB 53 #[aG lo hi] w (bI (aT (bB lo hi)) w):=by
 have g:=zA (wM lo hi);obtain⟨V,d⟩:∃V,V=aT (bB lo hi):=⟨_,rfl⟩;rw[<-d];unfold bB at d;have z:=zA (show cV 31 _ w.heap.size lo hi from fG w (jC #[jI jJ lo,jI jJ hi] 31) (jC #[jI jJ 0,jI jJ 0] 99));have i:=zA (show cV 99 _ (w.heap.size+1) 0 0 from dP w (jC #[jI jJ lo,jI jJ hi] 31) (jC #[jI jJ 0,jI jJ 0] 99));have c:=zA (((zD w.heap.size w).alloc (zC _) (jC #[jI jJ lo,jI jJ hi] 31)).alloc (by simp) (jC #[jI jJ 0,jI jJ 0] 99));by_cases j:aB lo hi=false
 ·rw[if_pos j]at d;rw[j]at g;have d:=zA d;unfold aG at g ⊢;clear j;go_enter Tryz.func53,Tryz.ntmps53;go_wp2_with fail
  refine(g.out _).mono ?_;rintro e H ⟨rfl,b⟩;have a:=aH b i.out;have t:=a.lt;obtain⟨⟨n,o⟩,r,s⟩:=aV a;have c:=zA ((c.out.trans (b.mono c.out.size)).setCell (p:=⟨w.heap.size+1,0,none⟩) (by simp) (jI jJ 0)|>.setCell (p:=⟨w.heap.size+1,1,none⟩) (by simp) (jI jJ 0));have k:=a.write 0 0;obtain⟨⟨x,y⟩,E,G⟩:=aV k;clear b a k;go_wp2;refine bodyPost_ret (v:=V) (by rw[d.out];simp[results,Tryz.results53,go_sem,aT,aG,x,y]) rfl ⟨rfl,c.out⟩
 ·rw[if_neg j]at d;have f:aB lo hi=true:=by cases h:aB lo hi<;>simp_all
  rw[f]at g;have B:-1099511627776<=lo/\lo<=1099511627776/\-1099511627776<=hi/\hi<=1099511627776:=by simp[aB]at f;omega
  have l:=KJ (lo+5400000) (hi+5400000) (by omega) (by omega) (by omega) (by omega);have m:=FL lo hi (by omega) (by omega) (by omega) (by omega);generalize lJ (lo+5400000) (hi+5400000)=p at*;generalize lZ (lo+5400000) (hi+5400000)=q at*;have d:=zA d;unfold aG at g l m ⊢;replace l:=zA l;replace m:=zA m;generalize lo+5400000=D at*;generalize hi+5400000=A at*;clear j f B;go_enter Tryz.func53,Tryz.ntmps53;go_wp2_with fail
  refine(g.out _).mono ?_;rintro e H ⟨rfl,b⟩;have u:=aH b z.out;have a:=aH b i.out;have M:=u.lt;have t:=a.lt;obtain⟨⟨I,J⟩,K,L⟩:=aV u;obtain⟨⟨n,o⟩,r,s⟩:=aV a;have i:=zA a;have c:=zA (c.out.trans (b.mono c.out.size));clear b u a;go_wp2_with fail
  refine(m.out _).mono ?_;rintro e O ⟨rfl,b⟩;have a:=aH b i.out;have t:=a.lt;obtain⟨⟨n,o⟩,r,s⟩:=aV a;have i:=zA a;have c:=zA (c.out.trans (b.mono c.out.size));clear b a;go_wp2_with fail
  refine(l.out _).mono ?_;rintro e N ⟨rfl,b⟩;have a:=aH b i.out;have t:=a.lt;obtain⟨⟨n,o⟩,r,s⟩:=aV a;have c:=zA ((c.out.trans (b.mono c.out.size)).setCell (p:=⟨w.heap.size+1,0,none⟩) (by simp) (jI jJ p)|>.setCell (p:=⟨w.heap.size+1,1,none⟩) (by simp) (jI jJ q));have k:=a.write p q;obtain⟨⟨x,y⟩,E,G⟩:=aV k;clear b a k;go_wp2;refine bodyPost_ret (v:=V) (by rw[d.out];simp[results,Tryz.results53,go_sem,aT,aG,x,y]) rfl ⟨rfl,c.out⟩
theorem aEU(lo hi:Int)(w:World):Calls zB 212 #[aG lo hi] w (bI (aT (OG lo hi)) w):=by
 have g:=zA (wM lo hi);obtain⟨V,d⟩:∃V,V=aT (OG lo hi):=⟨_,rfl⟩;rw[<-d];unfold OG at d;have A:=zA (show cV 31 _ w.heap.size lo hi from fG w (jC #[jI jJ lo,jI jJ hi] 31) (jC #[jI jJ 0,jI jJ 0] 99));have i:=zA (show cV 99 _ (w.heap.size+1) 0 0 from dP w (jC #[jI jJ lo,jI jJ hi] 31) (jC #[jI jJ 0,jI jJ 0] 99));have c:=zA (((zD w.heap.size w).alloc (zC _) (jC #[jI jJ lo,jI jJ hi] 31)).alloc (by simp) (jC #[jI jJ 0,jI jJ 0] 99));by_cases j:aB lo hi=false
 ·rw[if_pos j]at d;rw[j]at g;have d:=zA d;unfold aG at g ⊢;clear j;go_enter Tryz.func212,Tryz.ntmps212;go_wp2_with fail
  refine(g.out _).mono ?_;rintro e I ⟨rfl,b⟩;have a:=aH b i.out;have m:=a.lt;obtain⟨⟨n,o⟩,r,s⟩:=aV a;have c:=zA ((c.out.trans (b.mono c.out.size)).setCell (p:=⟨w.heap.size+1,0,none⟩) (by simp) (jI jJ 0)|>.setCell (p:=⟨w.heap.size+1,1,none⟩) (by simp) (jI jJ 0));have z:=a.write 0 0;obtain⟨⟨u,x⟩,G,H⟩:=aV z;clear b a z;go_wp2;refine bodyPost_ret (v:=V) (by rw[d.out];simp[results,Tryz.results212,go_sem,aT,aG,u,x]) rfl ⟨rfl,c.out⟩
 ·rw[if_neg j]at d;have f:aB lo hi=true:=by cases h:aB lo hi<;>simp_all
  rw[f]at g;have D:-1099511627776<=lo/\lo<=1099511627776/\-1099511627776<=hi/\hi<=1099511627776:=by simp[aB]at f;omega
  have k:=KJ (lo+5400000) (hi+5400000) (by omega) (by omega) (by omega) (by omega);have l:=FL lo hi (by omega) (by omega) (by omega) (by omega);obtain⟨e1,e2,O,Q⟩:=SN (lo+5400000) (hi+5400000);generalize lJ (lo+5400000) (hi+5400000)=p at*;generalize lZ (lo+5400000) (hi+5400000)=q at*;have d:=zA d;unfold aG at g k l ⊢;replace k:=zA k;replace l:=zA l;generalize lo+5400000=E at*;generalize hi+5400000=B at*;clear j f D;go_enter Tryz.func212,Tryz.ntmps212;go_wp2_with fail
  refine(g.out _).mono ?_;rintro e I ⟨rfl,b⟩;have t:=aH b A.out;have a:=aH b i.out;have U:=t.lt;have m:=a.lt;obtain⟨⟨K,L⟩,M,N⟩:=aV t;obtain⟨⟨n,o⟩,r,s⟩:=aV a;have i:=zA a;have c:=zA (c.out.trans (b.mono c.out.size));clear b t a;go_wp2_with fail
  refine(l.out _).mono ?_;rintro e X ⟨rfl,b⟩;have a:=aH b i.out;have m:=a.lt;obtain⟨⟨n,o⟩,r,s⟩:=aV a;have i:=zA a;have c:=zA (c.out.trans (b.mono c.out.size));clear b a;go_wp2_with fail
  refine(k.out _).mono ?_;rintro e J ⟨rfl,b⟩;have a:=aH b i.out;have m:=a.lt;have R:w.heap.size+2<=J.heap.size:=by have:=m;omega
  obtain⟨⟨n,o⟩,r,s⟩:=aV a;have y:=(a.write ((1073741824-q)/2) ((1073741824-p+1)/2)).alloc (jC #[jI jJ p,jI jJ q] 99);obtain⟨⟨u,x⟩,G,H⟩:=aV y;have c:=zA (((c.out.trans (b.mono c.out.size)).setCell (p:=⟨w.heap.size+1,0,none⟩) (by simp) (jI jJ ((1073741824-q)/2))|>.setCell (p:=⟨w.heap.size+1,1,none⟩) (by simp) (jI jJ ((1073741824-p+1)/2))).alloc (by simp;omega) (jC #[jI jJ p,jI jJ q] 99));clear b a y;go_wp2;refine bodyPost_ret (v:=V) (by rw[d.out];simp[results,Tryz.results212,go_sem,aT,aG,u,x]) rfl ⟨rfl,c.out⟩
end
section
open Go.RowKit SM
theorem VF{u v:Int}(b:-1073741824<=u)(h:u<=v):rW u<=rW v:=by
 obtain⟨c,a,d,e⟩:=mW u b;obtain⟨f,g,i,j⟩:=mW v (by omega);rcases Int.lt_or_le (rW v) (rW u)with h2|h2
 ·have:=nD (m:=rW v+1) (n:=rW u) (by omega) (by omega) a;omega
 ·exact h2
theorem aAy(n:Int):mE (n+5400000)=mE (5400000-n)/\iQ (n+5400000)=iQ (5400000-n):=by
 have e:lW (n+5400000)=lW (5400000-n)/\(mF (n+5400000)=mF (5400000-n)\/FJ (lW (5400000-n))=true/\kJ (lW (5400000-n))=0):=by
  have c:=yC (n+5400000) (show(21600000:Int)≠0 by omega);have d:=qQ (n+5400000) (show(0:Int)<21600000 by omega);have f:=yC (5400000-n) (show(21600000:Int)≠0 by omega);have g:=qQ (5400000-n) (show(0:Int)<21600000 by omega);have i:((n+5400000)%21600000+(5400000-n)%21600000=10800000)\/((n+5400000)%21600000+(5400000-n)%21600000=32400000):=by omega
  have a:lW (n+5400000)=lW (5400000-n):=by
   unfold lW;generalize (n+5400000)%21600000=p at*;generalize (5400000-n)%21600000=q at*;simp only;repeat' split
   all_goals omega
  refine⟨a,?_⟩;by_cases h:(n+5400000)%21600000=10800000\/(5400000-n)%21600000=10800000
  ·right;rw[<-a];have:lW (n+5400000)=0:=by
    unfold lW;generalize (n+5400000)%21600000=p at*;generalize (5400000-n)%21600000=q at*;simp only;repeat' split
    all_goals omega
   rw[this];decide
  ·left;unfold mF;generalize (n+5400000)%21600000=p at*;generalize (5400000-n)%21600000=q at*;simp only[decide_eq_decide];omega
 unfold mE iQ QS;rw[e.1];rcases e.2 with h|⟨h,b⟩
 ·rw[h];exact⟨rfl,rfl⟩
 ·rw[h,b];simp only[reduceIte];constructor<;>(repeat' split)<;>rfl
end
section
open Go.RowKit
def FZ(n:Int):Bool:=decide (-1099511627776<=n/\n<=1099511627776)
theorem XL(n:Int)(w:World):Calls zB 40 #[jI jJ n] w (bI (.bool (FZ n)) w):=by
 have e:=zA (zD w.heap.size w);obtain⟨V,d⟩:∃V,V=Value.bool (FZ n):=⟨_,rfl⟩;have c:∀b,FZ n=b->bI V w (.returned (.bool b)) w:=fun b h=>⟨by rw[d,h],e.out⟩;have c:=zA c;rw[<-d];clear d;by_cases f:-1099511627776<=n
 ·by_cases g:n<=1099511627776
  ·have a:=zA (c.out true (by unfold FZ;rw[decide_eq_true];omega));go_enter Tryz.func40,Tryz.ntmps40;go_wp2;go_ret;exact a.out
  ·have a:=zA (c.out false (by unfold FZ;rw[decide_eq_false];omega));go_enter Tryz.func40,Tryz.ntmps40;go_wp2;go_ret;exact a.out
 ·have a:=zA (c.out false (by unfold FZ;rw[decide_eq_false];omega));go_enter Tryz.func40,Tryz.ntmps40;go_wp2;go_ret;exact a.out
theorem kM(lo hi:Int)(w:World):Calls zB 23 #[aG lo hi] w (bI (.bool (aB lo hi)) w):=by
 obtain⟨V,k⟩:∃V,V=Value.bool (aB lo hi):=⟨_,rfl⟩;have g:∀b l,aB lo hi=b->Below w.heap.size w l->bI V w (.returned (.bool b)) l:=fun b l h c=>⟨by rw[k,h],c⟩;have g:=zA g;have a:=zA ((zD w.heap.size w).alloc (zC _) (jC #[jI jJ lo,jI jJ hi] 31));have q:=zA (show cV 31 _ w.heap.size lo hi from heap_alloc_new w (jC #[jI jJ lo,jI jJ hi] 31));rw[<-k];clear k;have i:=XL lo;have j:=XL hi;have e1:FZ lo=decide (-1099511627776<=lo/\lo<=1099511627776):=rfl;have e2:FZ hi=decide (-1099511627776<=hi/\hi<=1099511627776):=rfl;have o:aB lo hi=(decide (lo<=hi)&&(FZ lo&&FZ hi)):=by
  rw[e1,e2];unfold aB;rw[Bool.eq_iff_iff];simp only[Bool.and_eq_true,decide_eq_true_eq];omega
 have d:=zA o;clear e1 e2 o;generalize FZ lo=m at*;generalize FZ hi=n at*;have i:=zA i;have j:=zA j;unfold aG;by_cases h:lo<=hi
 ·have d:=zA (show aB lo hi=(m&&n) by rw[d.out,decide_eq_true h];rfl);go_enter Tryz.func23,Tryz.ntmps23;go_wp2_with fail
  refine(i.out _).mono ?_;rintro e r ⟨rfl,c⟩;have a:=zA (a.out.trans (c.mono a.out.size));have p:=aH c q.out;obtain⟨⟨t,u⟩,v,x⟩:=aV p;clear c p;cases m
  ·have f:=zA (g.out false r (by rw[d.out];rfl) a.out);go_wp2;go_ret;exact f.out
  ·go_wp2_with fail
   refine(j.out _).mono ?_;rintro e s ⟨rfl,c⟩;have a:=zA (a.out.trans (c.mono a.out.size));clear c;have f:=zA (g.out n s (by rw[d.out];rfl) a.out);go_wp2;go_ret;exact f.out
 ·have f:=zA (g.out false _ (by rw[d.out,decide_eq_false h];rfl) a.out);go_enter Tryz.func23,Tryz.ntmps23;go_wp2;go_ret;exact f.out
end
section
open Go.RowKit
theorem Hv(n:Int):n.tmod 21600000=n%21600000\/n.tmod 21600000+21600000=n%21600000/\n.tmod 21600000<0:=by
 obtain⟨a,b,_,_⟩:=QN n;by_cases h:0<=n.tmod 21600000
 ·exact .inl (a h)
 ·exact .inr ⟨b (by omega),by omega⟩
theorem Bl(n:Int)(w:World):Calls zB 88 #[jI jJ n] w (bI (jI jJ (n%21600000)) w):=by
 have a:=Hv n;have b:=zA (zD w.heap.size w);obtain⟨m,h⟩:∃m,n%21600000=m:=⟨_,rfl⟩;rw[h]at a ⊢;have e:0<=m:=by omega
 clear h;rcases a with c|⟨c,d⟩;all_goals (
  go_enter Tryz.func88,Tryz.ntmps88;go_wp2;go_ret;exact⟨rfl,b.out⟩)
def K8(lo hi:Int):Int:=if 21600000<=hi-lo then 0 else lo%21600000
def K7(lo hi:Int):Int:=if 21600000<=hi-lo then 21600000 else lo%21600000+(hi-lo)
end
section
open Ev (Gl)
open Ev
def aGt(a b c d:Int):Int:=mn (mn (mn (mn (OE (a*1073741824) c) (OE (a*1073741824) c)) (OE (a*1073741824) d)) (OE (b*1073741824) c)) (OE (b*1073741824) d)
def aGs(a b c d:Int):Int:=mx (mx (mx (mx (Bn (a*1073741824) c) (Bn (a*1073741824) c)) (Bn (a*1073741824) d)) (Bn (b*1073741824) c)) (Bn (b*1073741824) d)
def aD4(a b c d:Int):Int×Int×Int:=if dM a b c d=true then(if pJ c d=true then(0,0,16) else oN (aGt a b c d) (aGs a b c d)) else(0,0,1)
def aF0:bW:=(116,GU (fun a b c d=>.bool (dM a b c d)))::(117,eII (fun a b=>aT (oN a b)))::(118,PF FK (fun a b=>jI jJ (OE a b)))::(119,PF FK (fun a b=>jI jJ (Bn a b)))::(125,eP (fun a b=>.bool (pJ a b)))::[]
theorem Ke[Gl]:aO zB aF0:=(aA (dZ nT) (aA (Ef KO) (aA (BA PK) (aA (BA OZ) (aA (cX FV) dK)))))
theorem Ea[Gl](a b c d:Int):aF zB 261 [jA ⟨[jI jJ a,jI jJ b]⟩,jA ⟨[jI jJ c,jI jJ d]⟩] (aT (aD4 a b c d)):=by
 refine aD eB Ke (t:=cond (!(dM a b c d)) (some (.v (.tuple ⟨[jA ⟨[jI jJ 0,jI jJ 0]⟩,jI jJ 1]⟩))) (cond (pJ c d) (some (.v (.tuple ⟨[jA ⟨[jI jJ 0,jI jJ 0]⟩,jI jJ 16]⟩))) (cond (FK (i64.wrap (a*1073741824)) c) (cond (FK (i64.wrap (a*1073741824)) c) (cond (FK (i64.wrap (a*1073741824)) c) (cond (FK (i64.wrap (a*1073741824)) c) (cond (FK (i64.wrap (a*1073741824)) d) (cond (FK (i64.wrap (a*1073741824)) d) (cond (FK (i64.wrap (b*1073741824)) c) (cond (FK (i64.wrap (b*1073741824)) c) (cond (FK (i64.wrap (b*1073741824)) d) (cond (FK (i64.wrap (b*1073741824)) d) (lt (oN (mn (mn (mn (mn (OE (i64.wrap (a*1073741824)) c) (OE (i64.wrap (a*1073741824)) c)) (OE (i64.wrap (a*1073741824)) d)) (OE (i64.wrap (b*1073741824)) c)) (OE (i64.wrap (b*1073741824)) d)) (mx (mx (mx (mx (Bn (i64.wrap (a*1073741824)) c) (Bn (i64.wrap (a*1073741824)) c)) (Bn (i64.wrap (a*1073741824)) d)) (Bn (i64.wrap (b*1073741824)) c)) (Bn (i64.wrap (b*1073741824)) d))) fun e=>some (.v (.tuple ⟨[jA ⟨[jI jJ e.1,jI jJ e.2.1]⟩,jI jJ e.2.2]⟩))) (none)) (none)) (none)) (none)) (none)) (none)) (none)) (none)) (none)) (none)))) (by kernel_rfl) ?_;unfold aD4;cases h:dM a b c d
 ·rfl
 ·cases f:pJ c d
  ·have:=pR h;have f:=of_decide_eq_false f;rw[bZ (x:=a*1073741824) (by omega),bZ (x:=b*1073741824) (by omega)];have g:FK (a*1073741824) c=true:=decide_eq_true ⟨by omega,by omega,by omega⟩;have i:FK (a*1073741824) d=true:=decide_eq_true ⟨by omega,by omega,by omega⟩;have j:FK (b*1073741824) c=true:=decide_eq_true ⟨by omega,by omega,by omega⟩;have k:FK (b*1073741824) d=true:=decide_eq_true ⟨by omega,by omega,by omega⟩;rw[g,i,j,k];rfl
  ·rfl
def oH(n:Int):Int:=n%21600000
def sC(a:Int):Bool:=decide (-1099511627776<=a/\a<=1099511627776)
def aF1:bW:=(23,eP (fun a b=>.bool (aB a b)))::(88,eI (fun a=>jI jJ (oH a)))::aF0
theorem Kg[Gl]:aO zB aF1:=(aA (cX (fun a b W _=>kM a b W)) (aA (KH (fun a W _=>Bl a W)) Ke))
theorem XK[Gl](a:Int):aF zB 40 [jI jJ a] (.bool (sC a)):=by
 refine aD eB Kg (t:=cond (decide (a>=(-1099511627776))) (some (.v (.bool (decide (a<=1099511627776))))) (some (.v (.bool false)))) (by kernel_rfl) ?_;cases b:(decide (a>=(-1099511627776)))
 ·rw[cond_false];replace b:=of_decide_eq_false b;simp[sC, *]
 ·rw[cond_true];replace b:=of_decide_eq_true b;simp[sC, *]
def MS(a b:Int):Int×Int×Int:=if sC a=true/\sC b=true then(a,b,0) else(0,0,5)
def aF2:bW:=(40,eI (fun a=>.bool (sC a)))::aF1
theorem Kh[Gl]:aO zB aF2:=(aA (KH XK) Kg)
theorem Gh[Gl](a b:Int):aF zB 24 [jI jJ a,jI jJ b] (aT (MS a b)):=by
 refine aD eB Kh (t:=cond (!(sC a)) (some (.v (.tuple ⟨[jA ⟨[jI jJ 0,jI jJ 0]⟩,jI jJ 5]⟩))) (cond (!(sC b)) (some (.v (.tuple ⟨[jA ⟨[jI jJ 0,jI jJ 0]⟩,jI jJ 5]⟩))) (some (.v (.tuple ⟨[jA ⟨[jI jJ a,jI jJ b]⟩,jI jJ 0]⟩))))) (by kernel_rfl) ?_;cases c:(sC a)
 ·rw[Bool.not_false,cond_true];simp[MS,aT,aG, *]
 ·rw[Bool.not_true,cond_false];cases d:(sC b)
  ·rw[Bool.not_false,cond_true];simp[MS,aT,aG, *]
  ·rw[Bool.not_true,cond_false];simp[MS,aT,aG, *]
def Tl(a b:Int):Int×Int×Int:=if aB a b=true then(-b,-a,0) else(0,0,1)
theorem dW{a b:Int}(h:aB a b=true):-1099511627776<=a/\a<=b/\b<=1099511627776:=by simpa[aB]using h
def aF3:bW:=(24,eII (fun a b=>aT (MS a b)))::aF2
theorem Ki[Gl]:aO zB aF3:=(aA (Ef Gh) Kh)
theorem UT[Gl](a b:Int):aF zB 166 [jA ⟨[jI jJ a,jI jJ b]⟩] (aT (Tl a b)):=by
 refine aD eB Ki (t:=cond (!(aB a b)) (some (.v (.tuple ⟨[jA ⟨[jI jJ 0,jI jJ 0]⟩,jI jJ 1]⟩))) (lt (MS (i64.wrap (0-b)) (i64.wrap (0-a))) fun c=>some (.v (.tuple ⟨[jA ⟨[jI jJ c.1,jI jJ c.2.1]⟩,jI jJ c.2.2]⟩)))) (by kernel_rfl) ?_;unfold Tl;cases h:aB a b
 ·rfl
 ·have:=dW h;rw[bZ (x:=0-b) (by omega),bZ (x:=0-a) (by omega),ajQ,ajQ];have e:MS (-b) (-a)=(-b,-a,0):=by unfold MS sC;simp;omega
  rw[e];rfl
def UN(a b c d:Int):Int×Int×Int:=if aB a b=true/\aB c d=true then MS (a+c) (b+d) else(0,0,1)
def aF4:bW:=(166,eP (fun a b=>aT (Tl a b)))::aF3
theorem Kj[Gl]:aO zB aF4:=(aA (cX UT) Ki)
theorem FC[Gl](a b c d:Int):aF zB 8 [jA ⟨[jI jJ a,jI jJ b]⟩,jA ⟨[jI jJ c,jI jJ d]⟩] (aT (UN a b c d)):=by
 refine aD eB Kj (t:=cond (!(aB a b)) (some (.v (.tuple ⟨[jA ⟨[jI jJ 0,jI jJ 0]⟩,jI jJ 1]⟩))) (cond (!(aB c d)) (some (.v (.tuple ⟨[jA ⟨[jI jJ 0,jI jJ 0]⟩,jI jJ 1]⟩))) (lt (MS (i64.wrap (a+c)) (i64.wrap (b+d))) fun e=>some (.v (.tuple ⟨[jA ⟨[jI jJ e.1,jI jJ e.2.1]⟩,jI jJ e.2.2]⟩))))) (by kernel_rfl) ?_;unfold UN;cases h:aB a b
 ·rfl
 ·cases f:aB c d
  ·rfl
  ·have:=dW h;have:=dW f;rw[bZ (x:=a+c) (by omega),bZ (x:=b+d) (by omega)];rfl
def aGE:bW:=(8,GU (fun a b c d=>aT (UN a b c d)))::aF4
theorem Kk[Gl]:aO zB aGE:=(aA (dZ FC) Kj)
def fX(a b:Int):Int×Int×Int:=if aB a b=true then(K8 a b,K7 a b,0) else(0,0,1)
theorem Ay[Gl](a b:Int):aF zB 115 [jA ⟨[jI jJ a,jI jJ b]⟩] (aT (fX a b)):=by
 refine aD eB Kk (t:=cond (!(aB a b)) (some (.v (.tuple ⟨[jA ⟨[jI jJ 0,jI jJ 0]⟩,jI jJ 1]⟩))) (cond (decide (i64.wrap (b-a)>=21600000)) (some (.v (.tuple ⟨[jA ⟨[jI jJ 0,jI jJ 21600000]⟩,jI jJ 0]⟩))) (some (.v (.tuple ⟨[jA ⟨[jI jJ (oH a),jI jJ (i64.wrap ((oH a)+(i64.wrap (b-a))))]⟩,jI jJ 0]⟩))))) (by kernel_rfl) ?_;unfold fX;cases h:aB a b
 ·rfl
 ·have:=dW h;unfold oH;rw[bZ (x:=b-a) (by omega),bZ (x:=a%21600000+(b-a)) (by omega)];unfold K8 K7;by_cases c:21600000<=b-a
  ·have e:decide (b-a>=21600000)=true:=decide_eq_true c;rw[e];simp[c,aT,aG]
  ·have e:decide (b-a>=21600000)=false:=decide_eq_false c;rw[e];simp[c,aT,aG]
def cG(a b c d:Int):Int×Int×Int:=if aB a b=true/\aB c d=true then(if mx a c>mn b d then(0,0,23) else(mx a c,mn b d,0)) else(0,0,1)
theorem pP[Gl](a b c d:Int):aF zB 58 [jA ⟨[jI jJ a,jI jJ b]⟩,jA ⟨[jI jJ c,jI jJ d]⟩] (aT (cG a b c d)):=by
 refine aD eB Kk (t:=cond (!(aB a b)) (some (.v (.tuple ⟨[jA ⟨[jI jJ 0,jI jJ 0]⟩,jI jJ 1]⟩))) (cond (!(aB c d)) (some (.v (.tuple ⟨[jA ⟨[jI jJ 0,jI jJ 0]⟩,jI jJ 1]⟩))) (cond (decide ((mx a c)>(mn b d))) (some (.v (.tuple ⟨[jA ⟨[jI jJ 0,jI jJ 0]⟩,jI jJ 23]⟩))) (some (.v (.tuple ⟨[jA ⟨[jI jJ (mx a c),jI jJ (mn b d)]⟩,jI jJ 0]⟩)))))) (by kernel_rfl) ?_;cases f:(aB a b)
 ·rw[Bool.not_false,cond_true];simp[cG,aT,aG, *]
 ·rw[Bool.not_true,cond_false];cases g:(aB c d)
  ·rw[Bool.not_false,cond_true];simp[cG,aT,aG, *]
  ·rw[Bool.not_true,cond_false];cases e:(decide ((mx a c)>(mn b d)))
   ·rw[cond_false];replace e:=of_decide_eq_false e;simp[cG,aT,aG, *]
   ·rw[cond_true];replace e:=of_decide_eq_true e;simp[cG,aT,aG, *]
end
section
open Ev (Gl)
open Ev
def nM(r:Int×Int×Int×Int×Int):Value:=.tuple ⟨[jA ⟨[jI jJ r.1,jI jJ r.2.1,jI jJ r.2.2.1,jI jJ r.2.2.2.1]⟩,jI jJ r.2.2.2.2]⟩
def fR(r:Int×Int×Int×Int):Value:=jA ⟨[jI jJ r.1,jI jJ r.2.1,jI jJ r.2.2.1,jI jJ r.2.2.2]⟩
def mA(a b:Int):Bool:=aB a b&&(decide (a>=-5400000)&&decide (b<=5400000))
def aF5:bW:=(23,eP (fun a b=>.bool (aB a b)))::(45,eP (fun a b=>aT (dG a b)))::(52,eP (fun a b=>aT (fK a b)))::(53,eP (fun a b=>aT (bB a b)))::(83,GU (fun a b c d=>aT (aQ a b c d)))::(84,GU (fun a b c d=>aT (aZ a b c d)))::(171,GU (fun a b c d=>aT (VG a b c d)))::(218,eP (fun a b=>aT (YX a b)))::(260,GU (fun a b c d=>aT (Ai a b c d)))::[]
theorem Kl[Gl]:aO zB aF5:=(aA (cX (fun a b W _=>kM a b W)) (aA (cX (fun a b W _=>Tu a b W)) (aA (cX (fun a b W _=>Af a b W)) (aA (cX (fun a b W _=>WI a b W)) (aA (dZ pO) (aA (dZ pW) (aA (dZ (fun a b c d W _=>VH a b c d W)) (aA (cX LW) (aA (dZ NM) dK)))))))))
theorem Fl[Gl](a b:Int):aF zB 41 [jA ⟨[jI jJ a,jI jJ b]⟩] (.bool (mA a b)):=by
 refine aD eB Kl (t:=cond (aB a b) (cond (decide (a>=(-5400000))) (some (.v (.bool (decide (b<=5400000))))) (some (.v (.bool false)))) (some (.v (.bool false)))) (by kernel_rfl) ?_;cases d:(aB a b)
 ·rw[cond_false];simp[mA, *]
 ·rw[cond_true];cases c:(decide (a>=(-5400000)))
  ·rw[cond_false];replace c:=of_decide_eq_false c;simp[mA, *]
  ·rw[cond_true];replace c:=of_decide_eq_true c;simp[mA, *]
def Ax(a b c d e f:Int):Bool:=mA a b&&(mA c d&&aB e f)
def aF6:bW:=(41,eP (fun a b=>.bool (mA a b)))::aF5
theorem Km[Gl]:aO zB aF6:=(aA (cX Fl) Kl)
theorem NR[Gl](a b c d e f:Int):aF zB 25 [jA ⟨[jI jJ a,jI jJ b,jI jJ c,jI jJ d,jI jJ e,jI jJ f]⟩] (.bool (Ax a b c d e f)):=by
 refine aD eB Km (t:=cond (mA a b) (cond (mA c d) (some (.v (.bool (aB e f)))) (some (.v (.bool false)))) (some (.v (.bool false)))) (by kernel_rfl) ?_;cases g:(mA a b)
 ·rw[cond_false];simp[Ax, *]
 ·rw[cond_true];cases h:(mA c d)
  ·rw[cond_false];simp[Ax, *]
  ·rw[cond_true];simp[Ax, *]
def oM(a b _e:Int):Int×Int:=(a,b)
def pS(k _a _b e:Int):Int:=lS k e
def aF8:bW:=(25,eT (fun a b c d e f=>.bool (Ax a b c d e f)))::aF6
theorem Kn[Gl]:aO zB aF8:=(aA (XB NR) Km)
theorem VZ[Gl](k a b c:Int):sO zB 82 98 k [jA ⟨[jI jJ a,jI jJ b]⟩,jI jJ c] (aG (oM a b c).1 (oM a b c).2) (pS k a b c):=by
 refine fN eB Kn (t:=cond (k==0) (some (.v (jA ⟨[jI jJ a,jI jJ b]⟩),⟨[.v (jI jJ c)],98⟩)) (some (.v (jA ⟨[jI jJ a,jI jJ b]⟩),⟨[.v (jI jJ k)],98⟩))) (by kernel_rfl) ?_;unfold pS lS;by_cases h:k=0
 ·simp[h];rfl
 ·have e:(k==0)=false:=beq_eq_false_iff_ne.2 h;rw[e];simp[h];rfl
def tG(a b:Int):Int×Int:=((fK a b).1,(fK a b).2.1)
def AZ(k a b:Int):Int:=lS k (fK a b).2.2
def aF9:bW:=(82,cPI 98 (fun a b c=>aG (oM a b c).1 (oM a b c).2) pS)::aF8
theorem Ko[Gl]:aO zB aF9:=(aA (Ul VZ) Kn)
theorem Dv[Gl](k a b:Int):sO zB 80 98 k [jA ⟨[jI jJ a,jI jJ b]⟩] (aG (tG a b).1 (tG a b).2) (AZ k a b):=by
 refine fN eB Ko (t:=lt (fK a b) fun c=>lt (oM c.1 c.2.1 c.2.2) fun d=>lt (pS k c.1 c.2.1 c.2.2) fun e=>some (.v (jA ⟨[jI jJ d.1,jI jJ d.2]⟩),⟨[.v (jI jJ e)],98⟩)) (by kernel_rfl) ?_;rfl
def tB(a b:Int):Int×Int:=((bB a b).1,(bB a b).2.1)
def AU(k a b:Int):Int:=lS k (bB a b).2.2
def aFa:bW:=(80,cP 98 (fun a b=>aG (tG a b).1 (tG a b).2) AZ)::aF9
theorem Kq[Gl]:aO zB aFa:=(aA (VM Dv) Ko)
theorem Db[Gl](k a b:Int):sO zB 81 98 k [jA ⟨[jI jJ a,jI jJ b]⟩] (aG (tB a b).1 (tB a b).2) (AU k a b):=by
 refine fN eB Kq (t:=lt (bB a b) fun c=>lt (oM c.1 c.2.1 c.2.2) fun d=>lt (pS k c.1 c.2.1 c.2.2) fun e=>some (.v (jA ⟨[jI jJ d.1,jI jJ d.2]⟩),⟨[.v (jI jJ e)],98⟩)) (by kernel_rfl) ?_;rfl
def sA(a b c d:Int):Int×Int:=((aZ a b c d).1,(aZ a b c d).2.1)
def wB(k a b c d:Int):Int:=lS k (aZ a b c d).2.2
def aFb:bW:=(81,cP 98 (fun a b=>aG (tB a b).1 (tB a b).2) AU)::aFa
theorem Kr[Gl]:aO zB aFb:=(aA (VM Db) Kq)
theorem Dg[Gl](k a b c d:Int):sO zB 44 98 k [jA ⟨[jI jJ a,jI jJ b]⟩,jA ⟨[jI jJ c,jI jJ d]⟩] (aG (sA a b c d).1 (sA a b c d).2) (wB k a b c d):=by
 refine fN eB Kr (t:=lt (aZ a b c d) fun e=>lt (oM e.1 e.2.1 e.2.2) fun f=>lt (pS k e.1 e.2.1 e.2.2) fun g=>some (.v (jA ⟨[jI jJ f.1,jI jJ f.2]⟩),⟨[.v (jI jJ g)],98⟩)) (by kernel_rfl) ?_;rfl
def OX(a b c d:Int):Int×Int:=((aQ a b c d).1,(aQ a b c d).2.1)
def Jd(k a b c d:Int):Int:=lS k (aQ a b c d).2.2
def aFc:bW:=(44,cPP 98 (fun a b c d=>aG (sA a b c d).1 (sA a b c d).2) wB)::aFb
theorem Ks[Gl]:aO zB aFc:=(aA (JO Dg) Kr)
theorem Ct[Gl](k a b c d:Int):sO zB 43 98 k [jA ⟨[jI jJ a,jI jJ b]⟩,jA ⟨[jI jJ c,jI jJ d]⟩] (aG (OX a b c d).1 (OX a b c d).2) (Jd k a b c d):=by
 refine fN eB Ks (t:=lt (aQ a b c d) fun e=>lt (oM e.1 e.2.1 e.2.2) fun f=>lt (pS k e.1 e.2.1 e.2.2) fun g=>some (.v (jA ⟨[jI jJ f.1,jI jJ f.2]⟩),⟨[.v (jI jJ g)],98⟩)) (by kernel_rfl) ?_;rfl
def WO(a b c d:Int):Int×Int:=((Ai a b c d).1,(Ai a b c d).2.1)
def Vq(k a b c d:Int):Int:=lS k (Ai a b c d).2.2
def aFd:bW:=(43,cPP 98 (fun a b c d=>aG (OX a b c d).1 (OX a b c d).2) Jd)::aFc
theorem Kt[Gl]:aO zB aFd:=(aA (JO Ct) Ks)
theorem Dw[Gl](k a b c d:Int):sO zB 258 98 k [jA ⟨[jI jJ a,jI jJ b]⟩,jA ⟨[jI jJ c,jI jJ d]⟩] (aG (WO a b c d).1 (WO a b c d).2) (Vq k a b c d):=by
 refine fN eB Kt (t:=lt (Ai a b c d) fun e=>lt (oM e.1 e.2.1 e.2.2) fun f=>lt (pS k e.1 e.2.1 e.2.2) fun g=>some (.v (jA ⟨[jI jJ f.1,jI jJ f.2]⟩),⟨[.v (jI jJ g)],98⟩)) (by kernel_rfl) ?_;rfl
def WD(a b:Int):Int×Int:=((YX a b).1,(YX a b).2.1)
def Vf(k a b:Int):Int:=lS k (YX a b).2.2
def aFe:bW:=(258,cPP 98 (fun a b c d=>aG (WO a b c d).1 (WO a b c d).2) Vq)::aFd
theorem Ku[Gl]:aO zB aFe:=(aA (JO Dw) Kt)
theorem Dh[Gl](k a b:Int):sO zB 257 98 k [jA ⟨[jI jJ a,jI jJ b]⟩] (aG (WD a b).1 (WD a b).2) (Vf k a b):=by
 refine fN eB Ku (t:=lt (YX a b) fun c=>lt (oM c.1 c.2.1 c.2.2) fun d=>lt (pS k c.1 c.2.1 c.2.2) fun e=>some (.v (jA ⟨[jI jJ d.1,jI jJ d.2]⟩),⟨[.v (jI jJ e)],98⟩)) (by kernel_rfl) ?_;rfl
def RU{α:Type}(K:Int->Int->Int->α)(a b c d e f:Int):α:=lt (tG a b) fun x2=>lt (AZ 0 a b) fun x1=>lt (tB a b) fun x4=>lt (AU x1 a b) fun x3=>lt (tG c d) fun x6=>lt (AZ x3 c d) fun x5=>lt (tB c d) fun x8=>lt (AU x5 c d) fun x7=>lt (tG e f) fun _=>lt (AZ x7 e f) fun x9=>lt (tB e f) fun x12=>lt (AU x9 e f) fun x11=>lt (sA x2.1 x2.2 x6.1 x6.2) fun x14=>lt (wB x11 x2.1 x2.2 x6.1 x6.2) fun x13=>lt (sA x4.1 x4.2 x8.1 x8.2) fun x16=>lt (wB x13 x4.1 x4.2 x8.1 x8.2) fun x15=>lt (sA x16.1 x16.2 x12.1 x12.2) fun x18=>lt (wB x15 x16.1 x16.2 x12.1 x12.2) fun x17=>lt (OX x14.1 x14.2 x18.1 x18.2) fun x20=>lt (Jd x17 x14.1 x14.2 x18.1 x18.2) fun x19=>cond (x19 != 0) (K 0 0 x19) (lt (dG x20.1 x20.2) fun x21=>K x21.1 x21.2.1 x21.2.2)
def OY(a b c d e f:Int):Int×Int×Int:=RU (fun p0 p1 p2=>(p0,p1,p2)) a b c d e f
def aFf:bW:=(257,cP 98 (fun a b=>aG (WD a b).1 (WD a b).2) Vf)::aFe
theorem Kv[Gl]:aO zB aFf:=(aA (VM Dh) Ku)
theorem VO[Gl](a b c d e f:Int):aF zB 26 [jA ⟨[jI jJ a,jI jJ b,jI jJ c,jI jJ d,jI jJ e,jI jJ f]⟩] (aT (OY a b c d e f)):=by
 refine aD eB Kv (t:=RU (fun g h i=>some (.v (aT ((g,h,i))))) a b c d e f) (by kernel_rfl) ?_;unfold OY RU;repeat' first|(with_reducible refine aL (fun r:Int×Int×Int=>AV.v (aT (r))) ?_ ?_)|(with_reducible refine aY (fun r:Int×Int×Int=>AV.v (aT (r))) fun _=>?_)|rfl
def Cu{α:Type}(K:Int->Int->Int->α)(a b c d e f:Int):α:=lt (tG a b) fun x2=>lt (AZ 0 a b) fun x1=>lt (tB a b) fun x4=>lt (AU x1 a b) fun x3=>lt (tG c d) fun x6=>lt (AZ x3 c d) fun x5=>lt (tB c d) fun x8=>lt (AU x5 c d) fun x7=>lt (tG e f) fun x10=>lt (AZ x7 e f) fun x9=>lt (tB e f) fun x12=>lt (AU x9 e f) fun x11=>lt (sA x8.1 x8.2 x10.1 x10.2) fun x14=>lt (wB x11 x8.1 x8.2 x10.1 x10.2) fun x13=>lt (WD x14.1 x14.2) fun x16=>lt (Vf x13 x14.1 x14.2) fun x15=>lt (sA x6.1 x6.2 x4.1 x4.2) fun x18=>lt (wB x15 x6.1 x6.2 x4.1 x4.2) fun x17=>lt (sA x8.1 x8.2 x12.1 x12.2) fun x20=>lt (wB x17 x8.1 x8.2 x12.1 x12.2) fun x19=>lt (sA x20.1 x20.2 x2.1 x2.2) fun x22=>lt (wB x19 x20.1 x20.2 x2.1 x2.2) fun x21=>lt (WO x18.1 x18.2 x22.1 x22.2) fun x24=>lt (Vq x21 x18.1 x18.2 x22.1 x22.2) fun x23=>cond (x23 != 0) (K 0 0 x23) (lt (VG x16.1 x16.2 x24.1 x24.2) fun x25=>K x25.1 x25.2.1 x25.2.2)
def Up(a b c d e f:Int):Int×Int×Int:=Cu (fun p0 p1 p2=>(p0,p1,p2)) a b c d e f
def aBQ:bW:=(26,eT (fun a b c d e f=>aT (OY a b c d e f)))::aFf
theorem YA[Gl]:aO zB aBQ:=(aA (XB VO) Kv)
theorem VP[Gl](a b c d e f:Int):aF zB 209 [jA ⟨[jI jJ a,jI jJ b,jI jJ c,jI jJ d,jI jJ e,jI jJ f]⟩] (aT (Up a b c d e f)):=by
 refine aD eB YA (t:=Cu (fun g h i=>some (.v (aT ((g,h,i))))) a b c d e f) (by kernel_rfl) ?_;unfold Up Cu;repeat' first|(with_reducible refine aL (fun r:Int×Int×Int=>AV.v (aT (r))) ?_ ?_)|(with_reducible refine aY (fun r:Int×Int×Int=>AV.v (aT (r))) fun _=>?_)|rfl
def RT{α:Type}(K:Int->Int->Int->α)(a b c d e f:Int):α:=cond (!(Ax a b c d e f)) (K 0 0 1) (lt (OY a b c d e f) fun x1=>K x1.1 x1.2.1 x1.2.2)
def Jb(a b c d e f:Int):Int×Int×Int:=RT (fun p0 p1 p2=>(p0,p1,p2)) a b c d e f
def aF7:bW:=(209,eT (fun a b c d e f=>aT (Up a b c d e f)))::aBQ
theorem Xr[Gl]:aO zB aF7:=(aA (XB VP) YA)
theorem VL[Gl](a b c d e f:Int):aF zB 10 [jA ⟨[jI jJ a,jI jJ b,jI jJ c,jI jJ d,jI jJ e,jI jJ f]⟩] (aT (Jb a b c d e f)):=by
 refine aD eB Xr (t:=RT (fun g h i=>some (.v (aT ((g,h,i))))) a b c d e f) (by kernel_rfl) ?_;unfold Jb RT;repeat' first|(with_reducible refine aL (fun r:Int×Int×Int=>AV.v (aT (r))) ?_ ?_)|(with_reducible refine aY (fun r:Int×Int×Int=>AV.v (aT (r))) fun _=>?_)|rfl
end
end
end Go.Proofs.YtlbklncoihhfcaaGreatDoor
