/-
  The reference's Bearing is arctrig's. The reference's operations: what each function gives. The cosine formula holds the true altitude and azimuth. No program here. Rotated vectors: no error comes;.
-/
import Derived.Test.YtmididlfnajhiaaGreatDoorU6
import Derived.Test.YtmididlfnajhiaaGreatDoorSi
import Derived.Test.YtmididlfnajhiaaGreatDoorU5
import Derived.Test.YtmididlfnajhiaaGreatDoorU15
import Derived.Test.YtmididlfnajhiaaGreatDoorT50
import Derived.Test.YtmididlfnajhiaaGreatDoorU12
import Derived.Test.YtmididlfnajhiaaGreatDoorU13
set_option maxRecDepth 100000
set_option maxHeartbeats 4000000
open _root_.Int renaming le_refl→aeX,lt_or_eq_of_le→apZ,lt_or_le→akZ,lt_trichotomy→alX,mul_comm→akQ,mul_nonneg→aeZ,natCast_mul→aiQ,tdiv→apQ,tmod→avZ,toNat_of_nonneg→ahX
open _root_.Rat renaming intCast_add→adQ,intCast_mul→abJ,intCast_neg→afZ,intCast_sub→acZ,le_total→adJ,mul_eq_zero→axQ,mul_nonneg→aaZ
open Go.IntKind (i64 u64)
namespace Go.Proofs.YtmididlfnajhiaaGreatDoor
section
open Ev
noncomputable def befE (a b c d:Int):Bool:=
 (decide (i64.wrap (a*d)>i64.wrap (b*c)))
noncomputable def tX:aZ:=[]
theorem zC:aJ Tryz.prog tX:=cO
theorem GE (a b c d:Int):evF Tryz.prog [] Cs tX 20 6 166 ([.agg ⟨[.int .i64 a,.int .i64 b]⟩,.agg ⟨[.int .i64 c,.int .i64 d]⟩].map AV.v) [] [] YT=
 some (.v (.bool (decide (i64.wrap (a*d)>i64.wrap (b*c))))):=by kernel_rfl
theorem befE_gives (a b c d:Int):aH Tryz.prog 166 [.agg ⟨[.int .i64 a,.int .i64 b]⟩,.agg ⟨[.int .i64 c,.int .i64 d]⟩] (.bool (befE a b c d)):=by
 refine oT (E:=[]) mixed (by simp) JB zC (lim:=20) (d:=6) (nm:=[]) ?_;rw [GE a b c d];rfl
noncomputable def orgE (a b c d:Int):Bool:=
  cond (decide (a≤0))
  (cond (decide (b≥0))
   (cond (decide (c≤0))
    ((decide (d≥0)))
    (false))
   (false))
  (false)
noncomputable def tY:aZ:=[]
theorem zD:aJ Tryz.prog tY:=cO
theorem GM (a b c d:Int):evF Tryz.prog [] Cs tY 20 6 165 ([.agg ⟨[.int .i64 a,.int .i64 b]⟩,.agg ⟨[.int .i64 c,.int .i64 d]⟩].map AV.v) [] [] YT=
  cond (decide (a≤0))
  (cond (decide (b≥0))
   (cond (decide (c≤0))
    (some (.v (.bool (decide (d≥0)))))
    (some (.v (.bool false))))
   (some (.v (.bool false))))
  (some (.v (.bool false))):=by kernel_rfl
theorem orgE_gives (a b c d:Int):aH Tryz.prog 165 [.agg ⟨[.int .i64 a,.int .i64 b]⟩,.agg ⟨[.int .i64 c,.int .i64 d]⟩] (.bool (orgE a b c d)):=by
 refine oT (E:=[]) mixed (by simp) JB zD (lim:=20) (d:=6) (nm:=[]) ?_;rw [GM a b c d];unfold orgE;refine aT (fun (r:Bool)=>AV.v (.bool (r))) ?_ ?_
 ·refine aT (fun (r:Bool)=>AV.v (.bool (r))) ?_ ?_
  ·refine aT (fun (r:Bool)=>AV.v (.bool (r))) ?_ ?_
   ·rfl
   ·rfl
  ·rfl
 ·rfl
noncomputable def valE (a b:Int):Bool:=
  cond (decide (a≤b))
  (cond (decide (a≥(-2147483648)))
   ((decide (b≤2147483648)))
   (false))
  (false)
noncomputable def tZ:aZ:=[]
theorem zE:aJ Tryz.prog tZ:=cO
theorem GR (a b:Int):evF Tryz.prog [] Cs tZ 20 6 160 ([.agg ⟨[.int .i64 a,.int .i64 b]⟩].map AV.v) [] [] YT=
  cond (decide (a≤b))
  (cond (decide (a≥(-2147483648)))
   (some (.v (.bool (decide (b≤2147483648)))))
   (some (.v (.bool false))))
  (some (.v (.bool false))):=by kernel_rfl
theorem valE_gives (a b:Int):aH Tryz.prog 160 [.agg ⟨[.int .i64 a,.int .i64 b]⟩] (.bool (valE a b)):=by
 refine oT (E:=[]) mixed (by simp) JB zE (lim:=20) (d:=6) (nm:=[]) ?_;rw [GR a b];unfold valE;refine aT (fun (r:Bool)=>AV.v (.bool (r))) ?_ ?_
 ·refine aT (fun (r:Bool)=>AV.v (.bool (r))) ?_ ?_
  ·rfl
  ·rfl
 ·rfl
def ibV (r:Int×Bool):Value:=.tuple #[.int .i64 r.1,.bool r.2]
noncomputable def angE (x y:Int):Int×Bool:=(iH x y,oK x y)
def yW (x y:Int):Bool:=decide ((-2147483648≤x∧x≤2147483648)∧(-2147483648≤y∧y≤2147483648)∧¬(x=0∧y=0))
theorem TJ (a b:Int) (h:yW a b=true):aH Tryz.prog 167 [.agg ⟨[.int .i64 a,.int .i64 b]⟩] (ibV (angE a b)):=by
 have h':=of_decide_eq_true h;exact pD fun w=>rangle_any a b h'.1 h'.2.1 h'.2.2 w
noncomputable def bW (p q:Int×Int):Bool:=befE p.1 p.2 q.1 q.2
noncomputable def bgK (p q:Int×Int):Option AV:=
 lt (angE p.1 p.2) fun x1=>cond (yW p.1 p.2) (lt (angE q.1 q.2) fun x2=>cond (yW q.1 q.2)
  (cond (!x2.2)
   (cond (decide (i64.wrap (x2.1+1)<x1.1))
    (some (.v (.tuple ⟨[.agg ⟨[.int .i64 x1.1,.int .i64 (i64.wrap ((i64.wrap (x2.1+1))+21600000))]⟩,.int .i64 0]⟩)))
    (some (.v (.tuple ⟨[.agg ⟨[.int .i64 x1.1,.int .i64 (i64.wrap (x2.1+1))]⟩,.int .i64 0]⟩))))
   (cond (decide (x2.1<x1.1))
    (some (.v (.tuple ⟨[.agg ⟨[.int .i64 x1.1,.int .i64 (i64.wrap (x2.1+21600000))]⟩,.int .i64 0]⟩)))
    (some (.v (.tuple ⟨[.agg ⟨[.int .i64 x1.1,.int .i64 x2.1]⟩,.int .i64 0]⟩)))))
  none) none
noncomputable def bg5 (c3 f l:Int×Int):Option AV:=cond (bW l c3) (bgK f c3) (bgK f l)
noncomputable def bg4 (c3 f l:Int×Int):Option AV:=cond (bW c3 f) (bg5 c3 c3 l) (bg5 c3 f l)
noncomputable def bg3 (c2 c3 f l:Int×Int):Option AV:=cond (bW l c2) (bg4 c3 f c2) (bg4 c3 f l)
noncomputable def bg2 (c2 c3 f l:Int×Int):Option AV:=cond (bW c2 f) (bg3 c2 c3 c2 l) (bg3 c2 c3 f l)
noncomputable def bg1 (c0 c1 c2 c3 f:Int×Int):Option AV:=cond (bW c0 c1) (bg2 c2 c3 f c1) (bg2 c2 c3 f c0)
noncomputable def bgS (c0 c1 c2 c3:Int×Int):Option AV:=cond (bW c1 c0) (bg1 c0 c1 c2 c3 c1) (bg1 c0 c1 c2 c3 c0)
theorem bgS_eq {c0 c1 c2 c3 f2 l2 f3 l3 f4 l4:Int×Int} (h1:cond (bW c1 c0) c1 c0=f2) (h2:cond (bW c0 c1) c1 c0=l2) (h3:cond (bW c2 f2) c2 f2=f3) (h4:cond (bW l2 c2) c2 l2=l3) (h5:cond (bW c3 f3) c3 f3=f4) (h6:cond (bW l3 c3) c3 l3=l4):bgS c0 c1 c2 c3=bgK f4 l4:=by
 have e1:bgS c0 c1 c2 c3=bg1 c0 c1 c2 c3 f2:=by rw [←h1];unfold bgS;cases bW c1 c0<;>rfl
 have e2:bg1 c0 c1 c2 c3 f2=bg2 c2 c3 f2 l2:=by rw [←h2];unfold bg1;cases bW c0 c1<;>rfl
 have e3:bg2 c2 c3 f2 l2=bg3 c2 c3 f3 l2:=by rw [←h3];unfold bg2;cases bW c2 f2<;>rfl
 have e4:bg3 c2 c3 f3 l2=bg4 c3 f3 l3:=by rw [←h4];unfold bg3;cases bW l2 c2<;>rfl
 have e5:bg4 c3 f3 l3=bg5 c3 f4 l3:=by rw [←h5];unfold bg4;cases bW c3 f3<;>rfl
 have e6:bg5 c3 f4 l3=bgK f4 l4:=by rw [←h6];unfold bg5;cases bW l3 c3<;>rfl
 rw [e1,e2,e3,e4,e5,e6]
def In32 (p:Int×Int):Prop:=(-2147483648≤p.1∧p.1≤2147483648)∧(-2147483648≤p.2∧p.2≤2147483648)
theorem bW_eq {p q:Int×Int} (hp:In32 p) (hq:In32 q):bW p q=bS p q:=by
 unfold bW befE bS mS;have b1:=SQ hp.1 hq.2;have b2:=SQ hp.2 hq.1;rw [aX (x:=p.1*q.2) (by omega),aX (x:=p.2*q.1) (by omega),akQ q.2,akQ q.1];generalize p.1*q.2=A;generalize p.2*q.1=C;by_cases h:A≤C
 ·rw [decide_eq_true h,decide_eq_false (by omega)];rfl
 ·rw [decide_eq_false h,decide_eq_true (by omega)];rfl
theorem bgK_eq {p q:Int×Int} (hp:yW p.1 p.2=true) (hq:yW q.1 q.2=true):bgK p q=some (.v (aL (iH p.1 p.2,refUp (iH p.1 p.2) (iH q.1 q.2) (oK q.1 q.2),0))):=by
 unfold bgK;rw [lt,lt,hp,hq,cond_true,cond_true];unfold angE refUp;dsimp only;have b1:=GY p.1 p.2;have b2:=GY q.1 q.2;generalize iH p.1 p.2=A at*;generalize iH q.1 q.2=C at*;cases oK q.1 q.2
 ·rw [Bool.not_false,cond_true,aX (x:=C+1) (by omega),aX (x:=C+1+21600000) (by omega)];by_cases h:C+1<A
  ·rw [decide_eq_true h,cond_true];simp [h,aL,aD]
  ·rw [decide_eq_false h,cond_false];simp [h,aL,aD]
 ·rw [Bool.not_true,cond_false,aX (x:=C+21600000) (by omega)];by_cases h:C<A
  ·rw [decide_eq_true h,cond_true];simp [h,aL,aD]
  ·rw [decide_eq_false h,cond_false];simp [h,aL,aD]
theorem valE_eq (a b:Int):valE a b=aG a b:=by
 unfold valE aG;by_cases h1:a≤b
 ·by_cases h2:a≥-2147483648
  ·by_cases h3:b≤2147483648
   ·rw [decide_eq_true h1,decide_eq_true h2,decide_eq_true h3,cond_true,cond_true];exact (decide_eq_true ⟨h2,h1,h3⟩).symm
   ·rw [decide_eq_true h1,decide_eq_true h2,decide_eq_false h3,cond_true,cond_true];exact (decide_eq_false (by omega)).symm
  ·rw [decide_eq_true h1,decide_eq_false h2,cond_true,cond_false];exact (decide_eq_false (by omega)).symm
 ·rw [decide_eq_false h1,cond_false];exact (decide_eq_false (by omega)).symm
theorem orgE_eq (yl yh xl xh:Int):orgE yl yh xl xh=cM yl yh xl xh:=by
 unfold orgE cM;by_cases h1:yl≤0
 ·by_cases h2:yh≥0
  ·by_cases h3:xl≤0
   ·rw [decide_eq_true h1,decide_eq_true h2,decide_eq_true h3,cond_true,cond_true,cond_true];by_cases h4:xh≥0
    ·rw [decide_eq_true h4];exact (decide_eq_true ⟨h3,h4,h1,h2⟩).symm
    ·rw [decide_eq_false h4];exact (decide_eq_false (by omega)).symm
   ·rw [decide_eq_true h1,decide_eq_true h2,decide_eq_false h3,cond_true,cond_true,cond_false];exact (decide_eq_false (by omega)).symm
  ·rw [decide_eq_true h1,decide_eq_false h2,cond_true,cond_false];exact (decide_eq_false (by omega)).symm
 ·rw [decide_eq_false h1,cond_false];exact (decide_eq_false (by omega)).symm
theorem bgS_bear {yl yh xl xh:Int} (hx:aG xl xh=true) (hy:aG yl yh=true) (ho:cM yl yh xl xh=false):bgS (xl,yl) (xl,yh) (xh,yl) (xh,yh)=some (.v (aL (aQ yl yh xl xh))):=by
 have hx':=of_decide_eq_true hx;have hy':=of_decide_eq_true hy;have ho':=of_decide_eq_false ho;have inn:∀p:Int×Int,((p.1=xl∨p.1=xh)∧(p.2=yl∨p.2=yh))→In32 p:=fun p h=>by unfold In32;omega
 have pre:∀p:Int×Int,((p.1=xl∨p.1=xh)∧(p.2=yl∨p.2=yh))→yW p.1 p.2=true:=fun p h=>decide_eq_true (by omega);have sf:∀j,cond (bW (nW yl yh xl xh j) (IL yl yh xl xh j)) (nW yl yh xl xh j) (IL yl yh xl xh j)=IL yl yh xl xh (j+1):=fun j=>by
  rw [bW_eq (inn _ (xF _ _ _ _ j)) (inn _ (rf_mem _ _ _ _ j))];rfl
 have sl:∀j,cond (bW (IQ yl yh xl xh j) (nW yl yh xl xh j)) (nW yl yh xl xh j) (IQ yl yh xl xh j)=IQ yl yh xl xh (j+1):=fun j=>by
  rw [bW_eq (inn _ (rl_mem _ _ _ _ j)) (inn _ (xF _ _ _ _ j))];rfl
 have s1:=sf 1;have t1:=sl 1;rw [rf_one] at s1;rw [rl_one] at t1;have e:bgS (xl,yl) (xl,yh) (xh,yl) (xh,yh)=bgK (IL yl yh xl xh 4) (IQ yl yh xl xh 4):=bgS_eq (c0:=(xl,yl)) (c1:=nW yl yh xl xh 1) (c2:=nW yl yh xl xh 2) (c3:=nW yl yh xl xh 3) (f2:=IL yl yh xl xh 2) (l2:=IQ yl yh xl xh 2) (f3:=IL yl yh xl xh 3) (l3:=IQ yl yh xl xh 3) (f4:=IL yl yh xl xh 4) (l4:=IQ yl yh xl xh 4) s1 t1 (sf 2) (sl 2) (sf 3) (sl 3);rw [e,bgK_eq (pre _ (rf_mem _ _ _ _ 4)) (pre _ (rl_mem _ _ _ _ 4)),←ref_bear hx hy ho];rfl
noncomputable def JN:aZ:=[(160,eP (fun a b=>.bool (valE a b))),(165,nX (fun a b c d=>.bool (orgE a b c d))),(166,nX (fun a b c d=>.bool (befE a b c d))),(167,ePif yW (fun a b=>ibV (angE a b)))]
theorem NI:aJ Tryz.prog JN:=(aA (cF valE_gives) (aA (cH orgE_gives) (aA (cH befE_gives) (aA (RV TJ) cO))))
theorem rbear_tree (a b c d:Int):evF Tryz.prog [] Cs JN 20 6 102 ([.agg ⟨[.int .i64 a,.int .i64 b]⟩,.agg ⟨[.int .i64 c,.int .i64 d]⟩].map AV.v) [] [] YT=
 cond (!(valE a b)) (some (.v (aL (0,0,1)))) (cond (!(valE c d)) (some (.v (aL (0,0,1)))) (cond (orgE a b c d) (some (.v (aL (0,21600000,0)))) (bgS (c,a) (c,b) (d,a) (d,b)))):=by kernel_rfl
theorem rbear (a b c d:Int):aH Tryz.prog 102 [.agg ⟨[.int .i64 a,.int .i64 b]⟩,.agg ⟨[.int .i64 c,.int .i64 d]⟩] (aL (aQ a b c d)):=by
 refine oT (E:=[]) mixed (by simp) JB NI (lim:=20) (d:=6) (nm:=[]) ?_;rw [rbear_tree a b c d];rw [valE_eq,valE_eq,orgE_eq];cases h1:aG a b
 ·unfold aQ;rw [h1,Bool.and_false,if_pos rfl];rfl
 ·cases h2:aG c d
  ·unfold aQ;rw [h2,Bool.false_and,if_pos rfl];rfl
  ·cases h3:cM a b c d
   ·rw [Bool.not_true,cond_false,cond_false,cond_false,bgS_bear h2 h1 h3]
   ·unfold aQ;rw [h1,h2,h3,if_neg (by simp),if_pos rfl];rfl
end
section
open Ev
open SM
def XO (r:Int×Bool):Value:=.tuple ⟨[.int .i64 r.1,.bool r.2]⟩
def yK (r:Int×Int):Value:=.tuple ⟨[.int .i64 r.1,.int .i64 r.2]⟩
def zW (r:Int×Int×Int×Int):Value:=.tuple ⟨[aD r.1 r.2.1,aD r.2.2.1 r.2.2.2]⟩
def rflR (n:Int):Int×Bool:=(fZ n,jP (dW n))
theorem rflR_gives (n:Int):aH Tryz.prog 229 [.int .i64 n] (XO (rflR n)):=pD fun w=>MC n w
noncomputable def IK {α:Type} (K:Int→Int→α) (a:Int):α:=lt (rflR a) fun x1=>cond x1.2 (K x1.1 x1.1) (K x1.1 (i64.wrap (x1.1+1)))
noncomputable def AD (a:Int):Int×Int:=IK (fun p0 p1=>(p0,p1)) a
noncomputable def kR10:aZ:=(49,eP (fun a b=>.bool (uG a b)))::(99,eP (fun a b=>aL (aV a b)))::(102,nX (fun a b c d=>aL (aQ a b c d)))::(109,eP (fun a b=>aD (fF a b).1 (fF a b).2))::(157,eP (fun a b=>aL (dN a b)))::(229,eI (fun a=>XO (rflR a)))::[]
theorem kR10_ok:aJ Tryz.prog kR10:=(aA (cF FW) (aA (cF (fun a b W _=>TK a b W)) (aA (cH rbear) (aA (cF tO) (aA (cF (fun a b W _=>rahav_r a b W)) (aA (FA rflR_gives) cO))))))
theorem TM (a:Int):aH Tryz.prog 212 [.int .i64 a] (yK (AD a)):=by
 refine aE bK kR10_ok (t:=IK (fun p0 p1=>some (.v (yK ((p0,p1))))) a) (by kernel_rfl) ?_;unfold AD IK;repeat' first | (with_reducible refine aT (fun r:Int×Int=>AV.v (yK (r))) ?_ ?_) | (with_reducible refine cG (fun r:Int×Int=>AV.v (yK (r))) fun _=>?_) | rfl
noncomputable def wQ (a b c:Int):Bool:=cond (decide ((avZ (i64.wrap (c-a)) 21600000)<0)) ((decide (i64.wrap (a+(i64.wrap ((avZ (i64.wrap (c-a)) 21600000)+21600000)))≤b))) ((decide (i64.wrap (a+(avZ (i64.wrap (c-a)) 21600000))≤b)))
noncomputable def kR11:aZ:=(212,eI (fun a=>yK (AD a)))::kR10
theorem kR11_ok:aJ Tryz.prog kR11:=(aA (FA TM) kR10_ok)
theorem aAj (a b c:Int):aH Tryz.prog 202 [.agg ⟨[.int .i64 a,.int .i64 b]⟩,.int .i64 c] (.bool (wQ a b c)):=by
 refine aE bK kR11_ok (t:=cond (decide ((avZ (i64.wrap (c-a)) 21600000)<0)) (some (.v (.bool (decide (i64.wrap (a+(i64.wrap ((avZ (i64.wrap (c-a)) 21600000)+21600000)))≤b))))) (some (.v (.bool (decide (i64.wrap (a+(avZ (i64.wrap (c-a)) 21600000))≤b)))))) (by kernel_rfl) ?_;unfold wQ;repeat' first | (with_reducible refine aT (fun r:Bool=>AV.v (.bool (r))) ?_ ?_) | (with_reducible refine cG (fun r:Bool=>AV.v (.bool (r))) fun _=>?_) | rfl
noncomputable def IT {α:Type} (K:Int→Int→α) (a b:Int):α:=lt (AD a) fun x1=>lt (AD b) fun x2=>cond (wQ a b 5400000) (cond (wQ a b (-5400000)) (K (-1073741824) 1073741824) (K (mn x1.1 x2.1) 1073741824)) (cond (wQ a b (-5400000)) (K (-1073741824) (mx x1.2 x2.2)) (K (mn x1.1 x2.1) (mx x1.2 x2.2)))
noncomputable def tN (a b:Int):Int×Int:=IT (fun p0 p1=>(p0,p1)) a b
noncomputable def kR12:aZ:=(202,ePI (fun a b c=>.bool (wQ a b c)))::kR11
theorem kR12_ok:aJ Tryz.prog kR12:=(aA (ePI_ok aAj) kR11_ok)
theorem TW (a b:Int):aH Tryz.prog 164 [.agg ⟨[.int .i64 a,.int .i64 b]⟩] (aD (tN a b).1 (tN a b).2):=by
 refine aE bK kR12_ok (t:=IT (fun p0 p1=>some (.v (aD ((p0,p1)).1 ((p0,p1)).2))) a b) (by kernel_rfl) ?_;unfold tN IT;repeat' first | (with_reducible refine aT (fun r:Int×Int=>AV.v (aD (r).1 (r).2)) ?_ ?_) | (with_reducible refine cG (fun r:Int×Int=>AV.v (aD (r).1 (r).2)) fun _=>?_) | rfl
noncomputable def gV (a b:Int):Int×Int:=lt (tN a b) fun x1=>(x1.1,x1.2)
noncomputable def kR13:aZ:=(164,eP (fun a b=>aD (tN a b).1 (tN a b).2))::kR12
theorem kR13_ok:aJ Tryz.prog kR13:=(aA (cF TW) kR12_ok)
theorem wS (a b:Int):aH Tryz.prog 105 [.agg ⟨[.int .i64 a,.int .i64 b]⟩] (aD (gV a b).1 (gV a b).2):=aE bK kR13_ok (by kernel_rfl) rfl
noncomputable def eE (a b:Int):Int×Int:=lt (tN (i64.wrap (a+5400000)) (i64.wrap (b+5400000))) fun x1=>(x1.1,x1.2)
noncomputable def kR14:aZ:=(105,eP (fun a b=>aD (gV a b).1 (gV a b).2))::kR13
theorem kR14_ok:aJ Tryz.prog kR14:=(aA (cF wS) kR13_ok)
theorem qG (a b:Int):aH Tryz.prog 101 [.agg ⟨[.int .i64 a,.int .i64 b]⟩] (aD (eE a b).1 (eE a b).2):=aE bK kR14_ok (by kernel_rfl) rfl
noncomputable def rhvMK {α:Type} (K:Int→Int→α) (a:Int):α:=lt (rflR (i64.wrap (a+5400000))) fun x1=>cond x1.2 (K (i64.wrap (apQ (i64.wrap (1073741824-x1.1)) 2)) (i64.wrap (apQ (i64.wrap (1073741824-x1.1)) 2))) (K (i64.wrap (apQ (i64.wrap ((i64.wrap (1073741824-x1.1))-1)) 2)) (i64.wrap ((i64.wrap (apQ (i64.wrap ((i64.wrap (1073741824-x1.1))-1)) 2))+1)))
noncomputable def rhvM (a:Int):Int×Int:=rhvMK (fun p0 p1=>(p0,p1)) a
noncomputable def kR15:aZ:=(101,eP (fun a b=>aD (eE a b).1 (eE a b).2))::kR14
theorem kR15_ok:aJ Tryz.prog kR15:=(aA (cF qG) kR14_ok)
theorem rhvM_gives (a:Int):aH Tryz.prog 201 [.int .i64 a] (yK (rhvM a)):=by
 refine aE bK kR15_ok (t:=rhvMK (fun p0 p1=>some (.v (yK ((p0,p1))))) a) (by kernel_rfl) ?_;unfold rhvM rhvMK;repeat' first | (with_reducible refine aT (fun r:Int×Int=>AV.v (yK (r))) ?_ ?_) | (with_reducible refine cG (fun r:Int×Int=>AV.v (yK (r))) fun _=>?_) | rfl
noncomputable def TO {α:Type} (K:Int→Int→α) (a b:Int):α:=lt (rhvM a) fun x1=>lt (rhvM b) fun x2=>cond (wQ a b 10800000) (cond (wQ a b 0) (K 0 1073741824) (K (mn x1.1 x2.1) 1073741824)) (cond (wQ a b 0) (K 0 (mx x1.2 x2.2)) (K (mn x1.1 x2.1) (mx x1.2 x2.2)))
noncomputable def rN (a b:Int):Int×Int:=TO (fun p0 p1=>(p0,p1)) a b
noncomputable def kR16:aZ:=(201,eI (fun a=>yK (rhvM a)))::kR15
theorem kR16_ok:aJ Tryz.prog kR16:=(aA (FA rhvM_gives) kR15_ok)
theorem FN (a b:Int):aH Tryz.prog 156 [.agg ⟨[.int .i64 a,.int .i64 b]⟩] (aD (rN a b).1 (rN a b).2):=by
 refine aE bK kR16_ok (t:=TO (fun p0 p1=>some (.v (aD ((p0,p1)).1 ((p0,p1)).2))) a b) (by kernel_rfl) ?_;unfold rN TO;repeat' first | (with_reducible refine aT (fun r:Int×Int=>AV.v (aD (r).1 (r).2)) ?_ ?_) | (with_reducible refine cG (fun r:Int×Int=>AV.v (aD (r).1 (r).2)) fun _=>?_) | rfl
noncomputable def TN {α:Type} (K:Int→Int→Int→α) (a b:Int):α:=cond (decide (a<(-2147483648))) (K 0 0 5) (cond (decide (b>2147483648)) (K 0 0 5) (K a b 0))
noncomputable def nS (a b:Int):Int×Int×Int:=TN (fun p0 p1 p2=>(p0,p1,p2)) a b
noncomputable def kR17:aZ:=(156,eP (fun a b=>aD (rN a b).1 (rN a b).2))::kR16
theorem kR17_ok:aJ Tryz.prog kR17:=(aA (cF FN) kR16_ok)
theorem FM (a b:Int):aH Tryz.prog 209 [.int .i64 a,.int .i64 b] (aL (nS a b)):=by
 refine aE bK kR17_ok (t:=TN (fun p0 p1 p2=>some (.v (aL ((p0,p1,p2))))) a b) (by kernel_rfl) ?_;unfold nS TN;repeat' first | (with_reducible refine aT (fun r:Int×Int×Int=>AV.v (aL (r))) ?_ ?_) | (with_reducible refine cG (fun r:Int×Int×Int=>AV.v (aL (r))) fun _=>?_) | rfl
noncomputable def gP (a b:Int):Int:=cond (decide (b<a)) (b) (a)
noncomputable def kR18:aZ:=(209,eII (fun a b=>aL (nS a b)))::kR17
theorem kR18_ok:aJ Tryz.prog kR18:=(aA (pB FM) kR17_ok)
theorem FP (a b:Int):aH Tryz.prog 207 [.int .i64 a,.int .i64 b] (.int .i64 (gP a b)):=by
 refine aE bK kR18_ok (t:=cond (decide (b<a)) (some (.v (.int .i64 b))) (some (.v (.int .i64 a)))) (by kernel_rfl) ?_;unfold gP;repeat' first | (with_reducible refine aT (fun r:Int=>AV.v (.int .i64 (r))) ?_ ?_) | (with_reducible refine cG (fun r:Int=>AV.v (.int .i64 (r))) fun _=>?_) | rfl
noncomputable def fC (a b:Int):Int:=cond (decide (a<b)) (b) (a)
noncomputable def kR19:aZ:=(207,eII (fun a b=>.int .i64 (gP a b)))::kR18
theorem kR19_ok:aJ Tryz.prog kR19:=(aA (pB FP) kR18_ok)
theorem FQ (a b:Int):aH Tryz.prog 208 [.int .i64 a,.int .i64 b] (.int .i64 (fC a b)):=by
 refine aE bK kR19_ok (t:=cond (decide (a<b)) (some (.v (.int .i64 b))) (some (.v (.int .i64 a)))) (by kernel_rfl) ?_;unfold fC;repeat' first | (with_reducible refine aT (fun r:Int=>AV.v (.int .i64 (r))) ?_ ?_) | (with_reducible refine cG (fun r:Int=>AV.v (.int .i64 (r))) fun _=>?_) | rfl
noncomputable def EC (a b:Int):Bool:=cond (decide (a≤0)) ((decide (b≥0))) (false)
noncomputable def kR110:aZ:=(208,eII (fun a b=>.int .i64 (fC a b)))::kR19
theorem KW:aJ Tryz.prog kR110:=(aA (pB FQ) kR19_ok)
theorem UB (a b:Int):aH Tryz.prog 230 [.agg ⟨[.int .i64 a,.int .i64 b]⟩] (.bool (EC a b)):=by
 refine aE bK KW (t:=cond (decide (a≤0)) (some (.v (.bool (decide (b≥0))))) (some (.v (.bool false)))) (by kernel_rfl) ?_;unfold EC;repeat' first | (with_reducible refine aT (fun r:Bool=>AV.v (.bool (r))) ?_ ?_) | (with_reducible refine cG (fun r:Bool=>AV.v (.bool (r))) fun _=>?_) | rfl
noncomputable def qH (a b:Int):Int×Int:=(i64.wrap (0-b),i64.wrap (0-a))
theorem FT (a b:Int):aH Tryz.prog 103 [.agg ⟨[.int .i64 a,.int .i64 b]⟩] (aD (qH a b).1 (qH a b).2):=aE bK KW (by kernel_rfl) rfl
noncomputable def ZX (a b c d:Int):Int×Int×Int:=lt (nS (i64.wrap (a+c)) (i64.wrap (b+d))) fun x1=>(x1.1,x1.2.1,x1.2.2)
noncomputable def kR111:aZ:=(103,eP (fun a b=>aD (qH a b).1 (qH a b).2))::kR110
theorem XX:aJ Tryz.prog kR111:=(aA (cF FT) KW)
theorem FK (a b c d:Int):aH Tryz.prog 173 [.agg ⟨[.int .i64 a,.int .i64 b]⟩,.agg ⟨[.int .i64 c,.int .i64 d]⟩] (aL (ZX a b c d)):=aE bK XX (by kernel_rfl) rfl
noncomputable def aAx (a b c d:Int):Int×Int×Int:=lt (nS (i64.wrap (a-d)) (i64.wrap (b-c))) fun x1=>(x1.1,x1.2.1,x1.2.2)
noncomputable def kR112:aZ:=(173,nX (fun a b c d=>aL (ZX a b c d)))::kR111
theorem XY:aJ Tryz.prog kR112:=(aA (cH FK) XX)
theorem aAy (a b c d:Int):aH Tryz.prog 175 [.agg ⟨[.int .i64 a,.int .i64 b]⟩,.agg ⟨[.int .i64 c,.int .i64 d]⟩] (aL (aAx a b c d)):=aE bK XY (by kernel_rfl) rfl
noncomputable def TR {α:Type} (K:Int→Int→Int→α) (a b c d:Int):α:=cond (decide ((avZ (gP (gP (i64.wrap (a*c)) (i64.wrap (a*d))) (gP (i64.wrap (b*c)) (i64.wrap (b*d)))) 1073741824)<0)) (cond (decide ((avZ (i64.wrap (0-(fC (fC (i64.wrap (a*c)) (i64.wrap (a*d))) (fC (i64.wrap (b*c)) (i64.wrap (b*d)))))) 1073741824)<0)) (lt (nS (i64.wrap ((i64.wrap (apQ (gP (gP (i64.wrap (a*c)) (i64.wrap (a*d))) (gP (i64.wrap (b*c)) (i64.wrap (b*d)))) 1073741824))-1)) (i64.wrap (0-(i64.wrap ((i64.wrap (apQ (i64.wrap (0-(fC (fC (i64.wrap (a*c)) (i64.wrap (a*d))) (fC (i64.wrap (b*c)) (i64.wrap (b*d)))))) 1073741824))-1))))) fun x1=>K x1.1 x1.2.1 x1.2.2) (lt (nS (i64.wrap ((i64.wrap (apQ (gP (gP (i64.wrap (a*c)) (i64.wrap (a*d))) (gP (i64.wrap (b*c)) (i64.wrap (b*d)))) 1073741824))-1)) (i64.wrap (0-(i64.wrap (apQ (i64.wrap (0-(fC (fC (i64.wrap (a*c)) (i64.wrap (a*d))) (fC (i64.wrap (b*c)) (i64.wrap (b*d)))))) 1073741824))))) fun x2=>K x2.1 x2.2.1 x2.2.2)) (cond (decide ((avZ (i64.wrap (0-(fC (fC (i64.wrap (a*c)) (i64.wrap (a*d))) (fC (i64.wrap (b*c)) (i64.wrap (b*d)))))) 1073741824)<0)) (lt (nS (i64.wrap (apQ (gP (gP (i64.wrap (a*c)) (i64.wrap (a*d))) (gP (i64.wrap (b*c)) (i64.wrap (b*d)))) 1073741824)) (i64.wrap (0-(i64.wrap ((i64.wrap (apQ (i64.wrap (0-(fC (fC (i64.wrap (a*c)) (i64.wrap (a*d))) (fC (i64.wrap (b*c)) (i64.wrap (b*d)))))) 1073741824))-1))))) fun x3=>K x3.1 x3.2.1 x3.2.2) (lt (nS (i64.wrap (apQ (gP (gP (i64.wrap (a*c)) (i64.wrap (a*d))) (gP (i64.wrap (b*c)) (i64.wrap (b*d)))) 1073741824)) (i64.wrap (0-(i64.wrap (apQ (i64.wrap (0-(fC (fC (i64.wrap (a*c)) (i64.wrap (a*d))) (fC (i64.wrap (b*c)) (i64.wrap (b*d)))))) 1073741824))))) fun x4=>K x4.1 x4.2.1 x4.2.2))
noncomputable def QA (a b c d:Int):Int×Int×Int:=TR (fun p0 p1 p2=>(p0,p1,p2)) a b c d
noncomputable def kR113:aZ:=(175,nX (fun a b c d=>aL (aAx a b c d)))::kR112
theorem XZ:aJ Tryz.prog kR113:=(aA (cH aAy) XY)
theorem FR (a b c d:Int):aH Tryz.prog 163 [.agg ⟨[.int .i64 a,.int .i64 b]⟩,.agg ⟨[.int .i64 c,.int .i64 d]⟩] (aL (QA a b c d)):=by
 refine aE bK XZ (t:=TR (fun p0 p1 p2=>some (.v (aL ((p0,p1,p2))))) a b c d) (by kernel_rfl) ?_;unfold QA TR;repeat' first | (with_reducible refine aT (fun r:Int×Int×Int=>AV.v (aL (r))) ?_ ?_) | (with_reducible refine cG (fun r:Int×Int×Int=>AV.v (aL (r))) fun _=>?_) | rfl
noncomputable def MJ {α:Type} (K:Int→Int→Int→Int→α) (a b c d:Int):α:=cond (decide (c<0)) (lt (qH a b) fun x1=>lt (qH c d) fun x2=>K x1.1 x1.2 x2.1 x2.2) (K a b c d)
noncomputable def FV (a b c d:Int):Int×Int×Int×Int:=MJ (fun p0 p1 p2 p3=>(p0,p1,p2,p3)) a b c d
noncomputable def kR114:aZ:=(163,nX (fun a b c d=>aL (QA a b c d)))::kR113
theorem KX:aJ Tryz.prog kR114:=(aA (cH FR) XZ)
theorem aAA (a b c d:Int):aH Tryz.prog 231 [.agg ⟨[.int .i64 a,.int .i64 b]⟩,.agg ⟨[.int .i64 c,.int .i64 d]⟩] (zW (FV a b c d)):=by
 refine aE bK KX (t:=MJ (fun p0 p1 p2 p3=>some (.v (zW ((p0,p1,p2,p3))))) a b c d) (by kernel_rfl) ?_;unfold FV MJ;repeat' first | (with_reducible refine aT (fun r:Int×Int×Int×Int=>AV.v (zW (r))) ?_ ?_) | (with_reducible refine cG (fun r:Int×Int×Int×Int=>AV.v (zW (r))) fun _=>?_) | rfl
noncomputable def dI (a b c d:Int):Int×Int:=lt (QA a b c d) fun x1=>(x1.1,x1.2.1)
theorem tT (a b c d:Int):aH Tryz.prog 100 [.agg ⟨[.int .i64 a,.int .i64 b]⟩,.agg ⟨[.int .i64 c,.int .i64 d]⟩] (aD (dI a b c d).1 (dI a b c d).2):=aE bK KX (by kernel_rfl) rfl
noncomputable def rJ (a b c d:Int):Int×Int:=lt (ZX a b c d) fun x1=>(x1.1,x1.2.1)
noncomputable def kR115:aZ:=(100,nX (fun a b c d=>aD (dI a b c d).1 (dI a b c d).2))::kR114
theorem YA:aJ Tryz.prog kR115:=(aA (cH tT) KX)
theorem FI (a b c d:Int):aH Tryz.prog 116 [.agg ⟨[.int .i64 a,.int .i64 b]⟩,.agg ⟨[.int .i64 c,.int .i64 d]⟩] (aD (rJ a b c d).1 (rJ a b c d).2):=aE bK YA (by kernel_rfl) rfl
noncomputable def lY (a b c d:Int):Int×Int:=lt (aAx a b c d) fun x1=>(x1.1,x1.2.1)
noncomputable def kR116:aZ:=(116,nX (fun a b c d=>aD (rJ a b c d).1 (rJ a b c d).2))::kR115
theorem YB:aJ Tryz.prog kR116:=(aA (cH FI) YA)
theorem tA (a b c d:Int):aH Tryz.prog 117 [.agg ⟨[.int .i64 a,.int .i64 b]⟩,.agg ⟨[.int .i64 c,.int .i64 d]⟩] (aD (lY a b c d).1 (lY a b c d).2):=aE bK YB (by kernel_rfl) rfl
noncomputable def yM (a b c d:Int):Int×Int:=(i64.wrap (a+c),i64.wrap (b+d))
noncomputable def kR117:aZ:=(117,nX (fun a b c d=>aD (lY a b c d).1 (lY a b c d).2))::kR116
theorem KY:aJ Tryz.prog kR117:=(aA (cH tA) YB)
theorem ZW (a b c d:Int):aH Tryz.prog 108 [.agg ⟨[.int .i64 a,.int .i64 b]⟩,.agg ⟨[.int .i64 c,.int .i64 d]⟩] (aD (yM a b c d).1 (yM a b c d).2):=aE bK KY (by kernel_rfl) rfl
noncomputable def gQ (a b c d:Int):Int×Int:=(i64.wrap (a-d),i64.wrap (b-c))
theorem tI (a b c d:Int):aH Tryz.prog 98 [.agg ⟨[.int .i64 a,.int .i64 b]⟩,.agg ⟨[.int .i64 c,.int .i64 d]⟩] (aD (gQ a b c d).1 (gQ a b c d).2):=aE bK KY (by kernel_rfl) rfl
noncomputable def pO (a b:Int):Int×Int:=(i64.wrap (0-b),i64.wrap (0-a))
noncomputable def kR118:aZ:=(98,nX (fun a b c d=>aD (gQ a b c d).1 (gQ a b c d).2))::kR117
theorem BO:aJ Tryz.prog kR118:=(aA (cH tI) KY)
theorem BW (a b:Int):aH Tryz.prog 115 [.agg ⟨[.int .i64 a,.int .i64 b]⟩] (aD (pO a b).1 (pO a b).2):=aE bK BO (by kernel_rfl) rfl
noncomputable def IR {α:Type} (K:Int→Int→α) (a b c d:Int):α:=cond (decide (c>a)) (cond (decide (d<b)) (K c d) (K c b)) (cond (decide (d<b)) (K a d) (K a b))
noncomputable def tL (a b c d:Int):Int×Int:=IR (fun p0 p1=>(p0,p1)) a b c d
theorem TQ (a b c d:Int):aH Tryz.prog 177 [.agg ⟨[.int .i64 a,.int .i64 b]⟩,.agg ⟨[.int .i64 c,.int .i64 d]⟩] (aD (tL a b c d).1 (tL a b c d).2):=by
 refine aE bK BO (t:=IR (fun p0 p1=>some (.v (aD ((p0,p1)).1 ((p0,p1)).2))) a b c d) (by kernel_rfl) ?_;unfold tL IR;repeat' first | (with_reducible refine aT (fun r:Int×Int=>AV.v (aD (r).1 (r).2)) ?_ ?_) | (with_reducible refine cG (fun r:Int×Int=>AV.v (aD (r).1 (r).2)) fun _=>?_) | rfl
noncomputable def wR (a b:Int):Bool:=cond (decide (a≤b)) (cond (decide (a≥(-5400000))) ((decide (b≤5400000))) (false)) (false)
theorem FO (a b:Int):aH Tryz.prog 33 [.agg ⟨[.int .i64 a,.int .i64 b]⟩] (.bool (wR a b)):=by
 refine aE bK BO (t:=cond (decide (a≤b)) (cond (decide (a≥(-5400000))) (some (.v (.bool (decide (b≤5400000))))) (some (.v (.bool false)))) (some (.v (.bool false)))) (by kernel_rfl) ?_;unfold wR;repeat' first | (with_reducible refine aT (fun r:Bool=>AV.v (.bool (r))) ?_ ?_) | (with_reducible refine cG (fun r:Bool=>AV.v (.bool (r))) fun _=>?_) | rfl
noncomputable def FU (a b c d e f:Int):Bool:=cond (wR a b) (cond (wR c d) ((uG e f)) (false)) (false)
noncomputable def kR119:aZ:=(33,eP (fun a b=>.bool (wR a b)))::kR118
theorem LA:aJ Tryz.prog kR119:=(aA (cF FO) BO)
theorem wT (a b c d e f:Int):aH Tryz.prog 15 [.agg ⟨[.int .i64 a,.int .i64 b,.int .i64 c,.int .i64 d,.int .i64 e,.int .i64 f]⟩] (.bool (FU a b c d e f)):=by
 refine aE bK LA (t:=cond (wR a b) (cond (wR c d) (some (.v (.bool (uG e f)))) (some (.v (.bool false)))) (some (.v (.bool false)))) (by kernel_rfl) ?_;unfold FU;repeat' first | (with_reducible refine aT (fun r:Bool=>AV.v (.bool (r))) ?_ ?_) | (with_reducible refine cG (fun r:Bool=>AV.v (.bool (r))) fun _=>?_) | rfl
noncomputable def MH (a b c d e f:Int):Int×Int:=lt (gV a b) fun x1=>lt (gV c d) fun x2=>lt (dI x1.1 x1.2 x2.1 x2.2) fun x3=>lt (eE a b) fun x4=>lt (eE c d) fun x5=>lt (dI x4.1 x4.2 x5.1 x5.2) fun x6=>lt (eE e f) fun x7=>lt (dI x6.1 x6.2 x7.1 x7.2) fun x8=>lt (rJ x3.1 x3.2 x8.1 x8.2) fun x9=>(x9.1,x9.2)
theorem aAw (a b c d e f:Int):aH Tryz.prog 155 [.agg ⟨[.int .i64 a,.int .i64 b,.int .i64 c,.int .i64 d,.int .i64 e,.int .i64 f]⟩] (aD (MH a b c d e f).1 (MH a b c d e f).2):=aE bK LA (by kernel_rfl) rfl
noncomputable def LW (a b c d e f:Int):Int×Int:=lt (MH a b c d e f) fun x1=>lt (aV x1.1 x1.2) fun x2=>(x2.1,x2.2.1)
noncomputable def kR120:aZ:=(155,eT (fun a b c d e f=>aD (MH a b c d e f).1 (MH a b c d e f).2))::kR119
theorem YC:aJ Tryz.prog kR120:=(aA (gS aAw) LA)
theorem aA0 (a b c d e f:Int):aH Tryz.prog 92 [.agg ⟨[.int .i64 a,.int .i64 b,.int .i64 c,.int .i64 d,.int .i64 e,.int .i64 f]⟩] (aD (LW a b c d e f).1 (LW a b c d e f).2):=aE bK YC (by kernel_rfl) rfl
noncomputable def LX (a b c d e f:Int):Int×Int:=lt (eE c d) fun x1=>lt (gV e f) fun x2=>lt (dI x1.1 x1.2 x2.1 x2.2) fun x3=>lt (qH x3.1 x3.2) fun x4=>lt (gV c d) fun x5=>lt (eE a b) fun x6=>lt (dI x5.1 x5.2 x6.1 x6.2) fun x7=>lt (eE c d) fun x8=>lt (eE e f) fun x9=>lt (dI x8.1 x8.2 x9.1 x9.2) fun x10=>lt (gV a b) fun x11=>lt (dI x10.1 x10.2 x11.1 x11.2) fun x12=>lt (lY x7.1 x7.2 x12.1 x12.2) fun x13=>lt (aQ x4.1 x4.2 x13.1 x13.2) fun x14=>(x14.1,x14.2.1)
noncomputable def kR121:aZ:=(92,eT (fun a b c d e f=>aD (LW a b c d e f).1 (LW a b c d e f).2))::kR120
theorem YD:aJ Tryz.prog kR121:=(aA (gS aA0) YC)
theorem aA3 (a b c d e f:Int):aH Tryz.prog 93 [.agg ⟨[.int .i64 a,.int .i64 b,.int .i64 c,.int .i64 d,.int .i64 e,.int .i64 f]⟩] (aD (LX a b c d e f).1 (LX a b c d e f).2):=aE bK YD (by kernel_rfl) rfl
noncomputable def aAp (a b c d e f:Int):Int×Int×Int×Int:=lt (LW a b c d e f) fun x1=>lt (LX a b c d e f) fun x2=>(x1.1,x1.2,x2.1,x2.2)
noncomputable def kR122:aZ:=(93,eT (fun a b c d e f=>aD (LX a b c d e f).1 (LX a b c d e f).2))::kR121
theorem rH:aJ Tryz.prog kR122:=(aA (gS aA3) YD)
theorem aAq (a b c d e f:Int):aH Tryz.prog 43 [.agg ⟨[.int .i64 a,.int .i64 b,.int .i64 c,.int .i64 d,.int .i64 e,.int .i64 f]⟩] (OB (aAp a b c d e f)):=aE bK rH (by kernel_rfl) rfl
noncomputable def NY (a b:Int):Int×Int:=(i64.wrap (5400000-b),i64.wrap (5400000-a))
theorem qtrM_gives (a b:Int):aH Tryz.prog 96 [.agg ⟨[.int .i64 a,.int .i64 b]⟩] (aD (NY a b).1 (NY a b).2):=aE bK rH (by kernel_rfl) rfl
noncomputable def UM {α:Type} (K:Int→Int→α) (a b c d:Int):α:=lt (fF c d) fun x1=>cond (decide (x1.1≥10800000)) (cond (decide (x1.2≤21600000)) (K a b) (cond (decide (x1.2≤10800000)) (lt (fF (i64.wrap (21600000-b)) (i64.wrap (21600000-a))) fun x2=>K x2.1 x2.2) (cond (decide (i64.wrap (a+b)>10800000)) (K a (i64.wrap (21600000-a))) (lt (fF (i64.wrap (0-b)) b) fun x3=>K x3.1 x3.2)))) (cond (decide (x1.2≤10800000)) (lt (fF (i64.wrap (21600000-b)) (i64.wrap (21600000-a))) fun x4=>K x4.1 x4.2) (cond (decide (i64.wrap (a+b)>10800000)) (K a (i64.wrap (21600000-a))) (lt (fF (i64.wrap (0-b)) b) fun x5=>K x5.1 x5.2)))
noncomputable def FY (a b c d:Int):Int×Int:=UM (fun p0 p1=>(p0,p1)) a b c d
theorem aAO (a b c d:Int):aH Tryz.prog 159 [.agg ⟨[.int .i64 a,.int .i64 b]⟩,.agg ⟨[.int .i64 c,.int .i64 d]⟩] (aD (FY a b c d).1 (FY a b c d).2):=by
 refine aE bK rH (t:=UM (fun p0 p1=>some (.v (aD ((p0,p1)).1 ((p0,p1)).2))) a b c d) (by kernel_rfl) ?_;unfold FY UM;repeat' first | (with_reducible refine aT (fun r:Int×Int=>AV.v (aD (r).1 (r).2)) ?_ ?_) | (with_reducible refine cG (fun r:Int×Int=>AV.v (aD (r).1 (r).2)) fun _=>?_) | rfl
noncomputable def MO (a b c d e f:Int):Int×Int:=lt (gQ a b c d) fun x1=>lt (rN x1.1 x1.2) fun x2=>lt (eE a b) fun x3=>lt (eE c d) fun x4=>lt (dI x3.1 x3.2 x4.1 x4.2) fun x5=>lt (rN e f) fun x6=>lt (dI x5.1 x5.2 x6.1 x6.2) fun x7=>lt (rJ x2.1 x2.2 x7.1 x7.2) fun x8=>lt (dN x8.1 x8.2) fun x9=>(x9.1,x9.2.1)
theorem aAC (a b c d e f:Int):aH Tryz.prog 94 [.agg ⟨[.int .i64 a,.int .i64 b,.int .i64 c,.int .i64 d,.int .i64 e,.int .i64 f]⟩] (aD (MO a b c d e f).1 (MO a b c d e f).2):=aE bK rH (by kernel_rfl) rfl
noncomputable def CN (_a _b c d e f:Int):Int×Int:=lt (eE c d) fun x1=>lt (gV e f) fun x2=>lt (dI x1.1 x1.2 x2.1 x2.2) fun x3=>(x3.1,x3.2)
theorem aAU (a b c d e f:Int):aH Tryz.prog 104 [.agg ⟨[.int .i64 a,.int .i64 b,.int .i64 c,.int .i64 d,.int .i64 e,.int .i64 f]⟩] (aD (CN a b c d e f).1 (CN a b c d e f).2):=aE bK rH (by kernel_rfl) rfl
noncomputable def aA7 (a b c d e f:Int):Int×Int×Int×Int:=lt (CN a b c d e f) fun x1=>lt (aV x1.1 x1.2) fun x2=>lt (gV c d) fun x3=>lt (eE c d) fun x4=>lt (eE e f) fun x5=>lt (dI x4.1 x4.2 x5.1 x5.2) fun x6=>lt (aQ x3.1 x3.2 x6.1 x6.2) fun x7=>(x2.1,x2.2.1,x7.1,x7.2.1)
noncomputable def kR123:aZ:=(104,eT (fun a b c d e f=>aD (CN a b c d e f).1 (CN a b c d e f).2))::kR122
theorem YE:aJ Tryz.prog kR123:=(aA (gS aAU) rH)
theorem aA8 (a b c d e f:Int):aH Tryz.prog 97 [.agg ⟨[.int .i64 a,.int .i64 b,.int .i64 c,.int .i64 d,.int .i64 e,.int .i64 f]⟩] (zW (aA7 a b c d e f)):=aE bK YE (by kernel_rfl) rfl
noncomputable def aAs (a b c d e f:Int):Int×Int×Int×Int:=lt (aA7 a b c d e f) fun x1=>lt (gQ x1.2.2.1 x1.2.2.2 a b) fun x2=>lt (eE x1.1 x1.2.1) fun x3=>lt (eE x2.1 x2.2) fun x4=>lt (dI x3.1 x3.2 x4.1 x4.2) fun x5=>lt (aV x5.1 x5.2) fun x6=>lt (CN a b c d e f) fun x7=>lt (qH x7.1 x7.2) fun x8=>lt (eE x1.1 x1.2.1) fun x9=>lt (gV x2.1 x2.2) fun x10=>lt (dI x9.1 x9.2 x10.1 x10.2) fun x11=>lt (aQ x8.1 x8.2 x11.1 x11.2) fun x12=>(x6.1,x6.2.1,x12.1,x12.2.1)
noncomputable def kR124:aZ:=(97,eT (fun a b c d e f=>zW (aA7 a b c d e f)))::kR123
theorem rI:aJ Tryz.prog kR124:=(aA (gS aA8) YE)
theorem aAu (a b c d e f:Int):aH Tryz.prog 45 [.agg ⟨[.int .i64 a,.int .i64 b,.int .i64 c,.int .i64 d,.int .i64 e,.int .i64 f]⟩] (OB (aAs a b c d e f)):=aE bK rI (by kernel_rfl) rfl
noncomputable def rarM (a b:Int):Bool:=(decide (i64.wrap (b-a)≥21600000))
theorem rarM_gives (a b:Int):aH Tryz.prog 114 [.agg ⟨[.int .i64 a,.int .i64 b]⟩] (.bool (rarM a b)):=aE bK rI (by kernel_rfl) rfl
noncomputable def OA:Int×Int:=(5400000,5400000)
theorem rgtM_gives:aH Tryz.prog 106 [] (aD (OA).1 (OA).2):=aE bK rI (by kernel_rfl) rfl
noncomputable def iW (a b:Int):Int:=cond (decide (a>0)) (a) (cond (decide (b<0)) (i64.wrap (0-b)) (0))
theorem TS (a b:Int):aH Tryz.prog 216 [.agg ⟨[.int .i64 a,.int .i64 b]⟩] (.int .i64 (iW a b)):=by
 refine aE bK rI (t:=cond (decide (a>0)) (some (.v (.int .i64 a))) (cond (decide (b<0)) (some (.v (.int .i64 (i64.wrap (0-b))))) (some (.v (.int .i64 0))))) (by kernel_rfl) ?_;unfold iW;repeat' first | (with_reducible refine aT (fun r:Int=>AV.v (.int .i64 (r))) ?_ ?_) | (with_reducible refine cG (fun r:Int=>AV.v (.int .i64 (r))) fun _=>?_) | rfl
noncomputable def gK (a b:Int):Int:=cond (decide (i64.wrap (0-a)>b)) (i64.wrap (0-a)) (b)
theorem aAg (a b:Int):aH Tryz.prog 217 [.agg ⟨[.int .i64 a,.int .i64 b]⟩] (.int .i64 (gK a b)):=by
 refine aE bK rI (t:=cond (decide (i64.wrap (0-a)>b)) (some (.v (.int .i64 (i64.wrap (0-a))))) (some (.v (.int .i64 b)))) (by kernel_rfl) ?_;unfold gK;repeat' first | (with_reducible refine aT (fun r:Int=>AV.v (.int .i64 (r))) ?_ ?_) | (with_reducible refine cG (fun r:Int=>AV.v (.int .i64 (r))) fun _=>?_) | rfl
noncomputable def dJ (a:Int):Int:=cond (decide (a>1073741824)) (1073741824) (a)
theorem aA4 (a:Int):aH Tryz.prog 215 [.int .i64 a] (.int .i64 (dJ a)):=by
 refine aE bK rI (t:=cond (decide (a>1073741824)) (some (.v (.int .i64 1073741824))) (some (.v (.int .i64 a)))) (by kernel_rfl) ?_;unfold dJ;repeat' first | (with_reducible refine aT (fun r:Int=>AV.v (.int .i64 (r))) ?_ ?_) | (with_reducible refine cG (fun r:Int=>AV.v (.int .i64 (r))) fun _=>?_) | rfl
end
section
open SM TB TA
open Ev (lt bJ)
def GF (a b c d e f:Int):Int×Int×Int:=
 let m:=bT (aW a b).1 (aW a b).2.1 (aW c d).1 (aW c d).2.1
 let k:=bT (aN a b).1 (aN a b).2.1 (aN c d).1 (aN c d).2.1
 let n:=bT k.1 k.2.1 (aN e f).1 (aN e f).2.1
 fS m.1 m.2.1 n.1 n.2.1
def NL (a b c d e f:Int):Int×Int×Int:=
 let m:=bT (aW c d).1 (aW c d).2.1 (aN a b).1 (aN a b).2.1
 let k:=bT (aN c d).1 (aN c d).2.1 (aN e f).1 (aN e f).2.1
 let n:=bT k.1 k.2.1 (aW a b).1 (aW a b).2.1
 mQ m.1 m.2.1 n.1 n.2.1
def NJ (c d e f:Int):Int×Int×Int:=
 let m:=bT (aN c d).1 (aN c d).2.1 (aW e f).1 (aW e f).2.1
 mK m.1 m.2.1
theorem cup_v {a b c d e f:Int} {x y t:Rat} (h:cS a b c d e f=true) (hx:Hs 0 a b x) (hy:Hs 0 c d y) (ht:Hs 0 e f t):
  Vl (GF a b c d e f) (1000*e1) (yE x y t)∧Vl (NL a b c d e f) (1000*e1) (yC x y t)∧Vl (NJ c d e f) (1000*e1) (IA y t):=by
 obtain ⟨h1,h2,h3⟩:=eB h;have l1:=(bV h1).1;have l2:=(bV h2).1;obtain ⟨w1,w2,w3,w4,w5,w6,w7,w8,w9,w10,w11⟩:=lv;have s1:=bG l1;have c1:=aU l1;have s2:=bG l2;have c2:=aU l2;have s3:=bG h3;have c3:=aU h3;have S1:=pR l1 hx;have C1:=mG l1 hx;have S2:=pR l2 hy;have C2:=mG l2 hy;have S3:=pR h3 ht;have C3:=mG h3 ht;have m1:=jK s1 s2 (by grind) (by grind) S1 S2;have k1:=jK c1 c2 (by grind) (by grind) C1 C2;have n1:=jK (aR c1 c2) c3 (e:=3*(5*e1)) (by grind) (by grind) k1 (C3.wide (by grind));have m2:=jK s2 c1 (by grind) (by grind) S2 C1;have k2:=jK c2 c3 (by grind) (by grind) C2 C3;have n2:=jK (aR c2 c3) s1 (e:=3*(5*e1)) (by grind) (by grind) k2 (S1.wide (by grind));have m3:=jK c2 s3 (by grind) (by grind) C2 S3;refine ⟨?_,?_,?_⟩
 ·exact (add_v (aR s1 s2) (aR (aR c1 c2) c3) m1 n1).wide (by grind)
 ·exact (sub_v (aR s2 c1) (aR (aR c2 c3) s1) m2 n2).wide (by grind)
 ·exact (neg_v (aR c2 s3) m3).wide (by grind)
theorem OT {a b c d e f:Int} (h:cS a b c d e f=true):
  yF a b c d e f=aV (GF a b c d e f).1 (GF a b c d e f).2.1∧yG a b c d e f=aQ (NJ c d e f).1 (NJ c d e f).2.1 (NL a b c d e f).1 (NL a b c d e f).2.1:=by
 obtain ⟨h1,h2,h3⟩:=eB h;have l1:=(bV h1).1;have l2:=(bV h2).1;have s1:=bG l1;have c1:=aU l1;have s2:=bG l2;have c2:=aU l2;have s3:=bG h3;have c3:=aU h3;have z:((0:Int) != 0)=false:=rfl;constructor
 ·unfold yF JR GF;simp only [lt,uC,yI,uB,yH,qY,vK,OP,caddC];generalize aW a b=S1 at*;generalize aN a b=C1 at*;generalize aW c d=S2 at*;generalize aN c d=C2 at*;generalize aW e f=S3 at*;generalize aN e f=C3 at*;rw [s1.2.2.2,c1.2.2.2,s2.2.2.2,c2.2.2.2,s3.2.2.2,c3.2.2.2];have m1:=aR s1 s2;have k1:=aR c1 c2;generalize bT S1.1 S1.2.1 S2.1 S2.2.1=M at*;generalize bT C1.1 C1.2.1 C2.1 C2.2.1=K at*;have n1:=aR k1 c3;generalize bT K.1 K.2.1 C3.1 C3.2.1=N at*;have a1:=uX m1 n1;rw [m1.2.2.2,k1.2.2.2,n1.2.2.2,a1.1];simp only [LC,z,cond_false]
 ·unfold yG RN NL NJ;simp only [lt,uC,yI,uB,yH,qY,vK,OS,cnegC,OU,csubC];generalize aW a b=S1 at*;generalize aN a b=C1 at*;generalize aW c d=S2 at*;generalize aN c d=C2 at*;generalize aW e f=S3 at*;generalize aN e f=C3 at*;rw [s1.2.2.2,c1.2.2.2,s2.2.2.2,c2.2.2.2,s3.2.2.2,c3.2.2.2];have m1:=aR c2 s3;have k1:=aR s2 c1;have p1:=aR c2 c3;generalize bT C2.1 C2.2.1 S3.1 S3.2.1=M at*;generalize bT S2.1 S2.2.1 C1.1 C1.2.1=K at*;generalize bT C2.1 C2.2.1 C3.1 C3.2.1=P at*;have n1:=aR p1 s1;generalize bT P.1 P.2.1 S1.1 S1.2.1=N at*;have a1:=CJ k1 n1;have g1:=BT m1;rw [m1.2.2.2,k1.2.2.2,p1.2.2.2,n1.2.2.2,a1.1,g1.1];simp only [LC,z,cond_false]
theorem vM {a b c d e f:Int} (h:cS a b c d e f=true):∃H Z:Int×Int×Int,iQ a b c d e f=(H.1,H.2.1,Z.1,Z.2.1,0)∧vJ a b c d e f=H∧Hold a b c d e f H Z:=by
 obtain ⟨h1,h2,h3⟩:=eB h;have l1:=bV h1;have l2:=bV h2;have l3:=dG h3;obtain ⟨e1,e2⟩:=OT h;have v0:=cup_v h (Hs.at (aeX a) (by omega)) (Hs.at (aeX c) (by omega)) (Hs.at (aeX e) (by omega));obtain ⟨h',z',s'⟩:=sees a c e;have L:=(up_v v0.1 s').1;have D:=(az_v v0.2.2 v0.2.1 s').1;have a1:vJ a b c d e f=yF a b c d e f:=by
  unfold vJ zI;rw [h];rfl
 have a2:EX a b c d e f=yG a b c d e f:=by
  unfold EX JQ;rw [h];rfl
 refine ⟨aV (GF a b c d e f).1 (GF a b c d e f).2.1,aQ (NJ c d e f).1 (NJ c d e f).2.1 (NL a b c d e f).1 (NL a b c d e f).2.1,?_,?_,L,D,CX v0.2.2.2.1 v0.2.1.2.1,?_,?_⟩
 ·unfold iQ zK;rw [a1,a2,e1,e2];have z:((0:Int) != 0)=false:=rfl;simp only [lt];rw [L.2.2.2,D.2.2.2.2,z];rfl
 ·rw [a1,e1]
 ·intro x y t x0 y0 t0 h' z' s';exact (up_v (cup_v h x0 y0 t0).1 s').2
 ·intro x y t x0 y0 t0 h' z' s';have v:=cup_v h x0 y0 t0;exact (az_v v.2.2 v.2.1 s').2
end
section
open SM TB TA
open Ev (lt bJ)
theorem OD {x:Int} (h:0≤x∧x≤18446744073709551615):u64.wrap x=x:=IntWalk.u64_in _ h
def gL (a b:Int):Int:=if 0<a then a else if b<0 then -b else 0
def eW (a b:Int):Int:=if b< -a then -a else b
theorem near_eq {a b:Int} (h1:-2147483648≤a) (h2:a≤b) (h3:b≤2147483648):jA a b=gL a b:=by
 have k:u64.wrap (mn (mx a (i64.wrap (0-a))) (mx b (i64.wrap (0-b))))=mn (mx a (0-a)) (mx b (0-b)):=by
  rw [aX (x:=0-a) (by omega),aX (x:=0-b) (by omega)];refine OD ?_;unfold mn mx;repeat' split
  all_goals omega
 unfold jA gL;rw [k];unfold mn mx;by_cases c1:a≤0
 ·rw [decide_eq_true c1,cond_true];by_cases c2:b≥0
  ·rw [decide_eq_true c2,cond_true,if_neg (by omega),if_neg (by omega)]
  ·rw [decide_eq_false c2,cond_false,if_neg (show ¬0<a by omega),if_pos (show b<0 by omega)];repeat' split
   all_goals omega
 ·rw [decide_eq_false c1,cond_false,if_pos (show 0<a by omega)];repeat' split
  all_goals omega
theorem far_eq {a b:Int} (h1:-2147483648≤a) (h2:a≤b) (h3:b≤2147483648):jQ a b=eW a b:=by
 unfold jQ eW;rw [aX (x:=0-a) (by omega),aX (x:=0-b) (by omega)];have k:mx (mx (mx a (0-a)) b) (0-b)=if b< -a then -a else b:=by
  unfold mx;repeat' split
  all_goals omega
 rw [k];refine OD ?_;split<;>omega
theorem BV {a b:Int} (h2:a≤b):0≤gL a b∧gL a b≤eW a b∧(-a≤eW a b∧b≤eW a b∧(eW a b=-a∨eW a b=b)):=by
 unfold gL eW;repeat' split
 all_goals omega
theorem CB {n:Int} (h0:0≤n) (h1:n<18446744073709551616):0≤bO n∧bO n*bO n≤n∧n<(bO n+1)*(bO n+1):=by
 have k:=SI (n:=n.toNat) (by omega);have a:((isq n.toNat*isq n.toNat:Nat):Int)≤((n.toNat:Nat):Int):=Int.ofNat_le.2 k.1;have b:((n.toNat:Nat):Int)<(((isq n.toNat+1)*(isq n.toNat+1):Nat):Int):=Int.ofNat_lt.2 k.2;rw [aiQ,ahX h0] at a;rw [aiQ,ahX h0] at b;unfold bO;exact ⟨by omega,a,b⟩
def IZ (n:Int):Int:=if bO n*bO n<n then bO n+1 else bO n
theorem upr_ok {n:Int} (h0:0≤n) (h1:n<18446744073709551616):bO n≤IZ n∧n≤IZ n*IZ n∧(IZ n=bO n∨IZ n=bO n+1):=by
 have r:=CB h0 h1;unfold IZ;split
 ·exact ⟨by omega,by omega,.inr rfl⟩
 ·exact ⟨by omega,by omega,.inl rfl⟩
theorem fY {x:Int} {m:Int} (h0:0≤x) (h1:x≤m):0≤x*x∧x*x≤m*m:=⟨aeZ h0 h0,Int.mul_le_mul h1 h1 h0 (by omega)⟩
theorem hyp_eq {a b c d:Int} (h1:-2147483648≤a) (h2:a≤b) (h3:b≤2147483648) (h4:-1073741824≤c) (h5:c≤d) (h6:d≤1073741824):
  iV a b c d=(min (bO (gL a b*gL a b+gL c d*gL c d)) 1073741824,min (IZ (eW a b*eW a b+eW c d*eW c d)) 1073741824):=by
 have n1:=BV h2;have n2:=BV h5;have s1:=fY (x:=gL a b) (m:=2147483648) n1.1 (by omega);have s2:=fY (x:=gL c d) (m:=1073741824) n2.1 (by omega);have s3:=fY (x:=eW a b) (m:=2147483648) (by omega) (by omega);have s4:=fY (x:=eW c d) (m:=1073741824) (by omega) (by omega);have eN:sumN a b c d=gL a b*gL a b+gL c d*gL c d:=by
  unfold sumN;rw [near_eq h1 h2 h3,near_eq (by omega) h5 (by omega),OD (x:=gL a b*gL a b) (by omega),OD (x:=gL c d*gL c d) (by omega),OD (by omega)]
 have eF:GO a b c d=eW a b*eW a b+eW c d*eW c d:=by
  unfold GO;rw [far_eq h1 h2 h3,far_eq (by omega) h5 (by omega),OD (x:=eW a b*eW a b) (by omega),OD (x:=eW c d*eW c d) (by omega),OD (by omega)]
 unfold iV;rw [eN,eF];have r1:=CB (n:=gL a b*gL a b+gL c d*gL c d) (by omega) (by omega);have r2:=CB (n:=eW a b*eW a b+eW c d*eW c d) (by omega) (by omega);have q0:0≤gL a b*gL a b+gL c d*gL c d:=by omega
 have q1:0≤eW a b*eW a b+eW c d*eW c d∧eW a b*eW a b+eW c d*eW c d<9223372036854775808:=by omega
 generalize gL a b*gL a b+gL c d*gL c d=n at*;generalize eW a b*eW a b+eW c d*eW c d=f at*;have k:bO f<4294967296:=by
  rcases akZ (bO f) 4294967296 with h | h
  ·exact h
  ·have:=fY (x:=4294967296) (m:=bO f) (by omega) h;omega
 have z0:=aeZ r2.1 r2.1;rw [OD (x:=bO f*bO f) (by omega),OD (x:=bO f+1) (by omega)];have e1:cond (decide (bO f*bO f<f)) (bO f+1) (bO f)=IZ f:=by
  unfold IZ;by_cases c:bO f*bO f<f
  ·rw [decide_eq_true c,if_pos c];rfl
  ·rw [decide_eq_false c,if_neg c];rfl
 rw [e1];have u:0≤IZ f:=by
  have:=upr_ok q1.1 (by omega);omega
 have m1:mn (bO n) 1073741824=min (bO n) 1073741824:=by unfold mn;split<;>omega
 have m2:mn (IZ f) 1073741824=min (IZ f) 1073741824:=by unfold mn;split<;>omega
 rw [m1,m2,aX (by omega),aX (by omega)]
theorem hyp_bd {a b c d:Int} (h1:-2147483648≤a) (h2:a≤b) (h3:b≤2147483648) (h4:-1073741824≤c) (h5:c≤d) (h6:d≤1073741824):
  0≤(iV a b c d).1∧(iV a b c d).1≤(iV a b c d).2∧(iV a b c d).2≤1073741824:=by
 have n1:=BV h2;have n2:=BV h5;have s1:=fY (x:=gL a b) (m:=2147483648) n1.1 (by omega);have s2:=fY (x:=gL c d) (m:=1073741824) n2.1 (by omega);have s3:=fY (x:=eW a b) (m:=2147483648) (by omega) (by omega);have s4:=fY (x:=eW c d) (m:=1073741824) (by omega) (by omega);have t1:=fY (x:=gL a b) (m:=eW a b) n1.1 n1.2.1;have t2:=fY (x:=gL c d) (m:=eW c d) n2.1 n2.2.1;rw [hyp_eq h1 h2 h3 h4 h5 h6];dsimp only;have r1:=CB (n:=gL a b*gL a b+gL c d*gL c d) (by omega) (by omega);have r2:=CB (n:=eW a b*eW a b+eW c d*eW c d) (by omega) (by omega);have u2:=upr_ok (n:=eW a b*eW a b+eW c d*eW c d) (by omega) (by omega);have le:bO (gL a b*gL a b+gL c d*gL c d)≤bO (eW a b*eW a b+eW c d*eW c d):=by
  rcases akZ (bO (eW a b*eW a b+eW c d*eW c d)) (bO (gL a b*gL a b+gL c d*gL c d)) with h | h
  ·exfalso;have:=fY (x:=bO (eW a b*eW a b+eW c d*eW c d)+1) (m:=bO (gL a b*gL a b+gL c d*gL c d)) (by omega) (by omega);omega
  ·exact h
 omega
theorem nr_hold {a b:Int} {X e:Rat} (hab:a≤b) (he:0≤e) (he1:e≤1) (hX:-4294967296≤X∧X≤4294967296) (hb:-2147483648≤a∧b≤2147483648) (h:Hs e a b X):(gL a b:Rat)*(gL a b:Rat)≤X*X+17179869184*e∧X*X≤(eW a b:Rat)*(eW a b:Rat)+17179869184*e:=by
 have sx:=lK X;unfold Hs at h;have A:=cQ hb.1;have B:=cQ hb.2;have zA:((-2147483648:Int):Rat)=-2147483648:=rfl;have zB:((2147483648:Int):Rat)=2147483648:=rfl;rw [zA] at A;rw [zB] at B;have AB:=cQ hab;constructor
 ·unfold gL;split
  ·rename_i c;have c':=GJ c;rw [show ((0:Int):Rat)=0 by rfl] at c';rcases (adJ:(a:Rat)≤X∨X≤(a:Rat)) with k | k
   ·have:=aaZ (show 0≤X-(a:Rat) by grind) (show 0≤X+(a:Rat) by grind);grind
   ·have m:=aaZ (show 0≤X-((a:Rat)-e) by grind) (show 0≤X+(a:Rat) by grind);have m2:=aaZ he (show 0≤17179869184-(X+(a:Rat)) by grind);grind
  ·split
   ·rename_i c;have c':=GJ c;rw [show ((0:Int):Rat)=0 by rfl] at c';rw [afZ];rcases (adJ:X≤(b:Rat)∨(b:Rat)≤X) with k | k
    ·have:=aaZ (show 0≤(b:Rat)-X by grind) (show 0≤-X-(b:Rat) by grind);grind
    ·have m:=aaZ (show 0≤(b:Rat)+e-X by grind) (show 0≤-X-(b:Rat) by grind);have m2:=aaZ he (show 0≤17179869184-(-X-(b:Rat)) by grind);grind
   ·rw [show ((0:Int):Rat)=0 by rfl];grind
 ·have n:=BV hab;have n1:=cQ n.2.2.1;have n2:=cQ n.2.2.2.1;rw [afZ] at n1;have n3:(eW a b:Rat)≤2147483648:=cQ (b:=2147483648) (by omega);have n0:0≤(eW a b:Rat):=cQ (a:=0) (by omega);generalize (eW a b:Rat)=f at*;have m:=aaZ (show 0≤f+e-X by grind) (show 0≤f+e+X by grind);have m2:=aaZ he (show 0≤17179869184-2*f-e by grind);grind
theorem hyp_hold {a b c d:Int} {X Y ρ e τ σ:Rat} (h1:-2147483648≤a) (h2:a≤b) (h3:b≤2147483648) (h4:-1073741824≤c) (h5:c≤d) (h6:d≤1073741824)
  (he:0≤e) (he1:e≤1) (hX:-4294967296≤X∧X≤4294967296) (hY:-4294967296≤Y∧Y≤4294967296) (vX:Hs e a b X) (vY:Hs e c d Y)
  (hr0:0≤ρ) (hr1:ρ≤1073741824+σ) (hu:Cl (τ/2) (X*X+Y*Y) (ρ*ρ)) (ht:68719476736*e≤τ/2) (ht0:0≤τ) (hts:τ≤σ*σ) (hs0:0≤σ) (hs1:τ≤σ):
  Hs σ (iV a b c d).1 (iV a b c d).2 ρ:=by
 have n1:=BV h2;have n2:=BV h5;have s1:=fY (x:=gL a b) (m:=2147483648) n1.1 (by omega);have s2:=fY (x:=gL c d) (m:=1073741824) n2.1 (by omega);have s3:=fY (x:=eW a b) (m:=2147483648) (by omega) (by omega);have s4:=fY (x:=eW c d) (m:=1073741824) (by omega) (by omega);have r1:=CB (n:=gL a b*gL a b+gL c d*gL c d) (by omega) (by omega);have u2:=upr_ok (n:=eW a b*eW a b+eW c d*eW c d) (by omega) (by omega);have r2:=CB (n:=eW a b*eW a b+eW c d*eW c d) (by omega) (by omega);have kX:=nr_hold h2 he he1 hX ⟨h1,h3⟩ vX;have kY:=nr_hold h5 he he1 hY ⟨by omega,by omega⟩ vY;rw [hyp_eq h1 h2 h3 h4 h5 h6];clear s1 s2 s3 s4;have c1:=cQ r1.2.1;have c2:=cQ u2.2.1;rw [abJ,adQ,abJ,abJ] at c1;rw [abJ,adQ,abJ,abJ] at c2;have p1:=cQ r1.1;have p2:=cQ (show 0≤IZ (eW a b*eW a b+eW c d*eW c d) by omega);rw [show ((0:Int):Rat)=0 by rfl] at p1 p2;have i1:bO (gL a b*gL a b+gL c d*gL c d)=0∨(1:Rat)≤(bO (gL a b*gL a b+gL c d*gL c d):Rat):=by
  rcases apZ r1.1 with h | h
  ·right;have:=GJ h;rw [show ((0:Int):Rat)=0 by rfl] at this;grind
  ·left;omega
 have i2:IZ (eW a b*eW a b+eW c d*eW c d)=0∨(1:Rat)≤(IZ (eW a b*eW a b+eW c d*eW c d):Rat):=by
  rcases apZ (show 0≤IZ (eW a b*eW a b+eW c d*eW c d) by omega) with h | h
  ·right;have:=GJ h;rw [show ((0:Int):Rat)=0 by rfl] at this;grind
  ·left;omega
 clear r1 u2 r2;generalize bO (gL a b*gL a b+gL c d*gL c d)=lo at*;generalize IZ (eW a b*eW a b+eW c d*eW c d)=hi at*;unfold Cl at hu;unfold Hs;dsimp only;have m0:((min lo 1073741824:Int):Rat)≤(lo:Rat):=cQ (by omega);have m1:((min hi 1073741824:Int):Rat)=(hi:Rat)∨((min hi 1073741824:Int):Rat)=1073741824:=by
  rcases Int.le_total hi 1073741824 with h | h
  ·left;rw [Int.min_eq_left h]
  ·right;rw [Int.min_eq_right h];rfl
 generalize ((min lo 1073741824:Int):Rat)=l' at*;generalize ((min hi 1073741824:Int):Rat)=h' at*;generalize (gL a b:Rat)*(gL a b:Rat)=w1 at*;generalize (gL c d:Rat)*(gL c d:Rat)=w2 at*;generalize (eW a b:Rat)*(eW a b:Rat)=w3 at*;generalize (eW c d:Rat)*(eW c d:Rat)=w4 at*;generalize X*X=x2 at*;generalize Y*Y=y2 at*;constructor
 ·rcases i1 with i1 | i1
  ·rw [i1,show ((0:Int):Rat)=0 by rfl] at m0;grind
  ·rcases (adJ:(lo:Rat)≤ρ+τ∨ρ+τ≤(lo:Rat)) with k | k
   ·grind
   ·have m:=aaZ (show 0≤(lo:Rat)-(ρ+τ) by grind) (show 0≤(lo:Rat)+ρ by grind);have m2:=aaZ ht0 (show 0≤(lo:Rat)+ρ-1 by grind);have m3:(lo:Rat)*(lo:Rat)-ρ*ρ≤τ:=by grind
    have m4:((lo:Rat)-(ρ+τ))*((lo:Rat)+ρ)≤0:=by grind
    have m5:((lo:Rat)-(ρ+τ))*((lo:Rat)+ρ)=0:=by grind
    rcases axQ.1 m5 with q | q
    ·grind
    ·grind
 ·rcases m1 with m1 | m1
  ·rw [m1];rcases i2 with i2 | i2
   ·rw [i2,show ((0:Int):Rat)=0 by rfl] at c2 ⊢;have:=kH (z:=ρ) (f:=σ) (e:=τ) hs0 (by grind) hts;grind
   ·rcases (adJ:ρ≤(hi:Rat)+τ∨(hi:Rat)+τ≤ρ) with k | k
    ·grind
    ·have m:=aaZ (show 0≤ρ-((hi:Rat)+τ) by grind) (show 0≤(hi:Rat)+ρ by grind);have m2:=aaZ ht0 (show 0≤(hi:Rat)+ρ-1 by grind);have m3:ρ*ρ-(hi:Rat)*(hi:Rat)≤τ:=by grind
     have m4:(ρ-((hi:Rat)+τ))*((hi:Rat)+ρ)≤0:=by grind
     have m5:(ρ-((hi:Rat)+τ))*((hi:Rat)+ρ)=0:=by grind
     rcases axQ.1 m5 with q | q
     ·grind
     ·grind
  ·rw [m1];grind
theorem ce_zero {x:Int} (h:0<x) (h1:x≤2147483648):ce x 0=0:=by
 have a:=fl_neg (x:=x) (y:=0) ⟨h,h1,by omega,by omega⟩;have b:=RZ h h1;rw [Int.neg_zero,b] at a;omega
theorem yZ {a b k l:Int} (hv:aG a b=true) (hk:aG k l=true) (k0:0≤k) (ho:cM a b k l=false):
  ((aQ a b k l).1≤5400000∧(aQ a b k l).2.1≤5400000)∨(16200000≤(aQ a b k l).1∧(aQ a b k l).2.1≤27000000):=by
 have v:=fR hv;have w:=fR hk;rcases apZ k0 with h | h
 ·have e:=nH (j:=0) hk hv ho (by omega) (show jD a b k l 0=(a,b,k,l) from rfl) h;have o:=xD (y0:=a) (y1:=b) (x0:=k) (x1:=l) h w.2.1 v.2.1 w.2.2 v.1 v.2.2;rw [e];dsimp only;omega
 ·have o0:¬(k≤0∧0≤l∧a≤0∧0≤b):=by
   simp only [cM,decide_eq_false_iff_not] at ho;exact ho
  rcases (show 0<a∨b<0 by omega) with h2 | h2
  ·have e:=nH (j:=1) hk hv ho (by omega) (show jD a b k l 1=(-l,-k,a,b) from rfl) h2;have o:=xD (y0:=-l) (y1:=-k) (x0:=a) (x1:=b) h2 v.2.1 (by omega) v.2.2 (by omega) (by omega);have z:KN (-k) a b=0:=by
    unfold KN;rw [←h,if_pos (by omega)];exact ce_zero h2 (by omega)
   rw [e];dsimp only;omega
  ·have e:=nH (j:=3) hk hv ho (by omega) (show jD a b k l 3=(k,l,-b,-a) from rfl) (by omega);have o:=xD (y0:=k) (y1:=l) (x0:=-b) (x1:=-a) (by omega) (by omega) (by omega) (by omega) (by omega) (by omega);have z:yL k (-b) (-a)=0:=by
    unfold yL;rw [←h,if_pos (by omega)];exact RZ (by omega) (by omega)
   rw [e];dsimp only;omega
def GK (r:Int×Int×Int):Int×Int:=if 10800000≤r.1 then (r.1-21600000,r.2.1-21600000) else (r.1,r.2.1)
theorem nb_bd {r:Int×Int×Int} (hd:qT r) (h:(r.1≤5400000∧r.2.1≤5400000)∨(16200000≤r.1∧r.2.1≤27000000)):-5400000≤(GK r).1∧(GK r).1≤(GK r).2∧(GK r).2≤5400000:=by
 obtain ⟨d1,d2,d3,d4,d5⟩:=hd;unfold GK;split
 ·dsimp only;omega
 ·dsimp only;omega
theorem nb_hold {r:Int×Int×Int} {d q:Rat} (hd:qT r) (h:(r.1≤5400000∧r.2.1≤5400000)∨(16200000≤r.1∧r.2.1≤27000000)) (_d0:0≤d) (d1:d≤1) (q0:-5400000≤q) (q1:q≤5400000) (k:Dr d r.1 r.2.1 q):Hs d (GK r).1 (GK r).2 q:=by
 obtain ⟨e1,e2,e3,e4,e5⟩:=hd;obtain ⟨m,k⟩:=k;have z:∀n:Int,((n:Int):Rat)=(n:Rat):=fun _=>rfl;unfold Hs at k;rcases h with ⟨h1,h2⟩ | ⟨h1,h2⟩
 ·have hm:m=0:=by
   have a1:=cQ e1;have a2:=cQ h2;rw [show ((0:Int):Rat)=0 by rfl] at a1;rw [show ((5400000:Int):Rat)=5400000 by rfl] at a2;rcases alX m 0 with q | q | q
   ·have:=GJ q;rw [show ((0:Int):Rat)=0 by rfl] at this;grind
   ·exact q
   ·have:=GJ q;rw [show ((0:Int):Rat)=0 by rfl] at this;grind
  subst hm;rw [show ((0:Int):Rat)=0 by rfl] at k;unfold GK Hs;rw [if_neg (by omega)];dsimp only;constructor<;>grind
 ·have hm:m=1:=by
   have a1:=cQ h1;have a2:=cQ h2;rw [show ((16200000:Int):Rat)=16200000 by rfl] at a1;rw [show ((27000000:Int):Rat)=27000000 by rfl] at a2;rcases alX m 1 with q | q | q
   ·have:=GJ q;rw [show ((1:Int):Rat)=1 by rfl] at this;grind
   ·exact q
   ·have:=GJ q;rw [show ((1:Int):Rat)=1 by rfl] at this;grind
  subst hm;rw [show ((1:Int):Rat)=1 by rfl] at k;unfold GK Hs;rw [if_pos (by omega)];dsimp only;rw [acZ,acZ,show ((21600000:Int):Rat)=21600000 by rfl];constructor<;>grind
noncomputable def alT (a b k l:Int):Int×Int×Int:=
 if cM a b k l=true then ((aV a b).1,(aV a b).2.1,0) else (mx (GK (aQ a b k l)).1 (aV a b).1,mn (GK (aQ a b k l)).2 (aV a b).2.1,0)
theorem ZD {p q r s:Int} (h1:-100000000≤p) (h2:p≤q) (h3:q≤100000000) (h4:-100000000≤r) (h5:r≤s) (h6:s≤100000000) (h7:p≤s) (h8:r≤q):dF p q r s=(mx p r,mn q s,0):=by
 unfold dF;rw [if_pos ⟨bE (by omega) h2 (by omega),bE (by omega) h5 (by omega)⟩,if_neg];unfold mx mn;split<;>split<;>omega
theorem alt_ok {a b c d e f:Int} (hv:aG a b=true) (hl:xZ (aV a b)) (hk:0≤(iV c d e f).1∧(iV c d e f).1≤(iV c d e f).2∧(iV c d e f).2≤1073741824)
  (hm:cM a b (iV c d e f).1 (iV c d e f).2=false→(GK (aQ a b (iV c d e f).1 (iV c d e f).2)).1≤(aV a b).2.1∧(aV a b).1≤(GK (aQ a b (iV c d e f).1 (iV c d e f).2)).2):
  VD a b c d e f=alT a b (iV c d e f).1 (iV c d e f).2:=by
 have z:((0:Int) != 0)=false:=rfl;unfold VD VE;simp only [lt];generalize iV c d e f=k at*;obtain ⟨k1,k2⟩:=k;dsimp only at*;have kv:aG k1 k2=true:=dH (by omega) (by omega) (by omega);have D:=jJ hv kv;rw [hl.2.2.2,z,cond_false];have key:cM a b k1 k2=false→(cond ((aQ a b k1 k2).2.2 != 0) (0,0,(aQ a b k1 k2).2.2) (cond (decide ((aQ a b k1 k2).1≥10800000))
   ((dF (i64.wrap ((aQ a b k1 k2).1-21600000)) (i64.wrap ((aQ a b k1 k2).2.1-21600000)) (aV a b).1 (aV a b).2.1).1,(dF (i64.wrap ((aQ a b k1 k2).1-21600000)) (i64.wrap ((aQ a b k1 k2).2.1-21600000)) (aV a b).1 (aV a b).2.1).2.1,(dF (i64.wrap ((aQ a b k1 k2).1-21600000)) (i64.wrap ((aQ a b k1 k2).2.1-21600000)) (aV a b).1 (aV a b).2.1).2.2)
   ((dF (aQ a b k1 k2).1 (aQ a b k1 k2).2.1 (aV a b).1 (aV a b).2.1).1,(dF (aQ a b k1 k2).1 (aQ a b k1 k2).2.1 (aV a b).1 (aV a b).2.1).2.1,(dF (aQ a b k1 k2).1 (aQ a b k1 k2).2.1 (aV a b).1 (aV a b).2.1).2.2)))=alT a b k1 k2:=fun ho=>by
  have B:=yZ hv kv hk.1 ho;have n:=nb_bd D B;have m:=hm ho;unfold alT;rw [ho];obtain ⟨d1,d2,d3,d4,d5⟩:=D;obtain ⟨l1,l2,l3,l4⟩:=hl;unfold GK at n m ⊢;generalize aQ a b k1 k2=r at*;rw [d5,z,cond_false];simp only [Bool.false_eq_true,if_false];by_cases c:10800000≤r.1
  ·rw [if_pos c] at n m ⊢;dsimp only at n m ⊢;rw [decide_eq_true (show r.1≥10800000 from c),cond_true,aX (by omega),aX (by omega),ZD (by omega) (by omega) (by omega) (by omega) l2 (by omega) m.1 m.2]
  ·rw [if_neg c] at n m ⊢;dsimp only at n m ⊢;rw [decide_eq_false (show ¬r.1≥10800000 from c),cond_false,ZD (by omega) (by omega) (by omega) (by omega) l2 (by omega) m.1 m.2]
 by_cases c1:k1=0
 ·subst c1;rw [show ((0:Int)==0)=true from rfl,cond_true];by_cases c2:a≤0
  ·rw [decide_eq_true c2,cond_true];by_cases c3:b≥0
   ·rw [decide_eq_true c3,cond_true];have ho:cM a b 0 k2=true:=decide_eq_true (by omega);unfold alT;rw [ho];rfl
   ·rw [decide_eq_false c3,cond_false];exact key (decide_eq_false (by omega))
  ·rw [decide_eq_false c2,cond_false];exact key (decide_eq_false (by omega))
 ·rw [beq_eq_false_iff_ne.2 c1,cond_false];exact key (decide_eq_false (by omega))
def xE (c d e f:Int):Int×Int×Int:=bT (aN c d).1 (aN c d).2.1 (aN e f).1 (aN e f).2.1
def wE (c d e f:Int):Int×Int×Int:=bT (aN c d).1 (aN c d).2.1 (aW e f).1 (aW e f).2.1
def fP (a b c d e f:Int):Int×Int×Int:=
 let m:=bT (xE c d e f).1 (xE c d e f).2.1 (aN a b).1 (aN a b).2.1
 let n:=bT (aW c d).1 (aW c d).2.1 (aW a b).1 (aW a b).2.1
 fS m.1 m.2.1 n.1 n.2.1
def yB (a b c d e f:Int):Int×Int×Int:=
 let m:=bT (aW c d).1 (aW c d).2.1 (aN a b).1 (aN a b).2.1
 let n:=bT (xE c d e f).1 (xE c d e f).2.1 (aW a b).1 (aW a b).2.1
 mQ m.1 m.2.1 n.1 n.2.1
def ZB (c d e f:Int):Int×Int×Int:=mK (wE c d e f).1 (wE c d e f).2.1
noncomputable def wB (a b c d e f:Int):Int×Int:=iV (yB a b c d e f).1 (yB a b c d e f).2.1 (wE c d e f).1 (wE c d e f).2.1
noncomputable def BR (a b c d e f:Int):Int×Int×Int:=alT (fP a b c d e f).1 (fP a b c d e f).2.1 (wB a b c d e f).1 (wB a b c d e f).2
def PK (a b c d e f:Int):Int×Int×Int:=aQ (ZB c d e f).1 (ZB c d e f).2.1 (yB a b c d e f).1 (yB a b c d e f).2.1
theorem mup_v {a b c d e f:Int} {x y t:Rat} (h:cS a b c d e f=true) (hx:Hs 0 a b x) (hy:Hs 0 c d y) (ht:Hs 0 e f t):
  Vl (fP a b c d e f) (1000*e1) (yE x y t)∧Vl (yB a b c d e f) (1000*e1) (yC x y t)∧Vl (wE c d e f) (1000*e1) (co y*si t)∧Vl (ZB c d e f) (1000*e1) (IA y t):=by
 obtain ⟨h1,h2,h3⟩:=eB h;have l1:=(bV h1).1;have l2:=(bV h2).1;obtain ⟨w1,w2,w3,w4,w5,w6,w7,w8,w9,w10,w11⟩:=lv;have s1:=bG l1;have c1:=aU l1;have s2:=bG l2;have c2:=aU l2;have s3:=bG h3;have c3:=aU h3;have S1:=pR l1 hx;have C1:=mG l1 hx;have S2:=pR l2 hy;have C2:=mG l2 hy;have S3:=pR h3 ht;have C3:=mG h3 ht;have x1:=jK c2 c3 (by grind) (by grind) C2 C3;have m1:=jK (aR c2 c3) c1 (e:=3*(5*e1)) (by grind) (by grind) x1 (C1.wide (by grind));have m2:=jK s2 s1 (by grind) (by grind) S2 S1;have m3:=jK s2 c1 (by grind) (by grind) S2 C1;have m4:=jK (aR c2 c3) s1 (e:=3*(5*e1)) (by grind) (by grind) x1 (S1.wide (by grind));have m5:=jK c2 s3 (by grind) (by grind) C2 S3;refine ⟨?_,?_,?_,?_⟩
 ·rw [show yE x y t=co y*co t*co x+si y*si x by unfold yE;grind];exact (add_v (aR (aR c2 c3) c1) (aR s2 s1) m1 m2).wide (by grind)
 ·exact (sub_v (aR s2 c1) (aR (aR c2 c3) s1) m3 m4).wide (by grind)
 ·exact m5.wide (by grind)
 ·exact (neg_v (aR c2 s3) m5).wide (by grind)
def sM:Rat:=pw 570
def tM:Rat:=pw 1140
theorem lvM:0≤tM∧tM≤sM*sM∧0≤sM∧tM≤sM∧68719476736*(1000*e1)≤tM/2∧1073741824*1073741824*(100*e0)≤tM/2∧1073741824*e0≤sM/2∧sM+1073741824*(100*eT)≤1/2^91∧2^64*(sM+1073741824*(100*eT)+2*e1)≤dS∧1000*e1≤sM∧1000*e1≤1∧1073741824*(2*e0)≤sM/2∧5*e0≤eT:=by decide+kernel
theorem sq_aux {x1 x2 x3 x4 x5 x6:Rat} (sp:Cl (e0/2) (x3+(x1+x2)) 1) (m:Cl (2*(5*e0)+3*(5*e0)) x4 x3) (un:Cl (8192*u0) (x5+x4) 1) (rr:Cl (2*e0) x6 x5):Cl (50*e0) (x1+x2) x6:=by
 have ee:e0=1048576*u0:=rfl;have u:=cT.1;unfold Cl at*;generalize u0=v at*;generalize e0=w at*;constructor<;>grind
theorem bn_aux {N W r:Rat} (r0:0≤r) (r1:r≤5/4) (sq:Cl (50*e0) (N*N+W*W) (r*r)):-4≤N∧N≤4:=by
 have eb:=eR;have s2:=lK W;have rr2:r*r≤2:=by
  have:=aaZ (show 0≤5/4-r by grind) (show 0≤5/4+r by grind);grind
 have q:N/2*(N/2)≤2:=by
  unfold Cl at sq;have k:=sq.2;have e:N/2*(N/2)=N*N/4:=by grind
  rw [e];generalize r*r=x6 at*;generalize W*W=x2 at*;generalize N*N=x1 at*;grind
 have:=UN q;constructor<;>grind
theorem neg_aux {x:Rat} (h0:-e0≤x) (h1:x≤0):Cl e0 0 x∧Cl (2*e0) (0*0) (x*x):=by
 have eb:=eR;have m:=aM (a:=x) (b:=x) (A:=e0) (B:=1) (by grind) (by grind) (by grind) (by grind);unfold Cl;refine ⟨⟨?_,?_⟩,?_,?_⟩<;>grind
theorem hy_v {a b c d e f:Int} {x y t h' z':Rat} (h:cS a b c d e f=true) (hx:Hs 0 a b x) (hy:Hs 0 c d y) (ht:Hs 0 e f t) (s:sA x y t h' z'):
  0≤(wB a b c d e f).1∧(wB a b c d e f).1≤(wB a b c d e f).2∧(wB a b c d e f).2≤1073741824∧Hs (2*sM) (wB a b c d e f).1 (wB a b c d e f).2 (1073741824*co h'):=by
 obtain ⟨w1,w2,w3,w4,w5,w6,w7,w8,w9,w10,w11,w12,w13⟩:=lvM;have eb:=eR;have e1b:=iR;have ee:e0=1048576*u0:=rfl;have u:=cT;obtain ⟨v1,v2,v3,v4⟩:=mup_v h hx hy ht;obtain ⟨h0,h1,z0,z1,k1,k2,k3⟩:=s;obtain ⟨g1,g2,g3⟩:=eB h;have W:=aR (aU (bV g2).1) (bG g3);have wv:-1073741824≤(wE c d e f).1∧(wE c d e f).1≤(wE c d e f).2.1∧(wE c d e f).2.1≤1073741824:=⟨W.1,W.2.1,W.2.2.1⟩;have nv:=fR v2.2.1;have bd:=hyp_bd nv.1 nv.2.1 nv.2.2 wv.1 wv.2.1 wv.2.2;refine ⟨bd.1,bd.2.1,bd.2.2,?_⟩;have cl:=sJ h0 h1;have bh:=bdq h';obtain ⟨r,r0,r1,rc,rr⟩:∃r:Rat,0≤r∧r≤1+8192*u0∧Cl e0 r (co h')∧Cl (2*e0) (r*r) (co h'*co h'):=by
  rcases (adJ:0≤co h'∨co h'≤0) with c | c
  ·exact ⟨co h',c,by grind,Cl.refl _ (by grind),Cl.refl _ (by grind)⟩
  ·exact ⟨0,by grind,by grind,(neg_aux cl.1 c).1,(neg_aux cl.1 c).2⟩
 have sp:=sphere x y t;have un:=EM h';have b2:=iN h';have m:=Cl.mul 2 3 k1 k1 b2.2 (by unfold Cl at k1;constructor<;>grind);have sq:Cl (50*e0) (yC x y t*yC x y t+co y*si t*(co y*si t)) (r*r):=by
  have e:IA y t*IA y t=co y*si t*(co y*si t):=by unfold IA;grind
  rw [e] at sp;exact sq_aux sp m un rr
 have bn:=bn_aux r0 (by grind) sq;have bw:-4≤co y*si t∧co y*si t≤4:=by
  have by2:=iN y;have bt2:=iN t;have:=aM by2.1.1 by2.1.2 bt2.2.1 bt2.2.2;constructor<;>grind
 have k:=hyp_hold (X:=1073741824*yC x y t) (Y:=1073741824*(co y*si t)) (ρ:=1073741824*r) (e:=1000*e1) (τ:=tM) (σ:=sM) nv.1 nv.2.1 nv.2.2 wv.1 wv.2.1 wv.2.2 (by grind) w11 (by constructor<;>grind) (by constructor<;>grind) v2.2.2 v3.2.2 (by grind) (by grind) ?_ w5 w1 w2 w3 w4
 ·have n:=k.near (f:=sM) (Y:=1073741824*co h') (by
   unfold Cl at rc ⊢;constructor<;>grind)
  exact n.wide (by grind) (aeX _) (aeX _)
 ·unfold Cl at sq ⊢;rw [show 1073741824*yC x y t*(1073741824*yC x y t)=1073741824*1073741824*(yC x y t*yC x y t) by grind,show 1073741824*(co y*si t)*(1073741824*(co y*si t))=1073741824*1073741824*(co y*si t*(co y*si t)) by grind,show 1073741824*r*(1073741824*r)=1073741824*1073741824*(r*r) by grind];clear bn bw m sp un;generalize yC x y t*yC x y t=x1 at*;generalize co y*si t*(co y*si t)=x2 at*;generalize r*r=x3 at*;constructor<;>grind
theorem lvN:2*sM+1073741824*eT≤1/2^91∧2^64*(2*sM+1073741824*eT+2*e1)≤dS∧dS≤1:=by decide+kernel
theorem malt_v {a b c d e f:Int} {x y t h' z':Rat} (h:cS a b c d e f=true) (hx:Hs 0 a b x) (hy:Hs 0 c d y) (ht:Hs 0 e f t) (s:sA x y t h' z'):
  xZ (aV (fP a b c d e f).1 (fP a b c d e f).2.1)∧Hs dS (aV (fP a b c d e f).1 (fP a b c d e f).2.1).1 (aV (fP a b c d e f).1 (fP a b c d e f).2.1).2.1 h'∧
   (cM (fP a b c d e f).1 (fP a b c d e f).2.1 (wB a b c d e f).1 (wB a b c d e f).2=false→Hs dS (GK (aQ (fP a b c d e f).1 (fP a b c d e f).2.1 (wB a b c d e f).1 (wB a b c d e f).2)).1 (GK (aQ (fP a b c d e f).1 (fP a b c d e f).2.1 (wB a b c d e f).1 (wB a b c d e f).2)).2 h'∧
    -5400000≤(GK (aQ (fP a b c d e f).1 (fP a b c d e f).2.1 (wB a b c d e f).1 (wB a b c d e f).2)).1∧(GK (aQ (fP a b c d e f).1 (fP a b c d e f).2.1 (wB a b c d e f).1 (wB a b c d e f).2)).1≤(GK (aQ (fP a b c d e f).1 (fP a b c d e f).2.1 (wB a b c d e f).1 (wB a b c d e f).2)).2∧(GK (aQ (fP a b c d e f).1 (fP a b c d e f).2.1 (wB a b c d e f).1 (wB a b c d e f).2)).2≤5400000):=by
 obtain ⟨w1,w2,w3,w4,w5,w6,w7,w8,w9,w10,w11,w12,w13⟩:=lvM;have eb:=eR;have e1b:=iR;obtain ⟨v1,v2,v3,v4⟩:=mup_v h hx hy ht;have u:=up_v v1 s;obtain ⟨k0,k1,k2,kh⟩:=hy_v h hx hy ht s;refine ⟨u.1,u.2,fun ho=>?_⟩;obtain ⟨h0,h1,z0,z1,q1,q2,q3⟩:=s;generalize fP a b c d e f=U at*;generalize wB a b c d e f=K at*;have kv:aG K.1 K.2=true:=dH (by omega) k1 (by omega);have vk:Vl (K.1,K.2,(0:Int)) (2*sM) (co h'):=⟨rfl,kv,kh⟩;have B:=yZ v1.2.1 kv k0 ho;have dd:=lv.2.2.1;have t0:=lv.2.1;have b:=CY (r:=U) (s:=(K.1,K.2,(0:Int))) (q:=h') (ρ:=1) (e:=2*sM) (t:=eT) (v1.wide (by grind)) vk (by rw [show 1*si h'=si h' by grind];exact q1.wide w13) (by rw [show 1*co h'=co h' by grind];exact Cl.refl _ (by grind)) (by grind) (by grind) (by grind) (by grind) lvN.1;have n:=nb_bd b.1 B;have hh:=nb_hold b.1 B (by grind) lvN.2.2 h0 h1 (b.2.wide lvN.2.1);exact ⟨hh,n⟩
theorem mx_mn (p q r s:Int):p≤mx p q∧q≤mx p q∧(mx p q=p∨mx p q=q)∧mn r s≤r∧mn r s≤s∧(mn r s=r∨mn r s=s):=by
 unfold mx mn;split<;>split<;>omega
theorem PJ {a b c d e f:Int} (h:cS a b c d e f=true):qD a b c d e f=((BR a b c d e f).1,(BR a b c d e f).2.1,(PK a b c d e f).1,(PK a b c d e f).2.1,0)∧Hold a b c d e f (BR a b c d e f) (PK a b c d e f):=by
 obtain ⟨h1,h2,h3⟩:=eB h;have l1:=bV h1;have l2:=bV h2;have l3:=dG h3;have ds:dS+dS<1:=by decide+kernel
 have x0:=Hs.at (aeX a) (show a≤b by omega);have y0:=Hs.at (aeX c) (show c≤d by omega);have t0:=Hs.at (aeX e) (show e≤f by omega);obtain ⟨h',z',s'⟩:=sees a c e;obtain ⟨v1,v2,v3,v4⟩:=mup_v h x0 y0 t0;obtain ⟨L,hu,hn⟩:=malt_v h x0 y0 t0 s';have K:=hy_v h x0 y0 t0 s';have D:=(az_v v4 v2 s').1;have ak:VD (fP a b c d e f).1 (fP a b c d e f).2.1 (yB a b c d e f).1 (yB a b c d e f).2.1 (wE c d e f).1 (wE c d e f).2.1=BR a b c d e f:=
  alt_ok v1.2.1 L ⟨K.1,K.2.1,K.2.2.1⟩ (fun ho=>(hn ho).1.meet hu ds)
 have LH:xZ (BR a b c d e f):=by
  unfold BR alT;split
  ·exact ⟨L.1,L.2.1,L.2.2.1,rfl⟩
  ·rename_i ho;have ho:cM (fP a b c d e f).1 (fP a b c d e f).2.1 (wB a b c d e f).1 (wB a b c d e f).2=false:=by simpa using ho
   obtain ⟨n1,n2,n3,n4⟩:=hn ho;have m:=n1.meet hu ds;obtain ⟨q1,q2,q3,q4⟩:=L;unfold xZ;dsimp only;have x:=mx_mn (GK (aQ (fP a b c d e f).1 (fP a b c d e f).2.1 (wB a b c d e f).1 (wB a b c d e f).2)).1 (aV (fP a b c d e f).1 (fP a b c d e f).2.1).1 (GK (aQ (fP a b c d e f).1 (fP a b c d e f).2.1 (wB a b c d e f).1 (wB a b c d e f).2)).2 (aV (fP a b c d e f).1 (fP a b c d e f).2.1).2.1;refine ⟨by omega,by omega,by omega,rfl⟩
 refine ⟨?_,LH,D,CX v4.2.1 v2.2.1,?_,?_⟩
 ·have z:((0:Int) != 0)=false:=rfl;unfold qD DT;rw [h];simp only [lt,GD,QU,GC,QS,wY,CO,QR,xaddC,QV,xsubC,QT,xnegC,Bool.not_true,cond_false];have s1:=bG l1.1;have c1:=aU l1.1;have s2:=bG l2.1;have c2:=aU l2.1;have s3:=bG h3;have c3:=aU h3;rw [←ak];have ez:PK a b c d e f=aQ (ZB c d e f).1 (ZB c d e f).2.1 (yB a b c d e f).1 (yB a b c d e f).2.1:=rfl;rw [ez];have LH2:=LH.2.2.2;rw [←ak] at LH2;have D2:=D.2.2.2.2;clear hn hu K L LH D v1 v2 v3 v4 s' x0 y0 t0 ez ak;have exE:bT (aN c d).1 (aN c d).2.1 (aN e f).1 (aN e f).2.1=xE c d e f:=rfl;have ewE:bT (aN c d).1 (aN c d).2.1 (aW e f).1 (aW e f).2.1=wE c d e f:=rfl;have xo:fJ (xE c d e f):=aR c2 c3;have wo:fJ (wE c d e f):=aR c2 s3;rw [exE,ewE];have m1:=aR xo c1;have m2:=aR s2 s1;have m3:=aR s2 c1;have m4:=aR xo s1;have a1:=uX m1 m2;have a2:=CJ m3 m4;have a3:=BT wo;have eu:fS (bT (xE c d e f).1 (xE c d e f).2.1 (aN a b).1 (aN a b).2.1).1 (bT (xE c d e f).1 (xE c d e f).2.1 (aN a b).1 (aN a b).2.1).2.1 (bT (aW c d).1 (aW c d).2.1 (aW a b).1 (aW a b).2.1).1 (bT (aW c d).1 (aW c d).2.1 (aW a b).1 (aW a b).2.1).2.1=fP a b c d e f:=rfl;have en:mQ (bT (aW c d).1 (aW c d).2.1 (aN a b).1 (aN a b).2.1).1 (bT (aW c d).1 (aW c d).2.1 (aN a b).1 (aN a b).2.1).2.1 (bT (xE c d e f).1 (xE c d e f).2.1 (aW a b).1 (aW a b).2.1).1 (bT (xE c d e f).1 (xE c d e f).2.1 (aW a b).1 (aW a b).2.1).2.1=yB a b c d e f:=rfl;have eg:mK (wE c d e f).1 (wE c d e f).2.1=ZB c d e f:=rfl;rw [eu,en,eg];have u0':(fP a b c d e f).2.2=0:=by rw [←eu,a1.1]
  have n0':(yB a b c d e f).2.2=0:=by rw [←en,a2.1]
  have g0':(ZB c d e f).2.2=0:=by rw [←eg,a3.1]
  rw [s1.2.2.2,c1.2.2.2,s2.2.2.2,c2.2.2.2,s3.2.2.2,c3.2.2.2,xo.2.2.2,wo.2.2.2,m1.2.2.2,m2.2.2.2,m3.2.2.2,m4.2.2.2,u0',n0',g0'];simp only [LC,z,cond_false];rw [LH2,D2,z];rfl
 ·intro x y t hx hy ht h'' z'' s'';obtain ⟨L',hu',hn'⟩:=malt_v h hx hy ht s'';unfold BR alT;split
  ·exact hu'
  ·rename_i ho;have ho:cM (fP a b c d e f).1 (fP a b c d e f).2.1 (wB a b c d e f).1 (wB a b c d e f).2=false:=by simpa using ho
   obtain ⟨n1,n2,n3,n4⟩:=hn' ho;dsimp only;have x:=mx_mn (GK (aQ (fP a b c d e f).1 (fP a b c d e f).2.1 (wB a b c d e f).1 (wB a b c d e f).2)).1 (aV (fP a b c d e f).1 (fP a b c d e f).2.1).1 (GK (aQ (fP a b c d e f).1 (fP a b c d e f).2.1 (wB a b c d e f).1 (wB a b c d e f).2)).2 (aV (fP a b c d e f).1 (fP a b c d e f).2.1).2.1;unfold Hs at*;constructor
   ·rcases x.2.2.1 with q | q<;>rw [q]
    ·exact n1.1
    ·exact hu'.1
   ·rcases x.2.2.2.2.2 with q | q<;>rw [q]
    ·exact n1.2
    ·exact hu'.2
 ·intro x y t hx hy ht h'' z'' s'';obtain ⟨v1',v2',v3',v4'⟩:=mup_v h hx hy ht;exact (az_v v4' v2' s'').2
end
section
open SM TB TA
open Ev (lt bJ)
noncomputable section
def pU (c d e f:Int):Int×Int×Int:=bT (aN c d).1 (aN c d).2.1 (aW e f).1 (aW e f).2.1
def GL (c d e f:Int):Int×Int×Int:=bT (aN c d).1 (aN c d).2.1 (aN e f).1 (aN e f).2.1
def pV (c d e f:Int):Int×Int×Int:=aV (pU c d e f).1 (pU c d e f).2.1
def uO (c d e f:Int):Int×Int×Int:=aQ (aW c d).1 (aW c d).2.1 (GL c d e f).1 (GL c d e f).2.1
end
theorem div_one {a b c d e f:Int} (h:cS a b c d e f=true):fJ (pU c d e f)∧fJ (GL c d e f)∧xZ (pV c d e f)∧qT (uO c d e f):=by
 obtain ⟨h1,h2,h3⟩:=eB h;have l2:=(bV h2).1;have w:fJ (pU c d e f):=aR (aU l2) (bG h3);have n:fJ (GL c d e f):=aR (aU l2) (aU h3);exact ⟨w,n,VM w,jJ (bG l2).val n.val⟩
noncomputable section
def iU (a b c d e f:Int):Int×Int:=((uO c d e f).1-b,(uO c d e f).2.1-a)
def WL (c d e f:Int):Int×Int×Int:=aN (pV c d e f).1 (pV c d e f).2.1
def caE (a b c d e f:Int):Int×Int×Int:=aN (iU a b c d e f).1 (iU a b c d e f).2
def saE (a b c d e f:Int):Int×Int×Int:=aW (iU a b c d e f).1 (iU a b c d e f).2
def upM (a b c d e f:Int):Int×Int×Int:=bT (WL c d e f).1 (WL c d e f).2.1 (caE a b c d e f).1 (caE a b c d e f).2.1
def noM (a b c d e f:Int):Int×Int×Int:=bT (WL c d e f).1 (WL c d e f).2.1 (saE a b c d e f).1 (saE a b c d e f).2.1
def RD (a b c d e f:Int):Int×Int×Int:=aV (upM a b c d e f).1 (upM a b c d e f).2.1
def eaM (c d e f:Int):Int×Int×Int:=mK (pU c d e f).1 (pU c d e f).2.1
def azE (a b c d e f:Int):Int×Int×Int:=aQ (eaM c d e f).1 (eaM c d e f).2.1 (noM a b c d e f).1 (noM a b c d e f).2.1
end
theorem UF {a b c d e f:Int} (h:cS a b c d e f=true):aF (iU a b c d e f).1 (iU a b c d e f).2=true∧jW (uO c d e f).1 (uO c d e f).2.1 a b=((iU a b c d e f).1,(iU a b c d e f).2,0)∧fJ (WL c d e f)∧fJ (caE a b c d e f)∧fJ (saE a b c d e f)∧fJ (upM a b c d e f)∧fJ (noM a b c d e f)∧xZ (RD a b c d e f)∧fJ (eaM c d e f)∧qT (azE a b c d e f):=by
 obtain ⟨h1,h2,h3⟩:=eB h;have l1:=bV h1;obtain ⟨w,n,p,q⟩:=div_one h;have hv:aF (iU a b c d e f).1 (iU a b c d e f).2=true:=by
  obtain ⟨q1,q2,q3,q4,_⟩:=q;unfold iU;exact bE (by dsimp only;omega) (by dsimp only;omega) (by dsimp only;omega)
 have hs:jW (uO c d e f).1 (uO c d e f).2.1 a b=((iU a b c d e f).1,(iU a b c d e f).2,0):=by
  obtain ⟨q1,q2,q3,q4,_⟩:=q;rw [sD (by omega) q2 (by omega) (by omega) (by omega) (by omega)];rfl
 have k1:fJ (WL c d e f):=aU p.val;have k2:fJ (caE a b c d e f):=aU hv;have k3:fJ (saE a b c d e f):=bG hv;have k4:fJ (upM a b c d e f):=aR k1 k2;have k5:fJ (noM a b c d e f):=aR k1 k3;have k6:fJ (eaM c d e f):=(BT w).2;exact ⟨hv,hs,k1,k2,k3,k4,k5,VM k4,k6,jJ k6.val k5.val⟩
theorem sol_ok {a b c d e f:Int} (h:cS a b c d e f=true):CI a b c d e f=((RD a b c d e f).1,(RD a b c d e f).2.1,(azE a b c d e f).1,(azE a b c d e f).2.1,0):=by
 obtain ⟨h1,h2,h3⟩:=eB h;have l2:=(bV h2).1;obtain ⟨w,n,p,q⟩:=div_one h;obtain ⟨hv,hs,k1,k2,k3,k4,k5,k6,k7,k8⟩:=UF h;unfold CI QH;rw [h];simp only [lt,Bool.not_true,cond_false];have c1:pC 0 c d=0:=by unfold pC;rw [(aU l2).2.2.2];rfl
 have c2:uD 0 e f=0:=by unfold uD;rw [(bG h3).2.2.2];rfl
 have m1:wA 0 (jZ c d).1 (jZ c d).2 (nK e f).1 (nK e f).2=0:=by
  show bJ 0 (pU c d e f).2.2=0;rw [w.2.2.2];rfl
 have v1:rG (jZ c d).1 (jZ c d).2 (nK e f).1 (nK e f).2=((pU c d e f).1,(pU c d e f).2.1):=rfl;have a1:zQ 0 (pU c d e f).1 (pU c d e f).2.1=0:=by
  show bJ 0 (pV c d e f).2.2=0;rw [p.2.2.2];rfl
 have u1:sP (pU c d e f).1 (pU c d e f).2.1=((pV c d e f).1,(pV c d e f).2.1):=rfl;have c3:uD 0 c d=0:=by unfold uD;rw [(bG l2).2.2.2];rfl
 have c4:pC 0 e f=0:=by unfold pC;rw [(aU h3).2.2.2];rfl
 have m2:wA 0 (jZ c d).1 (jZ c d).2 (jZ e f).1 (jZ e f).2=0:=by
  show bJ 0 (GL c d e f).2.2=0;rw [n.2.2.2];rfl
 have v2:rG (jZ c d).1 (jZ c d).2 (jZ e f).1 (jZ e f).2=((GL c d e f).1,(GL c d e f).2.1):=rfl;have b1:PD 0 (nK c d).1 (nK c d).2 (GL c d e f).1 (GL c d e f).2.1=0:=by
  show bJ 0 (uO c d e f).2.2=0;rw [q.2.2.2.2];rfl
 have u2:KJ (nK c d).1 (nK c d).2 (GL c d e f).1 (GL c d e f).2.1=((uO c d e f).1,(uO c d e f).2.1):=rfl;rw [c1,c2,m1,v1];dsimp only;rw [a1,u1,c3,c4,m2,v2];dsimp only;rw [b1,u2];dsimp only;rw [hs];dsimp only;have d0:arcC 0 (iU a b c d e f).1 (iU a b c d e f).2 0=0:=rfl;have d1:VH (iU a b c d e f).1 (iU a b c d e f).2 0=((iU a b c d e f).1,(iU a b c d e f).2):=rfl;have d2:pC 0 (pV c d e f).1 (pV c d e f).2.1=0:=by unfold pC;rw [(aU p.val).2.2.2];rfl
 have d3:pC 0 (iU a b c d e f).1 (iU a b c d e f).2=0:=by unfold pC;rw [(aU hv).2.2.2];rfl
 have d4:uD 0 (iU a b c d e f).1 (iU a b c d e f).2=0:=by unfold uD;rw [(bG hv).2.2.2];rfl
 have y1:jZ (pV c d e f).1 (pV c d e f).2.1=((WL c d e f).1,(WL c d e f).2.1):=rfl;have y2:jZ (iU a b c d e f).1 (iU a b c d e f).2=((caE a b c d e f).1,(caE a b c d e f).2.1):=rfl;have y3:nK (iU a b c d e f).1 (iU a b c d e f).2=((saE a b c d e f).1,(saE a b c d e f).2.1):=rfl;rw [d0,d1];dsimp only;rw [d2,d3,y1,y2,y3];dsimp only;have g1:wA 0 (WL c d e f).1 (WL c d e f).2.1 (caE a b c d e f).1 (caE a b c d e f).2.1=0:=by
  show bJ 0 (upM a b c d e f).2.2=0;rw [k4.2.2.2];rfl
 have g2:rG (WL c d e f).1 (WL c d e f).2.1 (caE a b c d e f).1 (caE a b c d e f).2.1=((upM a b c d e f).1,(upM a b c d e f).2.1):=rfl;have g3:wA 0 (WL c d e f).1 (WL c d e f).2.1 (saE a b c d e f).1 (saE a b c d e f).2.1=0:=by
  show bJ 0 (noM a b c d e f).2.2=0;rw [k5.2.2.2];rfl
 have g4:rG (WL c d e f).1 (WL c d e f).2.1 (saE a b c d e f).1 (saE a b c d e f).2.1=((noM a b c d e f).1,(noM a b c d e f).2.1):=rfl;rw [g1,g2];dsimp only;have g5:zQ 0 (upM a b c d e f).1 (upM a b c d e f).2.1=0:=by
  show bJ 0 (RD a b c d e f).2.2=0;rw [k6.2.2.2];rfl
 have g6:sP (upM a b c d e f).1 (upM a b c d e f).2.1=((RD a b c d e f).1,(RD a b c d e f).2.1):=rfl;have g7:gnegC 0 (pU c d e f).1 (pU c d e f).2.1=0:=by
  show bJ 0 (eaM c d e f).2.2=0;rw [k7.2.2.2];rfl
 have g8:PF (pU c d e f).1 (pU c d e f).2.1=((eaM c d e f).1,(eaM c d e f).2.1):=rfl;rw [g5,g6,c1,c2,m1,g7,g8,d4,g3,g4];dsimp only;have g9:PD 0 (eaM c d e f).1 (eaM c d e f).2.1 (noM a b c d e f).1 (noM a b c d e f).2.1=0:=by
  show bJ 0 (azE a b c d e f).2.2=0;rw [k8.2.2.2.2];rfl
 rw [g9];rfl
def eK:Rat:=pw 480
def dK:Rat:=pw 500
def dR:Rat:=pw 598
theorem lvA:0<eK∧0<dK∧0<dR∧100000*(15*e1+1073741824*(5*e0)+4*e1)≤dR*dR∧15*e1+1073741824*(5*e0)≤1/4∧2^64*(15*e1+1073741824*(2*eT)+2*e1)≤dK∧15*e1+1073741824*(2*eT)≤1/2^91∧2000*dR+5*e1≤eK∧2000*dK+5*e1≤eK∧dK≤1∧dR≤1∧
  100000*(3*eK+1073741824*(100*eT)+4*e1)≤pw 230*pw 230∧0≤pw 230∧pw 230≤dS∧3*eK+1073741824*(100*eT)≤1/2^91∧2^64*(3*eK+1073741824*(100*eT)+2*e1)≤dS∧15*e1≤3*eK∧eK≤1/100∧16000*u0≤eT∧10*e0≤eT∧0<eT:=by decide+kernel
theorem div_hold {a b c d e f:Int} {y t:Rat} (h:cS a b c d e f=true) (hy:Hs 0 c d y) (ht:Hs 0 e f t) {r k:Rat} (r0:-5400000≤r) (r1:r≤5400000) (k1:Cl (5*e0) (si r) (co y*si t)) (k2:Cl eT (co r*co k) (co y*co t)) (k3:Cl eT (co r*si k) (si y)):
  Hs dR (pV c d e f).1 (pV c d e f).2.1 r∧Dr dK (uO c d e f).1 (uO c d e f).2.1 k∧Vl (pU c d e f) (15*e1) (co y*si t):=by
 obtain ⟨w1,w2,w3,w4,w5,w6,w7,w8,w9,w10,w11,w12,w13,w14,w15,w16,w17,w18,w19,w20,w21⟩:=lvA;have e1b:=iR;have e0b:=eR;obtain ⟨h1,h2,h3⟩:=eB h;have l2:=(bV h2).1;have s2:=bG l2;have c2:=aU l2;have s3:=bG h3;have c3:=aU h3;have S2:=pR l2 hy;have C2:=mG l2 hy;have S3:=pR h3 ht;have C3:=mG h3 ht;have m1:Vl (pU c d e f) (15*e1) (co y*si t):=(jK c2 s3 (by grind) (by grind) C2 S3).wide (by grind);have m2:Vl (GL c d e f) (15*e1) (co y*co t):=(jK c2 c3 (by grind) (by grind) C2 C3).wide (by grind);have cl:=sJ r0 r1;obtain ⟨ρ,ρ0,ρ1,hn,he⟩:=IH cl.1 cl.2 k2 k3;exact ⟨(RH m1 k1 r0 r1 (by grind) (by grind) (by grind) w5 w4).2,(CY (S2.wide (f:=15*e1) (by grind)) m2 he hn ρ0 (by grind) (by grind) (by grind) w7).2.wide w6,m1⟩
theorem UY {a b c d e f:Int} (h:cS a b c d e f=true):Hold a b c d e f (RD a b c d e f) (azE a b c d e f):=by
 obtain ⟨w1,w2,w3,w4,w5,w6,w7,w8,w9,w10,w11,w12,w13,w14,w15,w16,w17,w18,w19,w20,w21⟩:=lvA;have e1b:=iR;have e0b:=eR;obtain ⟨h1,h2,h3⟩:=eB h;obtain ⟨W,N,P,Q⟩:=div_one h;obtain ⟨hv,hs,o1,o2,o3,o4,o5,o6,o7,o8⟩:=UF h;have key:∀x y t:Rat,Hs 0 a b x→Hs 0 c d y→Hs 0 e f t→∀h' z:Rat,sA x y t h' z→∃A B:Rat,Vl (upM a b c d e f) (3*eK) A∧Vl (noM a b c d e f) (3*eK) B∧Cl (20*eT) (yE x y t) A∧Cl (20*eT) (yC x y t) B∧Vl (eaM c d e f) (3*eK) (IA y t):=by
  intro x y t x0 y0 t0 h' z' s';obtain ⟨r,k,r0,r1,k0,k1',k1,k2,k3⟩:=rD y t;obtain ⟨hR,⟨m,hK⟩,hW⟩:=div_hold h y0 t0 r0 r1 k1 k2 k3;have hA:Hs dK (iU a b c d e f).1 (iU a b c d e f).2 ((k-x)+21600000*(m:Rat)):=by
   unfold Hs at hK x0 ⊢;unfold iU;dsimp only;rw [acZ,acZ];generalize ((uO c d e f).1:Rat)=p at*;generalize ((uO c d e f).2.1:Rat)=q at*;generalize (m:Rat)=m' at*;constructor<;>grind
  have cr:Vl (WL c d e f) eK (co r):=(cos_v P.val (by grind) w11 hR).wide w8;have ca:=(cos_v hv (by grind) w10 hA).wide w9;have sa:=(sin_v hv (by grind) w10 hA).wide w9;have tq:=iF (k-x) m;rw [tq.1] at ca;rw [tq.2] at sa;have sq:=UI k x;have br:=(iN r).1;have bx:=iN x;have g1:=Cl.mul 2 4 k2 (Cl.refl (co x) (e:=0) (by grind)) bx.1 (by have:=aM (iN y).1.1 (iN y).1.2 (iN t).1.1 (iN t).1.2;grind);have g2:=Cl.mul 2 4 k3 (Cl.refl (si x) (e:=0) (by grind)) bx.2 (by have:=(iN y).2;grind);have g3:=Cl.mul 2 4 k3 (Cl.refl (co x) (e:=0) (by grind)) bx.1 (by have:=(iN y).2;grind);have g4:=Cl.mul 2 4 k2 (Cl.refl (si x) (e:=0) (by grind)) bx.2 (by have:=aM (iN y).1.1 (iN y).1.2 (iN t).1.1 (iN t).1.2;grind);have q1:=aM br.1 br.2 sq.1.1 sq.1.2;have q2:=aM br.1 br.2 sq.2.1 sq.2.2;refine ⟨co r*co (k-x),co r*si (k-x),jK o1 o2 (by grind) (by grind) cr ca,jK o1 o3 (by grind) (by grind) cr sa,?_,?_,?_⟩
  ·rw [show co r*(co (k-x)-(co k*co x+si k*si x))=co r*co (k-x)-(co r*co k*co x+co r*si k*si x) by grind] at q1;unfold yE;unfold Cl at*;generalize co r*co (k-x)=v1 at*;generalize co r*co k*co x=v2 at*;generalize co r*si k*si x=v3 at*;rw [show si x*si y+co x*co y*co t=co y*co t*co x+si y*si x by grind];generalize co y*co t*co x=v4 at*;generalize si y*si x=v5 at*;clear g3 g4 q2 sq hR hK hA s' k1 k2 k3;constructor<;>grind
  ·rw [show co r*(si (k-x)-(si k*co x-co k*si x))=co r*si (k-x)-(co r*si k*co x-co r*co k*si x) by grind] at q2;unfold yC;unfold Cl at*;generalize co r*si (k-x)=v1 at*;generalize co r*si k*co x=v2 at*;generalize co r*co k*si x=v3 at*;generalize co y*co t*si x=v4 at*;generalize si y*co x=v5 at*;clear g1 g2 q1 sq hR hK hA s' k1 k2 k3;constructor<;>grind
  ·exact (neg_v W hW).wide w17
 refine ⟨o6,o8,CX o7.val o5.val,?_,?_⟩
 ·intro x y t x0 y0 t0 h' z' s';obtain ⟨A,B,vA,vB,cA,cB,vE⟩:=key x y t x0 y0 t0 h' z' s';obtain ⟨g0,g1,z0,z1,k1,k2,k3⟩:=s';exact ((RH vA ((k1.trans cA).wide (f:=100*eT) (by grind)) g0 g1 (by grind) (by grind) w13 (by grind) w12).2).wide w14 (aeX _) (aeX _)
 ·intro x y t x0 y0 t0 h' z' s';obtain ⟨A,B,vA,vB,cA,cB,vE⟩:=key x y t x0 y0 t0 h' z' s';obtain ⟨g0,g1,z0,z1,k1,k2,k3⟩:=s';have cl:=sJ g0 g1;obtain ⟨ρ,ρ0,ρ1,hn,he⟩:=IH cl.1 cl.2 k2 k3;exact (CY vE vB (he.wide (f:=100*eT) (by grind)) ((hn.trans cB).wide (f:=100*eT) (by grind)) ρ0 (by grind) (by grind) (by grind) w15).2.wide w16
end
end Go.Proofs.YtmididlfnajhiaaGreatDoor
