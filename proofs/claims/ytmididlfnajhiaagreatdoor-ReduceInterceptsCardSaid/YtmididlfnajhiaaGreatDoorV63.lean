/-
  The intercept; ReduceIntercepts.
-/
import Derived.Test.YtmididlfnajhiaaGreatDoorU20
set_option maxRecDepth 100000
set_option maxHeartbeats 4000000
namespace Go.Proofs.YtmididlfnajhiaaGreatDoor
open Ev
open SM TB TA
open Ev (lt bJ aH)
noncomputable def qP (a b c d e f:Int):Int×Int×Int×Int:=AA (uZ a b c d e f)
theorem rbs_gives (a b c d e f:Int) (hp:cS a b c d e f=true):aH Tryz.prog 18 [.agg ⟨[.int .i64 a,.int .i64 b,.int .i64 c,.int .i64 d,.int .i64 e,.int .i64 f]⟩] (OB (qP a b c d e f)):=fun w hg=>by
 obtain ⟨x,_,_,h0,_⟩:=CZ hp;have h5:=vC a b c d e f;exact PX ⟨h0,by omega⟩ (fun w hg=>ralls w hg) w hg
def allTP (_a _b _c _d _e _f _u _v:Int):Bool:=true
noncomputable def XP {α:Type} (K:Int→Int→Int→Int→Int→α) (a b c d e f u v:Int):α:=cond (!(cS a b c d e f)) (K 0 0 0 0 1) (cond (decide (u<(-5400000))) (K 0 0 0 0 1) (cond (decide (u>v)) (K 0 0 0 0 1) (cond (decide (v>5400000)) (K 0 0 0 0 1) (lt (oC a b c d e f) fun x1=>cond (x1.2.2.2.2 != 0) (K 0 0 0 0 x1.2.2.2.2) (lt (jW u v x1.1 x1.2.1) fun x2=>cond (x2.2.2 != 0) (K 0 0 0 0 x2.2.2) (K x2.1 x2.2.1 x1.2.2.1 x1.2.2.2.1 0))))))
noncomputable def SG (a b c d e f u v:Int):Int×Int×Int×Int×Int:=XP (fun p0 p1 p2 p3 p4=>(p0,p1,p2,p3,p4)) a b c d e f u v
noncomputable def kV630:aZ:=(10,e0 (.bool (true)))::(14,eT (fun a b c d e f=>dV (oC a b c d e f)))::(15,eT (fun a b c d e f=>.bool (FU a b c d e f)))::(18,eTif cS (fun a b c d e f=>OB (qP a b c d e f)))::(33,eP (fun a b=>.bool (wR a b)))::(48,eT (fun a b c d e f=>.bool (cS a b c d e f)))::(61,nX (fun a b c d=>aL (jW a b c d)))::[]
theorem YP:aJ Tryz.prog kV630:=(aA (e0_ok nD) (aA (gS sG) (aA (gS wT) (aA (HJ rbs_gives) (aA (cF FO) (aA (gS kI) (aA (cH pX) cO)))))))
theorem intM_gives (a b c d e f u v:Int):aH Tryz.prog 32 [.agg ⟨[.int .i64 a,.int .i64 b,.int .i64 c,.int .i64 d,.int .i64 e,.int .i64 f]⟩,.agg ⟨[.int .i64 u,.int .i64 v]⟩] (twoV (SG a b c d e f u v)):=by
 refine aE bK YP (t:=XP (fun p0 p1 p2 p3 p4=>some (.v (twoV ((p0,p1,p2,p3,p4))))) a b c d e f u v) (by kernel_rfl) ?_;unfold SG XP;repeat' first | (with_reducible refine aT (fun r:Int×Int×Int×Int×Int=>AV.v (twoV (r))) ?_ ?_) | (with_reducible refine cG (fun r:Int×Int×Int×Int×Int=>AV.v (twoV (r))) fun _=>?_) | rfl
theorem int_no {a b c d e f u v:Int} (h:cS a b c d e f=false∨mD u v=false):SG a b c d e f u v=(0,0,0,0,1):=by
 unfold SG XP;cases h1:cS a b c d e f with
 | false=>rfl
 | true=>
  have hl:mD u v=false:=h.resolve_left (by rw [h1];simp);rw [Bool.not_true,cond_false];by_cases c1:u< -5400000
  ·rw [fE c1];rfl
  rw [fI c1,cond_false];by_cases c2:u>v
  ·rw [fE c2];rfl
  rw [fI c2,cond_false];by_cases c3:v>5400000
  ·rw [fE c3];rfl
  rw [lat_mk (by omega) (by omega) (by omega)] at hl;cases hl
theorem int_ok {a b c d e f u v:Int} (hv:cS a b c d e f=true) (hl:mD u v=true) (hb:oC a b c d e f=((qP a b c d e f).1,(qP a b c d e f).2.1,(qP a b c d e f).2.2.1,(qP a b c d e f).2.2.2,0)) (h1:-5400000≤(qP a b c d e f).1) (h2:(qP a b c d e f).1≤(qP a b c d e f).2.1) (h3:(qP a b c d e f).2.1≤5400000):
  SG a b c d e f u v=(u-(qP a b c d e f).2.1,v-(qP a b c d e f).1,(qP a b c d e f).2.2.1,(qP a b c d e f).2.2.2,0):=by
 have l:=bV hl;unfold SG XP;simp only [lt];rw [hv,fI (show ¬u< -5400000 by omega),fI (show ¬u>v by omega),fI (show ¬v>5400000 by omega),hb];generalize qP a b c d e f=x at*;simp only [Bool.not_true,cond_false];rw [show ((0:Int) != 0)=false from rfl,cond_false,sD (by omega) (by omega) (by omega) (by omega) (by omega) (by omega)];rfl
noncomputable def kV631:aZ:=(32,eTP (fun a b c d e f u v=>twoV (SG a b c d e f u v)))::kV630
theorem kV631_ok:aJ Tryz.prog kV631:=(aA (eTP_ok intM_gives) YP)
theorem KO (a b c d e f u v:Int):aH Tryz.prog 8 [.agg ⟨[.int .i64 a,.int .i64 b,.int .i64 c,.int .i64 d,.int .i64 e,.int .i64 f]⟩,.agg ⟨[.int .i64 u,.int .i64 v]⟩] (.bool (allTP a b c d e f u v)):=by
 refine aE bK kV631_ok (t:=cond (!(true)) (some (.v (.bool false))) (lt (SG a b c d e f u v) fun x1=>cond (!(FU a b c d e f)) (cond ((x1.1==0)&&((x1.2.1==0)&&true)) (cond ((x1.2.2.1==0)&&((x1.2.2.2.1==0)&&true)) (some (.v (.bool (x1.2.2.2.2==1)))) (some (.v (.bool false)))) (some (.v (.bool false)))) (cond (!(wR u v)) (cond ((x1.1==0)&&((x1.2.1==0)&&true)) (cond ((x1.2.2.1==0)&&((x1.2.2.2.1==0)&&true)) (some (.v (.bool (x1.2.2.2.2==1)))) (some (.v (.bool false)))) (some (.v (.bool false)))) (lt (qP a b c d e f) fun x2=>cond (cS a b c d e f) (cond (!((x1.1==IntKind.i64.wrap (u-x2.2.1))&&((x1.2.1==IntKind.i64.wrap (v-x2.1))&&true))) (some (.v (.bool false))) (cond (!((x1.2.2.1==x2.2.2.1)&&((x1.2.2.2.1==x2.2.2.2)&&true))) (some (.v (.bool false))) (cond (x1.2.2.2.2 != 0) (some (.v (.bool false))) (lt (SG a b c d e f x2.1 x2.2.1) fun x3=>cond (x3.2.2.2.2==0) (cond (decide (x3.1≤0)) (some (.v (.bool (decide (x3.2.1≥0))))) (some (.v (.bool false)))) (some (.v (.bool false))))))) (none))))) (by kernel_rfl) ?_;simp only [lt,Bool.not_true,cond_false];rw [TZ,TP];cases ht:cS a b c d e f with
 | false=>
  rw [int_no (.inl ht)];rfl
 | true=>
  cases hl:mD u v with
  | false=>
   rw [int_no (.inr hl)];rfl
  | true=>
   obtain ⟨x,e1,e2,h0,b1,b2,b3⟩:=CZ ht;have ex:qP a b c d e f=x:=e2;have hb:oC a b c d e f=((qP a b c d e f).1,(qP a b c d e f).2.1,(qP a b c d e f).2.2.1,(qP a b c d e f).2.2.2,0):=by rw [ex];exact e1
   have i1:=int_ok ht hl hb (by rw [ex];exact b1) (by rw [ex];exact b2) (by rw [ex];exact b3);have i2:=int_ok (u:=x.1) (v:=x.2.1) ht (lat_mk b1 b2 b3) hb (by rw [ex];exact b1) (by rw [ex];exact b2) (by rw [ex];exact b3);have l:=bV hl;have s1:∀p q:Int,((p==p)&&((q==q)&&true))=true:=fun p q=>by simp
   rw [ex] at i1 i2;rw [ex,i1,i2];dsimp only;rw [aX (x:=u-x.2.1) (by omega),aX (x:=v-x.1) (by omega),s1,s1,fE (show x.1-x.2.1≤0 by omega),fE (show x.2.1-x.1≥0 by omega)];rfl
end Go.Proofs.YtmididlfnajhiaaGreatDoor
