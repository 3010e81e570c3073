/-
  running.small, running.move: the walks. cells.Valid at coarse levels: the walk. cells.cellOf, cells.spanOf: what they give at coarse levels. cells.cellOf, spanOf, Box, region.box: at coarse levels..
-/
import Derived.Test.YtlbklncoihhfcaaGreatDoorU12
import Derived.Test.YtlbklncoihhfcaaGreatDoorU6
set_option maxRecDepth 100000
set_option maxHeartbeats 4000000
open Go.RowKit.Below renaming drew→xO,refl→zD
open _root_.Int renaming emod_lt_of_pos→qQ,emod_nonneg→yC,natCast_add→xB
open Go.Lib renaming hid→zA
open _root_.List renaming length_append→zU,length_cons→zM,length_nil→xA,take_length→qX
open _root_.Nat renaming le_refl→zC,lt_of_lt_of_le→zT
open _root_.Option renaming some→zL
open Go.Proofs.Tryz renaming prog→zB
open Go.World renaming setCell→qK
open Go.IntKind (i64 u64)
open Go.Value renaming int→jI
open Go.IntKind renaming i64→jJ
open Go.Obj renaming cells→jC
open Go.Value renaming agg→jA
namespace Go.Proofs.YtlbklncoihhfcaaGreatDoor
noncomputable section
section
open Go.RowKit Rg
attribute [local go_sem] Oper.semAt_some
def gT(d:Int×Int):Bool:=decide (-10800000<=d.1)&&decide (d.2<=10800000)
theorem QK(x y:Int)(w:World):Calls zB 103 #[jA #[jI jJ x,jI jJ y]] w (GP (.bool (gT (x,y))) w):=by
 have b:=zA (Below.new (w:=w) (jC #[jI jJ x,jI jJ y] 31));by_cases h:-10800000<=x
 ·by_cases k:y<=10800000
  ·have a:=zA (show gT (x,y)=true by simp[gT,h,k]);go_enter Tryz.func103,Tryz.ntmps103;go_wp2_with fail
   go_ret;exact⟨by rw[a.out];simp_all,b.out⟩
  ·have a:=zA (show gT (x,y)=false by simp[gT,h,k]);have d:decide (y<=10800000)=false:=decide_eq_false k;go_enter Tryz.func103,Tryz.ntmps103;go_wp2_with fail
   go_ret;exact⟨by rw[a.out];simp_all,b.out⟩
 ·have a:=zA (show gT (x,y)=false by simp[gT,h]);have c:decide (-10800000<=x)=false:=decide_eq_false h;go_enter Tryz.func103,Tryz.ntmps103;go_wp2_with fail
  go_ret;exact⟨by rw[a.out];simp_all,b.out⟩
theorem Yq(hc:CelH){a b c d x1 y1 x2 y2 e:Int}{level:Nat}{f:Rg.Blk->Int ⊕ List Rg.Blk}(R:∀w,Calls zB 102 #[jA #[jI jJ a,jI jJ b,jI jJ c,jI jJ d]] w (GP (.tuple #[jA #[jI jJ x1,jI jJ y1],jA #[jI jJ x2,jI jJ y2],jI jJ e]) w))
  (hm:e=0->gT (x1,y1)=true->gT (x2,y2)=true->MvH (x1,y1) (x2,y2) level f/\∀w,Calls zB 137 #[Ob (x1,y1),Ob (x2,y2)] w (GP (.bool true) w))(h5:level<=5){l:List Rg.Blk}(hr:Reg l){w:World}{v:Value}(hv:RC w 0 v l)(hl:∀k,v.ownBlock=some k->k<w.heap.size):
  Calls zB 69 #[v,jA #[jI jJ a,jI jJ b,jI jJ c,jI jJ d],jI jJ (level:Int)] w (kH w (if e=0 then(if (gT (x1,y1)&&gT (x2,y2))=true then iM f l (some []) else .inl 5) else .inl e)):=by
 obtain⟨t,D⟩:∃t,t=(if e=0 then(if (gT (x1,y1)&&gT (x2,y2))=true then iM f l (some []) else Sum.inl 5) else Sum.inl e):=⟨_,rfl⟩;rw[<-D];have o:=zA D;clear D;have a2:=zA R;have HB:=zA (Below.new (w:=w) (jC #[jI jJ a,jI jJ b,jI jJ c,jI jJ d] 37));obtain⟨K,kc,rfl⟩:=hv.slice;have HV:=zA hv;have HL:=zA hl;have HM:=zA hm;have HC:=zA hc;have HR:=zA hr;clear R hv hl hm hc hr;go_enter Tryz.func69,Tryz.ntmps69;go_wp2_with fail
 refine(a2.out _).mono ?_;rintro e' w1 ⟨rfl,J⟩;have G:=zA (HB.out.trans (J.mono HB.out.size));clear J;obtain⟨W,hW⟩:∃W,W=(w1.alloc (jC #[jI jJ x1,jI jJ y1] 31)).alloc (jC #[jI jJ x2,jI jJ y2] 31):=⟨_,rfl⟩;obtain⟨hB,h1,h2⟩:=Az w1 x1 y1 x2 y2 W hW;have m:=zA (G.out.trans (hB.mono G.out.size));have H1:=zA h1;have H2:=zA h2;go_upto_region 2 with fail
 rw[<-hW];clear hW hB h1 h2;obtain⟨N,hN⟩:∃N,N=l.length:=⟨_,rfl⟩;rw[<-hN]at HV HL ⊢;clear hN;by_cases U:e=0
 ·subst U;obtain⟨V,X,_,_⟩:=H1.out.keep;obtain⟨Y,q1,_,_⟩:=H2.out.keep;go_wp2_with fail
  refine(QK x1 y1 _).mono ?_;rintro e' w2 ⟨rfl,p⟩;have n:=zA (m.out.trans (p.mono m.out.size));have u:=zA (H1.out.next p);have y:=zA (H2.out.next p);clear p V X Y q1 H1 H2 m;obtain⟨V,X,_,_⟩:=u.out.keep;obtain⟨Y,q1,_,_⟩:=y.out.keep;cases r:gT (x1,y1)with
  |false=>
   have j:=zA (show kH w t (.returned (.tuple #[.slice none 0 0,jI jJ 5])) w2 from⟨.inr ⟨5,by rw[o.out];simp[r],rfl⟩,n.out⟩);clear r;go_wp2_with fail
   go_ret2
   exact j.out
  |true=>
   have A:=zA r;clear r;go_wp2_with fail
   refine(QK x2 y2 _).mono ?_;rintro e' w3 ⟨rfl,q⟩;have h:=zA (n.out.trans (q.mono n.out.size));have a0:=zA (u.out.next q);have a1:=zA (y.out.next q);clear q V X Y q1 u y n;obtain⟨V,X,_,_⟩:=a0.out.keep;obtain⟨Y,q1,_,_⟩:=a1.out.keep;cases i:gT (x2,y2)with
   |false=>
    have j:=zA (show kH w t (.returned (.tuple #[.slice none 0 0,jI jJ 5])) w3 from⟨.inr ⟨5,by rw[o.out];simp[A.out,i],rfl⟩,h.out⟩);clear i;go_wp2_with fail
    go_ret2
    exact j.out
   |true=>
    obtain⟨m1,m2⟩:=HM.out (by simp) A.out i;have g:=Te HC.out m1 m2 h5 HR.out (HV.out.next h.out) (fun k hk=>zT (HL.out k hk) h.out.size);unfold Ob at g;dsimp only at g;have I:=zA g;have s:=zA (show t=iM f l (some []) by rw[o.out];simp[A.out,i]);clear m1 m2 g i;go_wp2_with fail
    refine I.out.mono ?_;rintro e' w4 ⟨a3,B⟩;have H:=zA (h.out.trans (B.mono h.out.size));rcases a3 with⟨L,vL,M,rfl,E⟩|⟨x,O,rfl⟩
    ·have j:=zA (show kH w t (.returned (.tuple #[vL,jI jJ 0])) w4 from⟨.inl ⟨L,vL,by rw[s.out];exact M,rfl,E.mono h.out.size⟩,H.out⟩);obtain⟨Z,z,rfl⟩:=E.slice;obtain⟨k5,Q⟩:∃k5,k5=L.length:=⟨_,rfl⟩;rw[<-Q]at j ⊢;clear M E B Q;go_wp2_with fail
     go_ret2
     exact j.out
    ·have j:=zA (show kH w t (.returned (.tuple #[.slice none 0 0,jI jJ x])) w4 from⟨.inr ⟨x,by rw[s.out];exact O,rfl⟩,H.out⟩);clear O B;go_wp2_with fail
     go_ret2
     exact j.out
 ·have j:=zA (show kH w t (.returned (.tuple #[.slice none 0 0,jI jJ e])) W from⟨.inr ⟨e,by rw[o.out];simp[U],rfl⟩,m.out⟩);have a4:(e != 0)=true:=by simpa using U
  clear U;go_wp2_with fail
  go_ret2
  exact j.out
end
section
open Go.RowKit Rg
attribute [local go_sem] Oper.semAt_some
theorem aBA{X Y Z P Q:Int}(d:X=0/\P=1/\Q=2\/X=1/\P=2/\Q=4\/X=2/\P=4/\Q=8\/X=3/\P=8/\Q=16\/X=4/\P=16/\Q=32\/X=5/\P=32/\Q=64)(e:0<=Y)(y1:Y<P)(f:0<=Z)(g:Z<Q)(w:World):
  Calls zB 193 #[jA #[jI jJ X,jI jJ Y,jI jJ Z]] w (GP (.bool true) w):=by
 have a:=zA (Below.new (w:=w) (jC #[jI jJ X,jI jJ Y,jI jJ Z] 63));have c:=zA (B3.new w 63 X Y Z);obtain⟨W,b⟩:∃W,W=w.alloc (jC #[jI jJ X,jI jJ Y,jI jJ Z] 63):=⟨_,rfl⟩;rw[<-b]at a c;rcases d with⟨rfl,rfl,rfl⟩|⟨rfl,rfl,rfl⟩|⟨rfl,rfl,rfl⟩|⟨rfl,rfl,rfl⟩|⟨rfl,rfl,rfl⟩|⟨rfl,rfl,rfl⟩;all_goals (
  have d1:=decide_eq_true e;have d2:=decide_eq_true y1;have d3:=decide_eq_true f;have d4:=decide_eq_true g;go_enter Tryz.func193,Tryz.ntmps193;go_upto_region 1 with fail
  rw[<-b];clear b;obtain⟨h,c1,i⟩:=c.out.keep;go_quiet (fail)
  go_wp2_with fail
  go_ret;exact⟨rfl,a.out.trans ((Below.drewN W _).mono a.out.size)⟩)
theorem aEF:Bv:=by
 intro b e d w;have r:=Gp b.l b.n;have c:=Dp b.l b.n d;have a:b.l=0\/b.l=1\/b.l=2\/b.l=3\/b.l=4\/b.l=5:=by omega
 refine aBA (P:=((2^b.l:Nat):Int)) (Q:=((2*2^b.l:Nat):Int)) ?_ (by omega) (by omega) (by omega) (by omega) w;rcases a with h|h|h|h|h|h<;>rw[h]<;>simp
end
section
open Go.RowKit Rg
open Ev (aF Gl)
def eM(p:Nat->Bool):Nat->Bool
 | 0=>true
 |n+1=>p n&&eM p n
theorem gV{p:Nat->Bool}:∀{m:Nat},eM p m=true->∀n,n<m->p n=true
 | 0,_,_,h=>absurd h (Nat.not_lt_zero _)
 |m+1,a,n,h=>by
  unfold eM at a;rw[Bool.and_eq_true]at a;rcases Nat.lt_or_eq_of_le (Nat.le_of_lt_succ h)with h|rfl
  ·exact gV a.2 n h
  ·exact a.1
def WE(l:Nat)(f:Int->Int×Int×Int)(n:Nat):Bool:=(f n).2.1==(aM l n:Int)&&(f n).2.2==(aN l n:Int)
theorem aCV:eM (WE 0 aEw) 2=true:=by kernel_rfl
theorem aCW:eM (WE 1 aEx) 8=true:=by kernel_rfl
theorem aCX:eM (WE 2 aEy) 32=true:=by kernel_rfl
theorem aCY:eM (WE 3 aEz) 128=true:=by kernel_rfl
theorem aCZ:eM (WE 4 aEA) 512=true:=by kernel_rfl
theorem aD0:eM (WE 5 aEB) 2048=true:=by kernel_rfl
def Ah(l:Nat)(f:Int->Int->Int×Int)(n:Nat):Bool:=(f (aM l n:Int) (aN l n:Int)).1==(Rg.Blk.lo ⟨l,n⟩:Int)&&(f (aM l n:Int) (aN l n:Int)).2==(Rg.Blk.hi ⟨l,n⟩:Int)
theorem aDP:eM (Ah 0 aG8) 2=true:=by kernel_rfl
theorem aDQ:eM (Ah 1 aG9) 8=true:=by kernel_rfl
theorem aDR:eM (Ah 2 aGa) 32=true:=by kernel_rfl
theorem aDS:eM (Ah 3 aGb) 128=true:=by kernel_rfl
theorem aDT:eM (Ah 4 aGc) 512=true:=by kernel_rfl
theorem aDU:eM (Ah 5 aGd) 2048=true:=by kernel_rfl
end
section
open Go.RowKit Rg
open Ev (aF Gl)
@[reducible] def nP:Gl:=⟨[]⟩
theorem aI{g:FuncId}{vs:List Value}{V:Value}(h:@aF nP zB g vs V)(w:World):Calls zB g ⟨vs⟩ w (GP V w):=h w (fun _ a=>by cases a)
theorem uH{l n m:Nat}{f:Int->Int×Int×Int}(a:eM (WE l f) m=true)(b:n<m):(f n).2.1=(aM l n:Int)/\(f n).2.2=(aN l n:Int):=by
 have h:=gV a n b;unfold WE at h;rw[Bool.and_eq_true,beq_iff_eq,beq_iff_eq]at h;exact h
theorem aEC:Q8:=by
 intro b a c w;obtain⟨l,n⟩:=b;dsimp only at a c ⊢;rcases(show l=0\/l=1\/l=2\/l=3\/l=4\/l=5 by omega)with rfl|rfl|rfl|rfl|rfl|rfl
 ·have h:=aI (@Di nP (n:Int)) w;obtain⟨e1,e2⟩:=uH aCV (n:=n) (by omega);unfold aEn at h;rw[e1,e2]at h;exact h
 ·have h:=aI (@Dj nP (n:Int)) w;obtain⟨e1,e2⟩:=uH aCW (n:=n) (by omega);unfold aEo at h;rw[e1,e2]at h;exact h
 ·have h:=aI (@Dl nP (n:Int)) w;obtain⟨e1,e2⟩:=uH aCX (n:=n) (by omega);unfold aEp at h;rw[e1,e2]at h;exact h
 ·have h:=aI (@Dm nP (n:Int)) w;obtain⟨e1,e2⟩:=uH aCY (n:=n) (by omega);unfold aEq at h;rw[e1,e2]at h;exact h
 ·have h:=aI (@Dn nP (n:Int)) w;obtain⟨e1,e2⟩:=uH aCZ (n:=n) (by omega);unfold aEr at h;rw[e1,e2]at h;exact h
 ·have h:=aI (@Do nP (n:Int)) w;obtain⟨e1,e2⟩:=uH aD0 (n:=n) (by omega);unfold aEs at h;rw[e1,e2]at h;exact h
theorem uY{l n m:Nat}{f:Int->Int->Int×Int}(a:eM (Ah l f) m=true)(b:n<m):(f (aM l n:Int) (aN l n:Int)).1=(Rg.Blk.lo ⟨l,n⟩:Int)/\(f (aM l n:Int) (aN l n:Int)).2=(Rg.Blk.hi ⟨l,n⟩:Int):=by
 have h:=gV a n b;unfold Ah at h;rw[Bool.and_eq_true,beq_iff_eq,beq_iff_eq]at h;exact h
theorem aGe:aCo:=by
 intro b a c w;obtain⟨l,n⟩:=b;dsimp only at a c ⊢;rcases(show l=0\/l=1\/l=2\/l=3\/l=4\/l=5 by omega)with rfl|rfl|rfl|rfl|rfl|rfl
 ·have h:=aI (@Hd nP (aM 0 n:Int) (aN 0 n:Int)) w;obtain⟨e1,e2⟩:=uY aDP (n:=n) (by omega);unfold sE at h;rw[e1,e2]at h;exact h
 ·have h:=aI (@He nP (aM 1 n:Int) (aN 1 n:Int)) w;obtain⟨e1,e2⟩:=uY aDQ (n:=n) (by omega);unfold sE at h;rw[e1,e2]at h;exact h
 ·have h:=aI (@Hf nP (aM 2 n:Int) (aN 2 n:Int)) w;obtain⟨e1,e2⟩:=uY aDR (n:=n) (by omega);unfold sE at h;rw[e1,e2]at h;exact h
 ·have h:=aI (@Hg nP (aM 3 n:Int) (aN 3 n:Int)) w;obtain⟨e1,e2⟩:=uY aDS (n:=n) (by omega);unfold sE at h;rw[e1,e2]at h;exact h
 ·have h:=aI (@Hh nP (aM 4 n:Int) (aN 4 n:Int)) w;obtain⟨e1,e2⟩:=uY aDT (n:=n) (by omega);unfold sE at h;rw[e1,e2]at h;exact h
 ·have h:=aI (@Hi nP (aM 5 n:Int) (aN 5 n:Int)) w;obtain⟨e1,e2⟩:=uY aDU (n:=n) (by omega);unfold sE at h;rw[e1,e2]at h;exact h
theorem Jg:CelH:=⟨aEC,aGe,aEF⟩
def qB(b:Rg.Blk):Int×Int×Int×Int:=((dO (aM b.l b.n) b.l:Int)-5400000,(dO (aM b.l b.n+1) b.l:Int)-5400000,(dO (aN b.l b.n) b.l:Int)-10800000,(dO (aN b.l b.n+1) b.l:Int)-10800000)
def oL(l:Nat)(f:Int->Int->Int×Int×Int×Int×Int)(n:Nat):Bool:=
 let r:=f (aM l n:Int) (aN l n:Int)
 let q:=qB ⟨l,n⟩
 (r.1==q.1&&r.2.1==q.2.1)&&(r.2.2.1==q.2.2.1&&r.2.2.2.1==q.2.2.2)&&r.2.2.2.2==0
theorem Ub:eM (oL 0 (fun a b=>((GC a b).1,(GC a b).2.1,(GC a b).2.2.1,(GC a b).2.2.2,0))) 2=true:=by kernel_rfl
theorem aCD:eM (oL 0 VQ) 2=true:=by kernel_rfl
theorem Uc:eM (oL 1 (fun a b=>((GD a b).1,(GD a b).2.1,(GD a b).2.2.1,(GD a b).2.2.2,0))) 8=true:=by kernel_rfl
theorem aCE:eM (oL 1 VR) 8=true:=by kernel_rfl
theorem Ud:eM (oL 2 (fun a b=>((GE a b).1,(GE a b).2.1,(GE a b).2.2.1,(GE a b).2.2.2,0))) 32=true:=by kernel_rfl
theorem aCF:eM (oL 2 VS) 32=true:=by kernel_rfl
theorem Ue:eM (oL 3 (fun a b=>((GG a b).1,(GG a b).2.1,(GG a b).2.2.1,(GG a b).2.2.2,0))) 128=true:=by kernel_rfl
theorem aCG:eM (oL 3 VT) 128=true:=by kernel_rfl
theorem Ug:eM (oL 4 (fun a b=>((GH a b).1,(GH a b).2.1,(GH a b).2.2.1,(GH a b).2.2.2,0))) 512=true:=by kernel_rfl
theorem aCH:eM (oL 4 VU) 512=true:=by kernel_rfl
theorem Uh:eM (oL 5 (fun a b=>((GI a b).1,(GI a b).2.1,(GI a b).2.2.1,(GI a b).2.2.2,0))) 2048=true:=by kernel_rfl
theorem aCI:eM (oL 5 VV) 2048=true:=by kernel_rfl
theorem cM{l n m:Nat}{f:Int->Int->Int×Int×Int×Int×Int}(g:eM (oL l f) m=true)(i:n<m):f (aM l n:Int) (aN l n:Int)=((qB ⟨l,n⟩).1,(qB ⟨l,n⟩).2.1,(qB ⟨l,n⟩).2.2.1,(qB ⟨l,n⟩).2.2.2,0):=by
 have h:=gV g n i;unfold oL at h;simp only[Bool.and_eq_true,beq_iff_eq]at h;obtain⟨⟨⟨a,b⟩,c,d⟩,e⟩:=h;exact Prod.ext a (Prod.ext b (Prod.ext c (Prod.ext d e)))
theorem D0(b:Rg.Blk)(i:b.l<=5)(j:b.n<2*4^b.l)(w:World):Calls zB 128 #[dD b] w (GP (QV (qB b)) w):=by
 obtain⟨l,n⟩:=b;dsimp only at i j ⊢;rcases(show l=0\/l=1\/l=2\/l=3\/l=4\/l=5 by omega)with rfl|rfl|rfl|rfl|rfl|rfl
 ·have h:=aI (@MJ nP (aM 0 n:Int) (aN 0 n:Int)) w;have e:GC (aM 0 n:Int) (aN 0 n:Int)=qB ⟨0,n⟩:=by
   have a:=cM Ub (n:=n) (by omega);simp only[Prod.mk.injEq]at a;obtain⟨c,d,f,g,_⟩:=a;exact Prod.ext c (Prod.ext d (Prod.ext f g))
  rw[e]at h;exact h
 ·have h:=aI (@MK nP (aM 1 n:Int) (aN 1 n:Int)) w;have e:GD (aM 1 n:Int) (aN 1 n:Int)=qB ⟨1,n⟩:=by
   have a:=cM Uc (n:=n) (by omega);simp only[Prod.mk.injEq]at a;obtain⟨c,d,f,g,_⟩:=a;exact Prod.ext c (Prod.ext d (Prod.ext f g))
  rw[e]at h;exact h
 ·have h:=aI (@MM nP (aM 2 n:Int) (aN 2 n:Int)) w;have e:GE (aM 2 n:Int) (aN 2 n:Int)=qB ⟨2,n⟩:=by
   have a:=cM Ud (n:=n) (by omega);simp only[Prod.mk.injEq]at a;obtain⟨c,d,f,g,_⟩:=a;exact Prod.ext c (Prod.ext d (Prod.ext f g))
  rw[e]at h;exact h
 ·have h:=aI (@MN nP (aM 3 n:Int) (aN 3 n:Int)) w;have e:GG (aM 3 n:Int) (aN 3 n:Int)=qB ⟨3,n⟩:=by
   have a:=cM Ue (n:=n) (by omega);simp only[Prod.mk.injEq]at a;obtain⟨c,d,f,g,_⟩:=a;exact Prod.ext c (Prod.ext d (Prod.ext f g))
  rw[e]at h;exact h
 ·have h:=aI (@MO nP (aM 4 n:Int) (aN 4 n:Int)) w;have e:GH (aM 4 n:Int) (aN 4 n:Int)=qB ⟨4,n⟩:=by
   have a:=cM Ug (n:=n) (by omega);simp only[Prod.mk.injEq]at a;obtain⟨c,d,f,g,_⟩:=a;exact Prod.ext c (Prod.ext d (Prod.ext f g))
  rw[e]at h;exact h
 ·have h:=aI (@MP nP (aM 5 n:Int) (aN 5 n:Int)) w;have e:GI (aM 5 n:Int) (aN 5 n:Int)=qB ⟨5,n⟩:=by
   have a:=cM Uh (n:=n) (by omega);simp only[Prod.mk.injEq]at a;obtain⟨c,d,f,g,_⟩:=a;exact Prod.ext c (Prod.ext d (Prod.ext f g))
  rw[e]at h;exact h
end
section
open Go.RowKit
open Ev (aF lt)
attribute [local instance] nP
def AE(n:Int):Int:=if 10800000<=n%21600000 then n%21600000-21600000 else n%21600000
theorem rI(n:Int):-10800000<=AE n/\AE n<10800000/\∃k:Int,AE n=n+21600000*k:=by
 have a:=yC n (show(21600000:Int)≠0 by omega);have b:=qQ n (show(0:Int)<21600000 by omega);unfold AE;split
 ·exact⟨by omega,by omega,-(n/21600000)-1,by omega⟩
 ·exact⟨by omega,by omega,-(n/21600000),by omega⟩
theorem CO{n:Int}(_h:-10000000000000<=n/\n<=10000000000000):pH n=AE n:=by
 unfold pH AE oH;have a:=yC n (show(21600000:Int)≠0 by omega);have b:=qQ n (show(0:Int)<21600000 by omega);by_cases c:n%21600000>=10800000
 ·rw[decide_eq_true c,cond_true,if_pos c,bZ (by omega)]
 ·rw[decide_eq_false c,cond_false,if_neg (by omega)]
def iY(c d:Int):Prop:=(c=-10800000/\d=10800000)\/(-10800000<=c/\c<10800000/\c<=d/\d-c<21600000)
theorem II(a b:Int):nI a b=decide (a=-10800000/\b=10800000):=by
 unfold nI Eo;simp only[lt];by_cases c:a=-10800000<;>by_cases d:b=10800000<;>simp[c,d]
theorem iC{c d:Int}(h:iY c d):-10800000<=c/\c<=d/\d<32400000/\d-c<=21600000:=by
 rcases h with⟨rfl,rfl⟩|⟨a,b,e,f⟩<;>omega
theorem at1{P:Program}{g:FuncId}{a V:Value}(h:aF P g [a] V)(w:World):Calls P g #[a] w (GP V w):=h w (fun _ b=>by cases b)
theorem at2{P:Program}{g:FuncId}{a b V:Value}(h:aF P g [a,b] V)(w:World):Calls P g #[a,b] w (GP V w):=h w (fun _ c=>by cases c)
theorem at0{P:Program}{g:FuncId}{V:Value}(h:aF P g [] V)(w:World):Calls P g #[] w (GP V w):=h w (fun _ a=>by cases a)
abbrev Pr:=Int×Int
structure Arcs (w:World) (A:Option Addr) (n:Nat) (l:List Pr):Prop where
 len:l.length=n
 le:n<=9223372036854775807
 cells:0<n->∃b off,A=some ⟨b,off,none⟩/\b<w.heap.size/\∀i,i<n->w.cell? ⟨b,off+i*2,none⟩=some (jI jJ (l.getD i (0,0)).1)/\w.cell? ⟨b,off+i*2+1,none⟩=some (jI jJ (l.getD i (0,0)).2)
theorem Arcs.below{w w':World}{A:Option Addr}{n:Nat}{l:List Pr}{B:Nat}(h:Arcs w A n l)(c:Below B w w')(d:w.heap.size<=B):Arcs w' A n l:=
 ⟨h.len,h.le,fun g=>by
  obtain⟨b,off,e,a,f⟩:=h.cells g;have k:∀o,w'.cell? ⟨b,o,none⟩=w.cell? ⟨b,o,none⟩:=fun o=>c.cell (p:=⟨b,o,none⟩) (zT a d);exact⟨b,off,e,zT a c.size,fun i hi=>by rw[k,k];exact f i hi⟩⟩
theorem Arcs.at_{w w':World}{A:Option Addr}{n:Nat}{l:List Pr}{k:Nat}(h:Arcs w A n l)(i:k<n)(f:Below w.heap.size w w'):∃b off c d,A=some ⟨b,off,none⟩/\b<w.heap.size/\l.getD k (0,0)=(c,d)/\
  w'.cell? ⟨b,off+k*2,none⟩=some (jI jJ c)/\w'.cell? ⟨b,off+k*2+1,none⟩=some (jI jJ d):=by
 obtain⟨b,off,e,a,g⟩:=h.cells (by omega);have q:∀o,w'.cell? ⟨b,o,none⟩=w.cell? ⟨b,o,none⟩:=fun o=>f.cell (p:=⟨b,o,none⟩) a;refine⟨b,off,_,_,e,a,rfl,?_⟩;rw[q,q];exact g k i
def Bx(w:World)(g:Nat)(x y:Int):Prop:=w.heap[g]? =some (jC #[jI jJ x,jI jJ y] 31 (0,0))
theorem Bx.lt{w:World}{g:Nat}{x y:Int}(h:Bx w g x y):g<w.heap.size:=(Array.getElem?_eq_some_iff.1 h).1
theorem Bx.below{w w':World}{g B:Nat}{x y:Int}(h:Bx w g x y)(b:Below B w w')(a:g<B):Bx w' g x y:=(b.block g a).trans h
theorem Bx.next{w w':World}{g:Nat}{x y:Int}(h:Bx w g x y)(a:Below w.heap.size w w'):Bx w' g x y:=h.below a h.lt
theorem Bx.new(w:World)(x y:Int):Bx (w.alloc (jC #[jI jJ x,jI jJ y] 31)) w.heap.size x y:=heap_alloc_new w _
theorem Bx.keep{w:World}{g:Nat}{x y:Int}(h:Bx w g x y):w.cell? ⟨g,0,none⟩=some (jI jJ x)/\w.cell? ⟨g,1,none⟩=some (jI jJ y)/\w.frozen? ⟨g,0,none⟩=false/\w.frozen? ⟨g,1,none⟩=false:=by
 unfold Bx at h;refine⟨?_,?_,?_,?_⟩<;>simp[World.cell?,World.frozen?,h]
theorem Bx.write{w:World}{g:Nat}{x y:Int}(h:Bx w g x y)(u v:Int):Bx ((w.setCell ⟨g,0,none⟩ (jI jJ u)).setCell ⟨g,1,none⟩ (jI jJ v)) g u v:=by
 unfold Bx at*;simp[qK,h,Array.getElem?_modify]
theorem Bx.other{w:World}{g a:Nat}{x y:Int}(h:Bx w g x y)(b:g≠a)(u v:Value):Bx ((w.setCell ⟨a,0,none⟩ u).setCell ⟨a,1,none⟩ v) g x y:=by
 unfold Bx at*;simp[qK,Array.getElem?_modify,h,Ne.symm b]
theorem Below.set2{B:Nat}{a w:World}(h:Below B a w){b:Nat}(c:B<=b)(u v:Value):Below B a ((w.setCell ⟨b,0,none⟩ u).setCell ⟨b,1,none⟩ v):=(h.setCell c _).setCell c _
def mZ(l:List Pr):List Value:=l.flatMap fun p=>[jI jJ p.1,jI jJ p.2]
theorem Pu(l:List Pr):(mZ l).length=l.length*2:=by
 induction l with
 |nil=>rfl
 |cons p l a=>rw[mZ,List.flatMap_cons,zU];rw[mZ]at a;rw[a];simp;omega
theorem wU(l:List Pr)(p:Pr):mZ (l++[p])=mZ l++[jI jJ p.1,jI jJ p.2]:=by simp[mZ]
theorem Wt(l:List Pr):∀(i:Nat),i<l.length->(mZ l)[i*2]? =some (jI jJ (l.getD i (0,0)).1)/\(mZ l)[i*2+ 1]? =some (jI jJ (l.getD i (0,0)).2):=by
 induction l with
 |nil=>intro i h;exact absurd h (by simp)
 |cons s l a=>
  intro i h;have e:mZ (s::l)=jI jJ s.1::jI jJ s.2::mZ l:=by simp[mZ]
  rw[e];cases i with
  |zero=>simp
  |succ i=>
   have:=a i (by simpa using h);rw[show(i+1)*2=i*2+1+1 by omega,show i*2+1+1+1=(i*2+1)+1+1 by omega];simpa using this
theorem U3{w:World}{B n:Nat}{A:Option Addr}{c:Nat}{l:List Pr}(h:w.ownsRow B 31 2 (.slice A n c) n (mZ l))(q:n<=9223372036854775807):Arcs w A n l:=by
 have p:l.length=n:=by have:=h.1;rw[Pu]at this;omega
 refine⟨p,q,fun m=>?_⟩;obtain⟨g,e,r,_,a⟩:=h.form m;injection r with o _ _;subst o;refine⟨g,0,rfl,a,fun i hi=>?_⟩;have b:=h.cells (g:=g) rfl;obtain⟨f,k⟩:=Wt l i (by omega);have d:∀j,(⟨g,0,none⟩:Addr).add j=⟨g,0+j,none⟩:=fun j=>by unfold Addr.add;split<;>simp_all
 have e0:=b _ _ f;have e1:=b _ _ k;rw[d]at e0 e1;exact⟨e0,by rw[Nat.add_assoc];exact e1⟩
theorem JH:(zB.info? 31).map (fun i=>(i.zero,i.size,i.bytes))=some (some (jA #[jI jJ 0,jI jJ 0]),2,16):=by kernel_rfl
theorem PT{P:Program}{e:TypeId}{z:Option Value}{s b:Nat}(h:(P.info? e).map (fun i=>(i.zero,i.size,i.bytes))=some (z,s,b)):∃i,P.info? e=some i/\i.zero=z/\i.size=s/\i.bytes=b:=by
 cases hi:P.info? e with
 |none=>rw[hi]at h;cases h
 |some i=>
  rw[hi]at h;simp only[Option.map_some,zL.injEq,Prod.mk.injEq]at h;exact⟨i,rfl,h.1,h.2.1,h.2.2⟩
theorem gG{w w':World}{B n e size:Nat}{v:Value}{b:List Value}(h:w.ownsRow B e size v n b)(a:Below w.heap.size w w'):w'.ownsRow B e size v n b:=
 h.kept (row:=none) ⟨a.os,a.tape,a.output,a.size,fun k c _=>a.block k c⟩ (by cases v.ownBlock<;>simp)
theorem rC{w:World}{B:Nat}{e:TypeId}{size n:Nat}{v:Value}{d:List Value}(h:w.ownsRow B e size v n d):∃A c,v=.slice A n c:=by
 rcases h.2 with⟨rfl,rfl⟩|⟨g,a,b,rfl,_⟩
 ·exact⟨_,_,rfl⟩
 ·exact⟨_,_,rfl⟩
theorem YZ(w:World)(x y:Int):∀j u,[Value.int jJ x,jI jJ y][j]? =some u->(w.alloc (jC #[jI jJ x,jI jJ y] 31)).cell? ((⟨w.heap.size,0,none⟩:Addr).add j)=some u:=
 World.news_of_block (heap_alloc_new w _)
theorem UX(w:World)(x y:Int):Arcs (w.alloc (jC #[jI jJ x,jI jJ y] 31)) (some ⟨w.heap.size,0,none⟩) 1 [(x,y)]:=by
 refine⟨rfl,by omega,fun _=>⟨_,0,rfl,by simp,fun i hi=>?_⟩⟩;have:i=0:=by omega
 subst this;have k:=(Bx.new w x y).keep;exact⟨k.1,k.2.1⟩
theorem ix0(x y:Int)(w:World):(Instr.index 121 (jA #[jI jJ x,jI jJ y]) (jI jJ 0)).run zB w=.ok (jI jJ x) w:=by
 have u:=Tryz.underlying3;have a:=Tryz.isAgg3;have b:=Tryz.sizeOf3;simp[Instr.index,run_underlying Tryz.underlying121,asIntOf,go_sem]
theorem ix1(x y:Int)(w:World):(Instr.index 121 (jA #[jI jJ x,jI jJ y]) (jI jJ 1)).run zB w=.ok (jI jJ y) w:=by
 have u:=Tryz.underlying3;have a:=Tryz.isAgg3;have b:=Tryz.sizeOf3;simp[Instr.index,run_underlying Tryz.underlying121,asIntOf,go_sem]
def RX(a b c d:Int):Prop:=(a=-10800000/\b=10800000)\/(c=-10800000/\d=10800000)\/(c-a)%21600000<=b-a\/0<=(c-a)%21600000-21600000+(d-c)
def GN(a b c d:Int)(w:World)(e:Ending)(w':World):Prop:=∃A n k l,e=.returned (.slice A n k)/\Arcs w' A n l/\Below w.heap.size w w'/\(RX a b c d↔0<n)
structure ComRel (a b c d F:Int) (w0:World) (v5 v31:Value) (wr:World) (i:Nat):Prop where
 le:i<=2
 num:v31=jI jJ (i:Int)
 own:∃l,l.length<=i/\wr.ownsRow (w0.heap.size+2) 31 2 v5 l.length (mZ l)/\(0<i->F<=b-a->0<l.length)/\(1<i->0<=F-21600000+(d-c)->0<l.length)/\(0<l.length->F<=b-a\/0<=F-21600000+(d-c))
 st:(wr.cell? ⟨w0.heap.size,0,none⟩=some (jI jJ a)/\wr.cell? ⟨w0.heap.size,1,none⟩=some (jI jJ b)/\wr.cell? ⟨w0.heap.size+1,0,none⟩=some (jI jJ c)/\wr.cell? ⟨w0.heap.size+1,1,none⟩=some (jI jJ d))/\Below w0.heap.size w0 wr
theorem nX{w0 W w1:World}{b c:Nat}{j k l m:Value}(h:(W.cell? ⟨b,0,none⟩=some j/\W.cell? ⟨b,1,none⟩=some k/\W.cell? ⟨c,0,none⟩=some l/\W.cell? ⟨c,1,none⟩=some m)/\Below w0.heap.size w0 W)(a:Below W.heap.size W w1):
  (w1.cell? ⟨b,0,none⟩=some j/\w1.cell? ⟨b,1,none⟩=some k/\w1.cell? ⟨c,0,none⟩=some l/\w1.cell? ⟨c,1,none⟩=some m)/\Below w0.heap.size w0 w1:=by
 obtain⟨⟨f,n,g,o⟩,i⟩:=h;have e:=World.block_lt_of_cell? W _ f;have d:=World.block_lt_of_cell? W _ g;exact⟨⟨(a.cell (p:=⟨b,0,none⟩) e).trans f,(a.cell (p:=⟨b,1,none⟩) e).trans n,(a.cell (p:=⟨c,0,none⟩) d).trans g,(a.cell (p:=⟨c,1,none⟩) d).trans o⟩,i.trans (a.mono i.size)⟩
theorem Xs{w0 W w1:World}{d e f g:Value}(h:(W.cell? ⟨w0.heap.size,0,none⟩=some d/\W.cell? ⟨w0.heap.size,1,none⟩=some e/\W.cell? ⟨w0.heap.size+1,0,none⟩=some f/\W.cell? ⟨w0.heap.size+1,1,none⟩=some g)/\Below w0.heap.size w0 W)(a:Below (w0.heap.size+2) W w1):
  (w1.cell? ⟨w0.heap.size,0,none⟩=some d/\w1.cell? ⟨w0.heap.size,1,none⟩=some e/\w1.cell? ⟨w0.heap.size+1,0,none⟩=some f/\w1.cell? ⟨w0.heap.size+1,1,none⟩=some g)/\Below w0.heap.size w0 w1:=by
 obtain⟨⟨i,j,k,l⟩,m⟩:=h;have b:w0.heap.size<w0.heap.size+2:=by omega
 have c:w0.heap.size+1<w0.heap.size+2:=by omega
 exact⟨⟨(a.cell (p:=⟨w0.heap.size,0,none⟩) b).trans i,(a.cell (p:=⟨w0.heap.size,1,none⟩) b).trans j,(a.cell (p:=⟨w0.heap.size+1,0,none⟩) c).trans k,(a.cell (p:=⟨w0.heap.size+1,1,none⟩) c).trans l⟩,m.trans (a.mono (by omega))⟩
theorem aCB{a b c:Int}(d:-1000000000<=a)(e:a<=1000000000)(f:-1000000000<=c)(g:c<=1000000000):Co a b c=(c-a)%21600000:=by
 unfold Co oH;rw[bZ (by omega)]
theorem aBw(w:World)(a b c d:Int):∃W,W=(w.alloc (jC ⟨[jI jJ a,jI jJ b]⟩ 31)).alloc (jC ⟨[jI jJ c,jI jJ d]⟩ 31)/\Bx W w.heap.size a b/\Bx W (w.heap.size+1) c d/\W.heap.size=w.heap.size+2/\Below w.heap.size w W:=by
 refine⟨_,rfl,?_,?_,by simp,(((zD _ _).alloc (zC _) _).alloc (by simp) _)⟩
 ·exact(Bx.new w a b).next ((zD _ _).alloc (zC _) _)
 ·have:=Bx.new (w.alloc (jC ⟨[jI jJ a,jI jJ b]⟩ 31)) c d;simpa using this
theorem Vg{a b c d:Int}(h:nI a b=true):RX a b c d↔0<1:=by
 rw[II,decide_eq_true_eq]at h;exact⟨fun _=>by omega,fun _=>.inl h⟩
theorem Vh{a b c d:Int}(h:nI c d=true):RX a b c d↔0<1:=by
 rw[II,decide_eq_true_eq]at h;exact⟨fun _=>by omega,fun _=>.inr (.inl h)⟩
theorem Dq {a b c d:Int}(k1:iY a b)(k2:iY c d)(w:World):Calls zB 35 #[aG a b,aG c d] w (GN a b c d w):=by
  obtain⟨W,hW,B1,B2,hs,hb⟩:=aBw w a b c d
  have a5:=zA B1
  have Z:=zA B2
  have a0:=zA hb
  have c9:=zA (Vg (a:=a) (b:=b) (c:=c) (d:=d))
  have d0:=zA (Vh (a:=a) (b:=b) (c:=c) (d:=d))
  have H:=zA (at1 (oA a b) W)
  have K:=zA (oA c d)
  obtain⟨E,G,a1,a2⟩:=B1.keep
  obtain⟨o,p,I,J⟩:=B2.keep
  clear hb B1 B2
  unfold aG at ⊢
  cases y:nI a b with
  |true=>
    rw[y]at H
    go_enter Tryz.func35,Tryz.ntmps35
    go_wp2_with fail
    rw[<-hW]
    refine H.out.mono ?_
    rintro e w1 ⟨rfl,k⟩
    have HR:=zA (show GN a b c d w (.returned (.slice (some ⟨w1.heap.size,0,none⟩) 1 1)) (w1.alloc (jC #[jI jJ c,jI jJ d] 31))from⟨_,1,_,[(c,d)],rfl,UX w1 c d,(a0.out.trans (k.mono (by omega))).alloc (by have:=k.size;omega) _,c9.out y⟩)
    obtain⟨o,p,I,J⟩:=(Z.out.next k).keep
    go_wp2
    go_ret
    exact HR.out
  |false=>
    rw[y]at H
    cases B:nI c d with
    |true=>
      rw[B]at K
      go_enter Tryz.func35,Tryz.ntmps35
      go_wp2_with fail
      rw[<-hW]
      refine H.out.mono ?_
      rintro e w1 ⟨rfl,k⟩
      have s:=zA (at1 K.out w1)
      have b9:=zA (a5.out.next k)
      obtain⟨o,p,I,J⟩:=(Z.out.next k).keep
      have m:=zA (a0.out.trans (k.mono (by omega)))
      clear k
      go_wp2_with fail
      refine s.out.mono ?_
      rintro e w2 ⟨rfl,n⟩
      have HR:=zA (show GN a b c d w (.returned (.slice (some ⟨w2.heap.size,0,none⟩) 1 1)) (w2.alloc (jC #[jI jJ a,jI jJ b] 31))from⟨_,1,_,[(a,b)],rfl,UX w2 a b,(m.out.trans (n.mono m.out.size)).alloc (Nat.le_trans m.out.size n.size) _,d0.out B⟩)
      obtain⟨E,G,a1,a2⟩:=(b9.out.next n).keep
      go_wp2
      go_ret
      exact HR.out
    |false=>
      rw[B]at K
      go_enter Tryz.func35,Tryz.ntmps35
      go_wp2_with fail
      rw[<-hW]
      refine H.out.mono ?_
      rintro e w1 ⟨rfl,k⟩
      have s:=zA (at1 K.out w1)
      have c6:=zA (a5.out.next k)
      have b0:=zA (Z.out.next k)
      obtain⟨o,p,I,J⟩:=b0.out.keep
      have m:=zA (a0.out.trans (k.mono (by omega)))
      clear k H K E G a1 a2
      go_wp2_with fail
      refine s.out.mono ?_
      rintro e w2 ⟨rfl,n⟩
      have a3:=zA (m.out.trans (n.mono m.out.size))
      have c7:=zA (c6.out.next n)
      have c8:=zA (b0.out.next n)
      clear n a5 Z a0 c6 b0 m s o p I J
      obtain⟨E,G,a1,a2⟩:=c7.out.keep
      obtain⟨o,p,I,J⟩:=c8.out.keep
      have e9:=iC k1
      have f0:=iC k2
      have a6:=zA (fun w=>at2 (wN a b c) w)
      have hF:=aCB (a:=a) (b:=b) (c:=c) (by omega) (by omega) (by omega) (by omega)
      rw[hF]at a6
      have HX:=zA (show(w2.cell? ⟨w.heap.size,0,none⟩=some (jI jJ a)/\w2.cell? ⟨w.heap.size,1,none⟩=some (jI jJ b)/\w2.cell? ⟨w.heap.size+1,0,none⟩=some (jI jJ c)/\w2.cell? ⟨w.heap.size+1,1,none⟩=some (jI jJ d))/\Below w.heap.size w w2 from⟨⟨E,G,o,p⟩,a3.out⟩)
      have m0:=yC (c-a) (show(21600000:Int)≠0 by omega)
      have m1:=qQ (c-a) (show(0:Int)<21600000 by omega)
      have c0:=zA (show RX a b c d↔(c-a)%21600000<=b-a\/0<=(c-a)%21600000-21600000+(d-c)from by
        rw[II]at y B
        simp only[decide_eq_false_iff_not]at y B
        exact⟨fun h=>by
          rcases h with h|h|h
          · exact absurd h y
          · exact absurd h B
          · exact h,fun h=>.inr (.inr h)⟩)
      clear hF y B c7 c8 a3 hW hs k1 k2 c9 d0
      generalize (c-a)%21600000=F at*
      have w0:i64.wrap (F-21600000)=F-21600000:=bZ (by omega)
      go_wp2_with fail
      clear E G o p a1 a2 I J
      go_region_held3 (fun r=>(r.cell? ⟨w.heap.size,0,none⟩=some (jI jJ a)/\r.cell? ⟨w.heap.size,1,none⟩=some (jI jJ b)/\r.cell? ⟨w.heap.size+1,0,none⟩=some (jI jJ c)/\r.cell? ⟨w.heap.size+1,1,none⟩=some (jI jJ d))/\Below w.heap.size w r)
        (first
          |(with_reducible exact HX.out)
          |(with_reducible exact SS.out)
          |(with_reducible exact nX HX.out (xO (zD _ _)))
          |(with_reducible exact nX SS.out (xO (zD _ _)))
          |fail)
        (first
          | (go_at_call 72
             with_reducible refine(a6.out _).mono ?_
             rintro e w5 ⟨rfl,d7⟩
             have SS:=zA (nX (w1:=w5) (by assumption) d7))
          |fail)
      all_goals (
        clear HX a6)
      go_wp2_with fail
      go_loopw [5,31] (fun v5 b8 wr=>∃i,ComRel a b c d F w v5 b8 wr i) (fun _ b8 _=>2-(intOf b8).toNat)
      case atStart=>
        exact⟨0,by omega,rfl,⟨[],by simp,⟨by simp[mZ],.inl ⟨rfl,rfl⟩⟩,fun h=>by omega,fun h=>by omega,fun h=>by simp at h⟩,SS.out⟩
      case round=>
        clear SS
        obtain⟨i,hi,rfl,⟨l,hl,a4,Q,b3,R⟩,d9⟩:=hrel
        obtain⟨⟨E,G,o,p⟩,d5⟩:=d9
        have d8:i=0\/i=1\/i=2:=by omega
        have HO:=zA a4
        have a7:=zA d5
        clear a4 d5
        rcases d8 with rfl|rfl|rfl
        · skip
          go_wp2_with fail
          rw[ix0]
          have e3:i64.wrap (b-a)=b-a:=bZ (by omega)
          have e4:i64.wrap (F+d)=F+d:=bZ (by omega)
          have e5:i64.wrap (F+d-c)=F+d-c:=bZ (by omega)
          go_wp2_with fail
          have SS:=zA (show(wr.cell? ⟨w.heap.size,0,none⟩=some (jI jJ a)/\wr.cell? ⟨w.heap.size,1,none⟩=some (jI jJ b)/\wr.cell? ⟨w.heap.size+1,0,none⟩=some (jI jJ c)/\wr.cell? ⟨w.heap.size+1,1,none⟩=some (jI jJ d))/\Below w.heap.size w wr from⟨⟨E,G,o,p⟩,a7.out⟩)
          clear E G o p
          go_region_held3 (fun r=>(r.cell? ⟨w.heap.size,0,none⟩=some (jI jJ a)/\r.cell? ⟨w.heap.size,1,none⟩=some (jI jJ b)/\r.cell? ⟨w.heap.size+1,0,none⟩=some (jI jJ c)/\r.cell? ⟨w.heap.size+1,1,none⟩=some (jI jJ d))/\Below w.heap.size w r)
            (first
              |(with_reducible exact SS.out)
              |(with_reducible exact nX SS.out (xO (zD _ _)))
              |fail)
            (fail)
          all_goals (
            have S9:=zA (show(wr.drew.cell? ⟨w.heap.size,0,none⟩=some (jI jJ a)/\wr.drew.cell? ⟨w.heap.size,1,none⟩=some (jI jJ b)/\wr.drew.cell? ⟨w.heap.size+1,0,none⟩=some (jI jJ c)/\wr.drew.cell? ⟨w.heap.size+1,1,none⟩=some (jI jJ d))/\Below w.heap.size w wr.drew from nX SS.out (xO (zD _ _)))
            have M:=zA (gG HO.out (xO (zD _ _)))
            generalize wr.drew=W9 at*
            obtain⟨lo,X⟩:∃x,x=max 0 F:=⟨_,rfl⟩
            obtain⟨f,U⟩:∃x,x=min (b-a) (F+d-c):=⟨_,rfl⟩
            rw[<-X,<-U]
            have g1:0<=lo/\lo<=30000000:=by omega
            have g2:-30000000<=f/\f<=50000000:=by omega
            have HK:=zA (show F<=b-a->lo<=f from fun h=>by omega)
            have b1:=zA (show lo<=f->F<=b-a\/0<=F-21600000+(d-c)from fun h=>.inl (by omega))
            have HL:=zA hl
            have s:=zA Q
            have a9:=zA R
            clear X U Q b3 R
            obtain⟨⟨E,G,o,p⟩,O⟩:=S9.out
            have d6:=zA O
            clear O SS
            by_cases V:lo<=f
            · have e6:i64.wrap (a+lo)=a+lo:=bZ (by omega)
              have t:=zA (at1 (tZ (a+lo)) W9)
              obtain⟨g,D⟩:∃x,x=pH (a+lo):=⟨_,rfl⟩
              have hb:=rI (a+lo)
              rw[<-CO (by omega),<-D]at hb
              rw[<-D]at t
              have e7:i64.wrap (g+f)=g+f:=bZ (by omega)
              have e8:i64.wrap (g+f-lo)=g+f-lo:=bZ (by omega)
              clear D
              go_wp2_with fail
              refine t.out.mono ?_
              rintro e w6 ⟨rfl,z⟩
              have S6:=zA (nX S9.out z)
              have b2:=zA (gG M.out z)
              have L:=zA (b2.out.alloc (jC #[jI jJ g,jI jJ (g+f-lo)] 31))
              have S7:=zA (nX S6.out ((zD _ _).alloc (zC _) (jC #[jI jJ g,jI jJ (g+f-lo)] 31)))
              have Y:w.heap.size+2<=(w6.alloc (jC #[jI jJ g,jI jJ (g+f-lo)] 31)).heap.size:=World.block_lt_of_cell? _ _ S7.out.1.2.2.1
              have N:=zA Y
              clear z t E G o p Y
              obtain⟨i0,b4,b5,b6,b7⟩:=PT JH
              go_wp2_with (at_builtin;refine wpList_append_own _ rfl (.tmp 57) (.tmp 65) 87 rfl (w.heap.size+2) 31 i0 (jA #[jI jJ 0,jI jJ 0]) 2 16 Tryz.underlying87 b4 b5 b6 b7 rfl (by decide) u5 l.length _ rfl L.out ⟨w6.heap.size,0,none⟩ 1 1 [jI jJ g,jI jJ (g+f-lo)] rfl rfl ?c1 ?c2 ?c3 ?c4 ?c5 ?_)
              case c1=>exact YZ w6 g _
              case c2=>intro u hu;simp at hu;rcases hu with rfl|rfl<;>rfl
              case c3=>have:=HL.out;unfold maxLen;omega
              case c4=>have:=HL.out;omega
              case c5=>exact N.out
              intro v' w8 j hg _
              rw[<-wU _ (g,g+f-lo)]at j
              have S8:=zA (Xs S7.out ((zD _ _).grown hg N.out (fun q hq=>(L.out.lt q hq).1)))
              have v:=zA (show ComRel a b c d F w v' (jI jJ 1) w8 1 from⟨by omega,rfl,⟨l++[(g,g+f-lo)],by have:=HL.out;rw[zU];simp only[zM,xA];omega,by simpa using j,fun _ _=>by simp,fun _ _=>by simp,fun _=>b1.out V⟩,S8.out⟩)
              clear hg j
              go_wp2
              go_roundw
              case rel=>exact⟨_,v.out⟩
              case measure=>simp[intOf]
            · have v:=zA (show ComRel a b c d F w u5 (jI jJ 1) W9 1 from⟨by omega,rfl,⟨l,by have:=HL.out;omega,M.out,fun _ h=>absurd (HK.out h) V,fun h=>by omega,a9.out⟩,S9.out⟩)
              go_wp2
              go_roundw
              case rel=>exact⟨_,v.out⟩
              case measure=>simp[intOf])
        · skip
          go_wp2_with fail
          rw[ix1]
          have e3:i64.wrap (b-a)=b-a:=bZ (by omega)
          have e4:i64.wrap ((F-21600000)+d)=(F-21600000)+d:=bZ (by omega)
          have e5:i64.wrap ((F-21600000)+d-c)=(F-21600000)+d-c:=bZ (by omega)
          go_wp2_with fail
          have SS:=zA (show(wr.cell? ⟨w.heap.size,0,none⟩=some (jI jJ a)/\wr.cell? ⟨w.heap.size,1,none⟩=some (jI jJ b)/\wr.cell? ⟨w.heap.size+1,0,none⟩=some (jI jJ c)/\wr.cell? ⟨w.heap.size+1,1,none⟩=some (jI jJ d))/\Below w.heap.size w wr from⟨⟨E,G,o,p⟩,a7.out⟩)
          clear E G o p
          go_region_held3 (fun r=>(r.cell? ⟨w.heap.size,0,none⟩=some (jI jJ a)/\r.cell? ⟨w.heap.size,1,none⟩=some (jI jJ b)/\r.cell? ⟨w.heap.size+1,0,none⟩=some (jI jJ c)/\r.cell? ⟨w.heap.size+1,1,none⟩=some (jI jJ d))/\Below w.heap.size w r)
            (first
              |(with_reducible exact SS.out)
              |(with_reducible exact nX SS.out (xO (zD _ _)))
              |fail)
            (fail)
          all_goals (
            have S9:=zA (show(wr.drew.cell? ⟨w.heap.size,0,none⟩=some (jI jJ a)/\wr.drew.cell? ⟨w.heap.size,1,none⟩=some (jI jJ b)/\wr.drew.cell? ⟨w.heap.size+1,0,none⟩=some (jI jJ c)/\wr.drew.cell? ⟨w.heap.size+1,1,none⟩=some (jI jJ d))/\Below w.heap.size w wr.drew from nX SS.out (xO (zD _ _)))
            have M:=zA (gG HO.out (xO (zD _ _)))
            generalize wr.drew=W9 at*
            obtain⟨lo,X⟩:∃x,x=max 0 (F-21600000):=⟨_,rfl⟩
            obtain⟨f,U⟩:∃x,x=min (b-a) ((F-21600000)+d-c):=⟨_,rfl⟩
            rw[<-X,<-U]
            have g1:0<=lo/\lo<=30000000:=by omega
            have g2:-30000000<=f/\f<=50000000:=by omega
            have HK:=zA (show 0<=F-21600000+(d-c)->lo<=f from fun h=>by omega)
            have b1:=zA (show lo<=f->F<=b-a\/0<=F-21600000+(d-c)from fun h=>.inr (by omega))
            have HL:=zA hl
            have s:=zA Q
            have a9:=zA R
            clear X U Q b3 R
            obtain⟨⟨E,G,o,p⟩,O⟩:=S9.out
            have d6:=zA O
            clear O SS
            by_cases V:lo<=f
            · have e6:i64.wrap (a+lo)=a+lo:=bZ (by omega)
              have t:=zA (at1 (tZ (a+lo)) W9)
              obtain⟨g,D⟩:∃x,x=pH (a+lo):=⟨_,rfl⟩
              have hb:=rI (a+lo)
              rw[<-CO (by omega),<-D]at hb
              rw[<-D]at t
              have e7:i64.wrap (g+f)=g+f:=bZ (by omega)
              have e8:i64.wrap (g+f-lo)=g+f-lo:=bZ (by omega)
              clear D
              go_wp2_with fail
              refine t.out.mono ?_
              rintro e w6 ⟨rfl,z⟩
              have S6:=zA (nX S9.out z)
              have b2:=zA (gG M.out z)
              have L:=zA (b2.out.alloc (jC #[jI jJ g,jI jJ (g+f-lo)] 31))
              have S7:=zA (nX S6.out ((zD _ _).alloc (zC _) (jC #[jI jJ g,jI jJ (g+f-lo)] 31)))
              have Y:w.heap.size+2<=(w6.alloc (jC #[jI jJ g,jI jJ (g+f-lo)] 31)).heap.size:=World.block_lt_of_cell? _ _ S7.out.1.2.2.1
              have N:=zA Y
              clear z t E G o p Y
              obtain⟨i0,b4,b5,b6,b7⟩:=PT JH
              go_wp2_with (at_builtin;refine wpList_append_own _ rfl (.tmp 57) (.tmp 65) 87 rfl (w.heap.size+2) 31 i0 (jA #[jI jJ 0,jI jJ 0]) 2 16 Tryz.underlying87 b4 b5 b6 b7 rfl (by decide) u5 l.length _ rfl L.out ⟨w6.heap.size,0,none⟩ 1 1 [jI jJ g,jI jJ (g+f-lo)] rfl rfl ?c1 ?c2 ?c3 ?c4 ?c5 ?_)
              case c1=>exact YZ w6 g _
              case c2=>intro u hu;simp at hu;rcases hu with rfl|rfl<;>rfl
              case c3=>have:=HL.out;unfold maxLen;omega
              case c4=>have:=HL.out;omega
              case c5=>exact N.out
              intro v' w8 j hg _
              rw[<-wU _ (g,g+f-lo)]at j
              have S8:=zA (Xs S7.out ((zD _ _).grown hg N.out (fun q hq=>(L.out.lt q hq).1)))
              have v:=zA (show ComRel a b c d F w v' (jI jJ 2) w8 2 from⟨by omega,rfl,⟨l++[(g,g+f-lo)],by have:=HL.out;rw[zU];simp only[zM,xA];omega,by simpa using j,fun _ _=>by simp,fun _ _=>by simp,fun _=>b1.out V⟩,S8.out⟩)
              clear hg j
              go_wp2
              go_roundw
              case rel=>exact⟨_,v.out⟩
              case measure=>simp[intOf]
            · have v:=zA (show ComRel a b c d F w u5 (jI jJ 2) W9 2 from⟨by omega,rfl,⟨l,by have:=HL.out;omega,M.out,fun _ h=>s.out (by omega) h,fun _ h=>absurd (HK.out h) V,a9.out⟩,S9.out⟩)
              go_wp2
              go_roundw
              case rel=>exact⟨_,v.out⟩
              case measure=>simp[intOf])
        · obtain⟨A,c',hv⟩:=rC HO.out
          subst hv
          have HF:=zA (show GN a b c d w (.returned (.slice A l.length c')) wr from⟨A,_,_,l,rfl,U3 HO.out (by omega),a7.out,fun h=>by
            rcases c0.out.1 h with h|h
            · exact Q (by omega) h
            · exact b3 (by omega) h,fun h=>c0.out.2 (R h)⟩)
          clear E G o p
          go_wp2
          go_ret
          exact HF.out
def IZ(w:World)(e:Ending)(w':World):Prop:=∃x y:Int,e=.returned (aG x y)/\Below w.heap.size w w'
structure AroRel (w0:World) (gl:Nat) (A:Option Addr) (n:Nat) (l:List Pr) (v13 v4:Value) (wr:World) (i:Nat):Prop where
 le:i<=n
 num:v13=jI jJ (i:Int)
 span:∃s:Int,v4=jI jJ s
 res:∃x y,Bx wr w0.heap.size x y
 least:∃x y,Bx wr gl x y
 arcs:Arcs wr A n l
 below:Below w0.heap.size w0 wr
structure InnRel (w0:World) (gl g:Nat) (A:Option Addr) (n:Nat) (l:List Pr) (p q:Int) (v22 v7:Value) (wr:World) (i:Nat):Prop where
 le:i<=n
 num:v22=jI jJ (i:Int)
 reach:∃s:Int,v7=jI jJ s
 res:∃x y,Bx wr w0.heap.size x y
 least:∃x y,Bx wr gl x y
 one:Bx wr g p q
 arcs:Arcs wr A n l
 below:Below w0.heap.size w0 wr
theorem To (A:Option Addr)(n k:Nat)(l:List Pr)(w:World)(h:Arcs w A n l):Calls zB 36 #[.slice A n k] w (IZ w):=by
  have a3:=zA h
  obtain⟨z1,z2,hz⟩:∃z1 z2,Eo=(z1,z2):=⟨_,_,rfl⟩
  have L:=zA (fun w=>at0 KN w)
  rw[hz]at L
  have hn:=h.le
  clear h hz
  unfold aG at L
  go_enter Tryz.func36,Tryz.ntmps36
  go_wp2_with fail
  refine(L.out _).mono ?_
  rintro e w1 ⟨rfl,O⟩
  have a5:=zA ((zD w.heap.size w).alloc (zC _) (jC #[jI jJ 0,jI jJ 0] 31))
  have K:=zA (a5.out.trans (O.mono (by simp)))
  have M:=zA ((Bx.new w 0 0).next O)
  have a0:=zA (a3.out.below K.out (zC _))
  have f:=zA (K.out.alloc K.out.size (jC #[jI jJ z1,jI jJ z2] 31))
  have d:=zA (M.out.next ((zD _ _).alloc (zC _) (jC #[jI jJ z1,jI jJ z2] 31)))
  have m:=zA (Bx.new w1 z1 z2)
  have r:=zA (a0.out.below ((zD _ _).alloc (zC _) (jC #[jI jJ z1,jI jJ z2] 31)) (zC _))
  have d6:w.heap.size<w1.heap.size:=M.out.lt
  have b1:=zA (show AroRel w w1.heap.size A n l (jI jJ 0) (jI jJ 21600000) (w1.alloc (jC #[jI jJ z1,jI jJ z2] 31)) 0 from⟨by omega,rfl,⟨_,rfl⟩,⟨_,_,d.out⟩,⟨_,_,m.out⟩,r.out,f.out⟩)
  clear O L a5 K M a0 f d m r
  go_wp2_with fail
  generalize w1.heap.size=gl at*
  go_loopw [13,4] (fun Y v4 wr=>∃i,AroRel w gl A n l Y v4 wr i) (fun Y _ _=>n-(intOf Y).toNat)
  case atStart=>exact⟨_,b1.out⟩
  case round=>
    clear b1
    obtain⟨i,hi,rfl,⟨s0,rfl⟩,⟨x0,y0,hR⟩,⟨H,I,y⟩,E,G⟩:=hrel
    by_cases p:i<n
    · obtain ⟨b,off,a,D,rfl,c9,_,e0,e1⟩:=E.at_ p (zD _ _)
      have c4:(i:Int)<(n:Int):=by omega
      have B:=zA hR
      have z:=zA y
      have J:=zA E
      have q:=zA G
      clear hR y E G
      have HK:=zA (Bx.new wr a D)
      have s:=zA ((zD wr.heap.size wr).alloc (zC _) (jC #[jI jJ a,jI jJ D] 31))
      have HP:=zA (at1 (oA a D) (wr.alloc (jC #[jI jJ a,jI jJ D] 31)))
      obtain⟨bp,b2⟩:∃x,x=nI a D:=⟨_,rfl⟩
      rw[<-b2]at HP
      clear b2
      go_wp2_with fail
      refine HP.out.mono ?_
      rintro e W2 ⟨rfl,Q⟩
      have t:=zA (s.out.trans (Q.mono (by simp)))
      have a7:=zA (HK.out.next Q)
      have d:=zA (B.out.next t.out)
      have m:=zA (z.out.next t.out)
      have r:=zA (J.out.below t.out (zC _))
      have f:=zA (q.out.trans (t.out.mono q.out.size))
      have d0:gl<wr.heap.size:=z.out.lt
      have d5:w.heap.size<wr.heap.size:=B.out.lt
      clear Q HP HK s t B z J q e0 e1
      generalize wr.heap.size=g6 at*
      cases bp with
      |true=>
        obtain⟨l0,l1,b5,b6⟩:=m.out.keep
        obtain⟨r0,r1,b9,c0⟩:=d.out.keep
        have HF:=zA (show ∀N,Below w.heap.size w N->IZ w (.returned (jA #[jI jJ H,jI jJ I])) N from fun N hb=>⟨H,I,rfl,hb⟩)
        have HW:=zA (Bx.write d.out H I)
        obtain⟨t0,t1,_,_⟩:=HW.out.keep
        have c:=zA (Below.set2 f.out (zC _) (jI jJ H) (jI jJ I))
        go_wp2
        refine bodyPost_ret (v:=jA #[jI jJ H,jI jJ I]) (by simp[results,Tryz.results36,go_sem,t0,t1]) rfl (HF.out _ c.out)
      |false=>
        go_wp2_with fail
        go_loopw [22,7] (fun Z v7 wq=>∃j,InnRel w gl g6 (some ⟨b,off,none⟩) n l a D Z v7 wq j) (fun Z _ _=>n-(intOf Z).toNat)
        case atStart=>exact⟨0,by omega,rfl,⟨_,rfl⟩,⟨_,_,d.out⟩,⟨_,_,m.out⟩,a7.out,r.out,f.out⟩
        case round=>
          clear a7 d m r f
          obtain⟨j,hj,rfl,⟨X,rfl⟩,⟨x2,y2,hR⟩,⟨x3,y3,y⟩,hO,E,G⟩:=hrel
          by_cases R:j<n
          · obtain ⟨b',c8,c1,o,b8,c3,_,f0,f1⟩:=E.at_ R (zD _ _)
            cases b8
            have c6:(j:Int)<(n:Int):=by omega
            have B:=zA hR
            have z:=zA y
            have HO:=zA hO
            have J:=zA E
            have q:=zA G
            have s:=zA ((zD wr.heap.size wr).alloc (zC _) (jC #[jI jJ c1,jI jJ o] 31))
            have U:=(hO.next s.out).keep
            have V:=(Bx.new wr c1 o).keep
            have HX:=zA (show((wr.alloc (jC #[jI jJ c1,jI jJ o] 31)).cell? ⟨g6,0,none⟩=some (jI jJ a)/\(wr.alloc (jC #[jI jJ c1,jI jJ o] 31)).cell? ⟨g6,1,none⟩=some (jI jJ D)/\(wr.alloc (jC #[jI jJ c1,jI jJ o] 31)).cell? ⟨wr.heap.size,0,none⟩=some (jI jJ c1)/\(wr.alloc (jC #[jI jJ c1,jI jJ o] 31)).cell? ⟨wr.heap.size,1,none⟩=some (jI jJ o))/\Below (wr.alloc (jC #[jI jJ c1,jI jJ o] 31)).heap.size (wr.alloc (jC #[jI jJ c1,jI jJ o] 31)) (wr.alloc (jC #[jI jJ c1,jI jJ o] 31))from⟨⟨U.1,U.2.1,V.1,V.2.1⟩,zD _ _⟩)
            have a6:=zA (fun w=>at2 (wN a D c1) w)
            obtain⟨yb,b4⟩:∃x,x=Co a D c1:=⟨_,rfl⟩
            rw[<-b4]at a6
            clear hR y hO E G U V b4
            go_wp2_with fail
            clear f0 f1
            go_region_held3 (fun w'=>(w'.cell? ⟨g6,0,none⟩=some (jI jJ a)/\w'.cell? ⟨g6,1,none⟩=some (jI jJ D)/\w'.cell? ⟨wr.heap.size,0,none⟩=some (jI jJ c1)/\w'.cell? ⟨wr.heap.size,1,none⟩=some (jI jJ o))/\Below (wr.alloc (jC #[jI jJ c1,jI jJ o] 31)).heap.size (wr.alloc (jC #[jI jJ c1,jI jJ o] 31)) w')
              (first
                |(with_reducible exact HX.out)
                |(with_reducible exact SS.out)
                |(with_reducible exact nX HX.out (xO (zD _ _)))
                |(with_reducible exact nX SS.out (xO (zD _ _)))
                |fail)
              (first
                | (go_at_call 72
                   with_reducible refine(a6.out _).mono ?_
                   rintro e w5 ⟨rfl,b7⟩
                   have SS:=zA (nX (w1:=w5) (by assumption) b7))
                |fail)
            all_goals (
              have g:=zA (s.out.trans (SS.out.2.mono (by simp)))
              have u:=zA (xO g.out)
              go_wp2
              go_roundw
              case rel=>
                first
                  |exact⟨j+1,R,by rw[xB];rfl,⟨_,rfl⟩,⟨_,_,B.out.next g.out⟩,⟨_,_,z.out.next g.out⟩,HO.out.next g.out,J.out.below g.out (zC _),q.out.trans (g.out.mono q.out.size)⟩
                  |exact⟨j+1,R,by rw[xB];rfl,⟨_,rfl⟩,⟨_,_,B.out.next u.out⟩,⟨_,_,z.out.next u.out⟩,HO.out.next u.out,J.out.below u.out (zC _),q.out.trans (u.out.mono q.out.size)⟩
              case measure=>simp[intOf];omega)
          · have c7:¬(j:Int)<(n:Int):=by omega
            obtain⟨l0,l1,b5,b6⟩:=y.keep
            obtain⟨o0,o1,d8,d9⟩:=hO.keep
            have B:=zA hR
            have z:=zA y
            have J:=zA E
            have q:=zA G
            have b3:gl≠w.heap.size:=by omega
            have b0:=zA (Bx.other hR (Ne.symm b3) (jI jJ a) (jI jJ (wrap64 (a+X))))
            have a9:=zA (Bx.write y a (wrap64 (a+X)))
            have c:=zA (Below.set2 G (show w.heap.size<=gl by omega) (jI jJ a) (jI jJ (wrap64 (a+X))))
            have a4:=zA (a3.out.below c.out (zC _))
            clear hR y E G hO
            by_cases k1:X<s0
            · go_wp2
              exact⟨⟨i+1,p,by rw[xB];rfl,⟨_,rfl⟩,⟨_,_,b0.out⟩,⟨_,_,a9.out⟩,a4.out,c.out⟩,by simp[intOf];omega⟩
            · by_cases k2:X=s0
              · subst k2
                by_cases k3:X<21600000
                · by_cases k4:a<x3
                  · go_wp2
                    exact⟨⟨i+1,p,by rw[xB];rfl,⟨_,rfl⟩,⟨_,_,b0.out⟩,⟨_,_,a9.out⟩,a4.out,c.out⟩,by simp[intOf];omega⟩
                  · go_wp2
                    exact⟨⟨i+1,p,by rw[xB];rfl,⟨_,rfl⟩,⟨_,_,B.out⟩,⟨_,_,z.out⟩,J.out,q.out⟩,by simp[intOf];omega⟩
                · go_wp2
                  exact⟨⟨i+1,p,by rw[xB];rfl,⟨_,rfl⟩,⟨_,_,B.out⟩,⟨_,_,z.out⟩,J.out,q.out⟩,by simp[intOf];omega⟩
              · have d7:(X==s0)=false:=beq_eq_false_iff_ne.2 k2
                go_wp2
                exact⟨⟨i+1,p,by rw[xB];rfl,⟨_,rfl⟩,⟨_,_,B.out⟩,⟨_,_,z.out⟩,J.out,q.out⟩,by simp[intOf];omega⟩
    · have c5:¬(i:Int)<(n:Int):=by omega
      obtain⟨l0,l1,b5,b6⟩:=y.keep
      obtain⟨r0,r1,b9,c0⟩:=hR.keep
      have HF:=zA (show ∀N,Below w.heap.size w N->IZ w (.returned (jA #[jI jJ H,jI jJ I])) N from fun N hb=>⟨H,I,rfl,hb⟩)
      have HW:=zA (Bx.write hR H I)
      obtain⟨t0,t1,_,_⟩:=HW.out.keep
      have c:=zA (Below.set2 G (zC _) (jI jJ H) (jI jJ I))
      clear y hR E G
      go_wp2
      refine bodyPost_ret (v:=jA #[jI jJ H,jI jJ I]) (by simp[results,Tryz.results36,go_sem,t0,t1]) rfl (HF.out _ c.out)
def B4(w:World)(g:Nat)(a b c d:Int):Prop:=w.heap[g]? =some (jC #[jI jJ a,jI jJ b,jI jJ c,jI jJ d] 33 (0,0))
theorem B4.lt{w:World}{g:Nat}{a b c d:Int}(h:B4 w g a b c d):g<w.heap.size:=(Array.getElem?_eq_some_iff.1 h).1
theorem B4.next{w w':World}{g:Nat}{a b c d:Int}(h:B4 w g a b c d)(e:Below w.heap.size w w'):B4 w' g a b c d:=(e.block g h.lt).trans h
theorem B4.keep{w:World}{g:Nat}{a b c d:Int}(h:B4 w g a b c d):(w.cell? ⟨g,0,none⟩=some (jI jJ a)/\w.cell? ⟨g,1,none⟩=some (jI jJ b)/\w.cell? ⟨g,2,none⟩=some (jI jJ c)/\w.cell? ⟨g,3,none⟩=some (jI jJ d))/\w.frozen? ⟨g,0,none⟩=false/\w.frozen? ⟨g,1,none⟩=false/\w.frozen? ⟨g,2,none⟩=false/\w.frozen? ⟨g,3,none⟩=false:=by
 unfold B4 at h;refine⟨⟨?_,?_,?_,?_⟩,?_,?_,?_,?_⟩<;>simp[World.cell?,World.frozen?,h]
theorem B4.write{w:World}{g:Nat}{a b c d:Int}(h:B4 w g a b c d)(x y z u:Int):B4 ((((w.setCell ⟨g,0,none⟩ (jI jJ x)).setCell ⟨g,1,none⟩ (jI jJ y)).setCell ⟨g,2,none⟩ (jI jJ z)).setCell ⟨g,3,none⟩ (jI jJ u)) g x y z u:=by
 unfold B4 at*;simp[qK,h,Array.getElem?_modify]
theorem An(w:World)(a b c d e f g h:Int):∃W,W=((w.alloc (jC ⟨[jI jJ a,jI jJ b,jI jJ c,jI jJ d]⟩ 33)).alloc (jC ⟨[jI jJ e,jI jJ f,jI jJ g,jI jJ h]⟩ 33)).alloc (jC #[jI jJ 0,jI jJ 0,jI jJ 0,jI jJ 0] 33)/\B4 W w.heap.size a b c d/\B4 W (w.heap.size+1) e f g h/\B4 W (w.heap.size+1+1) 0 0 0 0/\W.heap.size=w.heap.size+3/\Below w.heap.size w W:=by
 have j:B4 (w.alloc (jC ⟨[jI jJ a,jI jJ b,jI jJ c,jI jJ d]⟩ 33)) w.heap.size a b c d:=heap_alloc_new w _;have i:∀(W:World) o,Below W.heap.size W (W.alloc o):=fun W o=>(zD _ _).alloc (zC _) o;have k:B4 ((w.alloc (jC ⟨[jI jJ a,jI jJ b,jI jJ c,jI jJ d]⟩ 33)).alloc (jC ⟨[jI jJ e,jI jJ f,jI jJ g,jI jJ h]⟩ 33)) (w.heap.size+1) e f g h:=by
  have:=heap_alloc_new (w.alloc (jC ⟨[jI jJ a,jI jJ b,jI jJ c,jI jJ d]⟩ 33)) (jC ⟨[jI jJ e,jI jJ f,jI jJ g,jI jJ h]⟩ 33);have z:(w.alloc (jC ⟨[jI jJ a,jI jJ b,jI jJ c,jI jJ d]⟩ 33)).heap.size=w.heap.size+1:=by simp
  rw[z]at this;exact this
 have l:B4 (((w.alloc (jC ⟨[jI jJ a,jI jJ b,jI jJ c,jI jJ d]⟩ 33)).alloc (jC ⟨[jI jJ e,jI jJ f,jI jJ g,jI jJ h]⟩ 33)).alloc (jC #[jI jJ 0,jI jJ 0,jI jJ 0,jI jJ 0] 33)) (w.heap.size+1+1) 0 0 0 0:=by
  have:=heap_alloc_new ((w.alloc (jC ⟨[jI jJ a,jI jJ b,jI jJ c,jI jJ d]⟩ 33)).alloc (jC ⟨[jI jJ e,jI jJ f,jI jJ g,jI jJ h]⟩ 33)) (jC #[jI jJ 0,jI jJ 0,jI jJ 0,jI jJ 0] 33);have z:((w.alloc (jC ⟨[jI jJ a,jI jJ b,jI jJ c,jI jJ d]⟩ 33)).alloc (jC ⟨[jI jJ e,jI jJ f,jI jJ g,jI jJ h]⟩ 33)).heap.size=w.heap.size+1+1:=by simp
  rw[z]at this;exact this
 exact⟨_,rfl,(j.next (i _ _)).next (i _ _),k.next (i _ _),l,by simp,(((zD _ _).alloc (zC _) _).alloc (by simp) _).alloc (by simp;omega) _⟩
theorem Ly{w a W w1:World}{lo hi:Int}(h:((W.cell? ⟨a.heap.size,0,none⟩=some (jI jJ lo)/\W.cell? ⟨a.heap.size,1,none⟩=some (jI jJ hi))/\Below w.heap.size w W))(b:Below W.heap.size W w1):((w1.cell? ⟨a.heap.size,0,none⟩=some (jI jJ lo)/\w1.cell? ⟨a.heap.size,1,none⟩=some (jI jJ hi))/\Below w.heap.size w w1):=by
 obtain⟨⟨c,e⟩,d⟩:=h;have s1:=World.block_lt_of_cell? W _ c;exact⟨⟨(b.cell (p:=⟨a.heap.size,0,none⟩) s1).trans c,(b.cell (p:=⟨a.heap.size,1,none⟩) s1).trans e⟩,d.trans (b.mono d.size)⟩
theorem TH{w a W:World}{lo hi:Int}(e:w.heap.size+1+1<a.heap.size)(h:((W.cell? ⟨a.heap.size,0,none⟩=some (jI jJ lo)/\W.cell? ⟨a.heap.size,1,none⟩=some (jI jJ hi))/\Below w.heap.size w W))(x y z u:Value):((((((W.setCell ⟨w.heap.size+1+1,0,none⟩ x).setCell ⟨w.heap.size+1+1,1,none⟩ y).setCell ⟨w.heap.size+1+1,2,none⟩ z).setCell ⟨w.heap.size+1+1,3,none⟩ u).cell? ⟨a.heap.size,0,none⟩=some (jI jJ lo)/\((((W.setCell ⟨w.heap.size+1+1,0,none⟩ x).setCell ⟨w.heap.size+1+1,1,none⟩ y).setCell ⟨w.heap.size+1+1,2,none⟩ z).setCell ⟨w.heap.size+1+1,3,none⟩ u).cell? ⟨a.heap.size,1,none⟩=some (jI jJ hi))/\Below w.heap.size w ((((W.setCell ⟨w.heap.size+1+1,0,none⟩ x).setCell ⟨w.heap.size+1+1,1,none⟩ y).setCell ⟨w.heap.size+1+1,2,none⟩ z).setCell ⟨w.heap.size+1+1,3,none⟩ u)):=by
 obtain⟨⟨b,c⟩,d⟩:=h;have n:w.heap.size+1+1≠a.heap.size:=by omega
 refine⟨⟨?_,?_⟩,(((d.setCell (by simp;omega) _).setCell (by simp;omega) _).setCell (by simp;omega) _).setCell (by simp;omega) _⟩
 ·rw[World.cell?_setCell_far _ _ _ _ n,World.cell?_setCell_far _ _ _ _ n,World.cell?_setCell_far _ _ _ _ n,World.cell?_setCell_far _ _ _ _ n];exact b
 ·rw[World.cell?_setCell_far _ _ _ _ n,World.cell?_setCell_far _ _ _ _ n,World.cell?_setCell_far _ _ _ _ n,World.cell?_setCell_far _ _ _ _ n];exact c
def Ny(w:World)(e:Ending)(w':World):Prop:=∃x y:Int,e=.returned (jA #[jI jJ x,jI jJ y])/\Below w.heap.size w w'
theorem Tn(A:Option Addr)(n k:Nat)(l:List Pr)(w:World)(h:Arcs w A n l):Calls zB 36 #[.slice A n k] w (Ny w):=(To A n k l w h).mono fun _ _ h=>h
end
section
open Go.RowKit
open Ev (aF)
attribute [local instance] nP
open Classical in
def GB(a b c d e f g h:Int):Bool:=decide (max a e<=min b f/\RX c d g h)
open Classical in
theorem TX{a b c d e f g h:Int}:GB a b c d e f g h=true↔max a e<=min b f/\RX c d g h:=by
 unfold GB;exact decide_eq_true_iff
def AM(m:Bool)(w:World)(e:Ending)(w':World):Prop:=∃x y z u:Int,e=.returned (.tuple #[jA #[jI jJ x,jI jJ y,jI jJ z,jI jJ u],jI jJ (cond m 0 23)])/\Below w.heap.size w w'
theorem PX {a b c d e f g h:Int}(v1:cT a b c d=true)(v2:cT e f g h=true)(k1:iY c d)(k2:iY g h)(w:World):
    Calls zB 16 #[jA ⟨[jI jJ a,jI jJ b,jI jJ c,jI jJ d]⟩,jA ⟨[jI jJ e,jI jJ f,jI jJ g,jI jJ h]⟩] w (AM (GB a b c d e f g h) w):=by
  obtain⟨W,hW,B1,B2,B3,hs,hb⟩:=An w a b c d e f g h
  have Q:=zA (fun w=>at1 (fE a b c d) w)
  have R:=zA (fun w=>at1 (fE e f g h) w)
  rw[v1]at Q
  rw[v2]at R
  have s:=zA (fun w=>Dq k1 k2 w)
  have j:=zA (show GB a b c d e f g h=true↔max a e<=min b f/\RX c d g h from TX)
  obtain⟨Z,b0⟩:∃Z,Z=GB a b c d e f g h:=⟨_,rfl⟩
  rw[<-b0]at j ⊢
  have a2:=zA B1
  have a3:=zA B2
  have a4:=zA B3
  have a5:=zA hb
  obtain⟨⟨p0,p1,p2,p3⟩,_,_,_,_⟩:=B1.keep
  clear v1 v2 B1 B2 B3 hb k1 k2 b0
  unfold aG at s
  go_enter Tryz.func16,Tryz.ntmps16
  go_wp2_with fail
  rw[<-hW]
  refine(Q.out _).mono ?_
  rintro _ w1 ⟨rfl,t⟩
  have q:=zA (a5.out.trans (t.mono (by omega)))
  have a0:=zA (a2.out.next t)
  have J:=zA (a3.out.next t)
  have a1:=zA (a4.out.next t)
  clear t p0 p1 p2 p3 a2 a3 a4 a5 Q
  obtain⟨⟨p0,p1,p2,p3⟩,_,_,_,_⟩:=J.out.keep
  go_wp2_with fail
  refine(R.out _).mono ?_
  rintro _ z ⟨rfl,u⟩
  have H:=zA (q.out.trans (u.mono q.out.size))
  have K:=zA (a0.out.next u)
  have L:=zA (J.out.next u)
  have M:=zA (a1.out.next u)
  clear u p0 p1 p2 p3 a0 J a1 q R
  obtain⟨⟨p0,p1,p2,p3⟩,_,_,_,_⟩:=K.out.keep
  obtain⟨⟨q0,q1,q2,q3⟩,_,_,_,_⟩:=L.out.keep
  have c6:w.heap.size<z.heap.size:=K.out.lt
  have c7:w.heap.size+1<z.heap.size:=L.out.lt
  have G:w.heap.size+1+1<z.heap.size:=M.out.lt
  obtain⟨lo,X⟩:∃x,x=max a e:=⟨_,rfl⟩
  obtain⟨hi,V⟩:∃x,x=min b f:=⟨_,rfl⟩
  go_wp2_with fail
  rw[<-X,<-V]
  rw[<-X,<-V]at j
  have E:=zA (Bx.new z lo hi)
  have N:=zA ((zD z.heap.size z).alloc (zC _) (jC #[jI jJ lo,jI jJ hi] 31))
  have B:=zA (M.out.next N.out)
  have I:=zA (H.out.trans (N.out.mono H.out.size))
  clear p0 p1 p2 p3 q0 q1 q2 q3 X V K L M N
  refine(s.out _).mono ?_
  rintro _ w3 ⟨A,n,kk,l,rfl,hA,p,k⟩
  have HA:=zA hA
  have r:=zA (I.out.trans (p.mono I.out.size))
  have m:=zA (B.out.next p)
  have D:=zA (E.out.next p)
  obtain⟨r0,r1,_,_⟩:=D.out.keep
  obtain⟨⟨t0,t1,t2,t3⟩,f0,f1,f2,f3⟩:=m.out.keep
  have HX:=zA (show((w3.cell? ⟨z.heap.size,0,none⟩=some (jI jJ lo)/\w3.cell? ⟨z.heap.size,1,none⟩=some (jI jJ hi))/\Below w.heap.size w w3)from⟨⟨r0,r1⟩,r.out⟩)
  have y:∀W',Below w.heap.size w W'->AM false w (.returned (.tuple #[jA #[jI jJ 0,jI jJ 0,jI jJ 0,jI jJ 0],jI jJ 23])) W':=fun W' hb=>⟨0,0,0,0,rfl,hb⟩
  have U:=zA y
  clear y
  by_cases a9:hi<lo
  · have Y:Z=false:=by
      cases Z with
      |false=>rfl
      |true=>have:=(j.out.1 rfl).1;omega
    subst Y
    obtain⟨⟨g0,g1,g2,g3⟩,_⟩:=(B4.write m.out 0 0 0 0).keep
    have O:=zA (TH (lo:=lo) (hi:=hi) G ⟨⟨r0,r1⟩,r.out⟩ (jI jJ 0) (jI jJ 0) (jI jJ 0) (jI jJ 0)).2
    clear hA p k j s E B D
    go_wp2
    refine bodyPost_ret (v:=.tuple #[jA #[jI jJ 0,jI jJ 0,jI jJ 0,jI jJ 0],jI jJ 23]) (by simp[results,Tryz.results16,go_sem,g0,g1,g2,g3]) rfl (U.out _ O.out)
  by_cases b1:n=0
  · have Y:Z=false:=by
      cases Z with
      |false=>rfl
      |true=>have:=k.1 (j.out.1 rfl).2;omega
    subst Y
    subst b1
    obtain⟨⟨g0,g1,g2,g3⟩,_⟩:=(B4.write m.out 0 0 0 0).keep
    have O:=zA (TH (lo:=lo) (hi:=hi) G ⟨⟨r0,r1⟩,r.out⟩ (jI jJ 0) (jI jJ 0) (jI jJ 0) (jI jJ 0)).2
    clear hA p k j s E B D
    go_wp2
    refine bodyPost_ret (v:=.tuple #[jA #[jI jJ 0,jI jJ 0,jI jJ 0,jI jJ 0],jI jJ 23]) (by simp[results,Tryz.results16,go_sem,g0,g1,g2,g3]) rfl (U.out _ O.out)
  · have b4:Z=true:=j.out.2 ⟨by omega,k.2 (by omega)⟩
    subst b4
    have c4:((n:Int)==0)=false:=beq_eq_false_iff_ne.2 (by omega)
    have c5:¬hi<lo:=a9
    clear j k U a9 b1
    have b3:=zA (Tn A n kk l w3 HA.out)
    have b2:=zA (Tn A n kk l w3.drew (HA.out.below (xO (zD _ _)) (zC _)))
    have a7:=zA (xO (zD w3.heap.size w3))
    clear hA p s E B D t0 t1 t2 t3 f0 f1 f2 f3
    go_wp2_with fail
    clear r0 r1
    go_region_held3 (fun w'=>((w'.cell? ⟨z.heap.size,0,none⟩=some (jI jJ lo)/\w'.cell? ⟨z.heap.size,1,none⟩=some (jI jJ hi))/\Below w.heap.size w w'))
      (first
        |(with_reducible exact HX.out)
        |(with_reducible exact SS.out)
        |(with_reducible exact Ly HX.out (xO (zD _ _)))
        |(with_reducible exact TH G SS.out _ _ _ _)
        |(with_reducible exact Ly SS.out (xO (zD _ _)))
        |fail)
      (first
        | (go_at_call 36
           with_reducible refine b3.out.mono ?_
           rintro e w5 ⟨x5,y5,rfl,o⟩
           have SS:=zA (Ly (w1:=w5) (by assumption) o)
           have a6:=zA (m.out.next o)
           have i:=(m.out.next o).keep
           have b9:=i.1.1
           have c0:=i.1.2.1
           have c2:=i.1.2.2.1
           have c3:=i.1.2.2.2
           have b5:=i.2.1
           have b6:=i.2.2.1
           have b7:=i.2.2.2.1
           have b8:=i.2.2.2.2)
        | (go_at_call 36
           with_reducible refine b2.out.mono ?_
           rintro e w5 ⟨x5,y5,rfl,o⟩
           have SS:=zA (Ly (w1:=w5) (by assumption) o)
           have a6:=zA ((m.out.next a7.out).next o)
           have i:=((m.out.next a7.out).next o).keep
           have b9:=i.1.1
           have c0:=i.1.2.1
           have c2:=i.1.2.2.1
           have c3:=i.1.2.2.2
           have b5:=i.2.1
           have b6:=i.2.2.1
           have b7:=i.2.2.2.1
           have b8:=i.2.2.2.2)
        |fail)
    all_goals (
      obtain⟨⟨g0,g1,g2,g3⟩,_⟩:=(B4.write a6.out lo hi x5 y5).keep
      have HF:=zA (show AM true w (.returned (.tuple #[jA #[jI jJ lo,jI jJ hi,jI jJ x5,jI jJ y5],jI jJ 0])) _ from⟨lo,hi,x5,y5,rfl,(TH G SS.out (jI jJ lo) (jI jJ hi) (jI jJ x5) (jI jJ y5)).2⟩)
      go_wp2
      refine bodyPost_ret (v:=.tuple #[jA #[jI jJ lo,jI jJ hi,jI jJ x5,jI jJ y5],jI jJ 0]) (by simp[results,Tryz.results16,go_sem,g0,g1,g2,g3]) rfl HF.out)
end
section
open Go.RowKit Rg
open Ev (aF lt)
attribute [local instance] nP
def PO(q:Int×Int×Int×Int):Bool:=decide (-5400000<=q.1/\q.1<q.2.1/\q.2.1<=5400000/\-10800000<=q.2.2.1/\q.2.2.1<q.2.2.2/\q.2.2.2<=10800000/\q.2.2.2-q.2.2.1<=10800000)
theorem aA4:eM (fun n=>PO (qB ⟨0,n⟩)) 2=true:=by kernel_rfl
theorem aA5:eM (fun n=>PO (qB ⟨1,n⟩)) 8=true:=by kernel_rfl
theorem aA6:eM (fun n=>PO (qB ⟨2,n⟩)) 32=true:=by kernel_rfl
theorem aA7:eM (fun n=>PO (qB ⟨3,n⟩)) 128=true:=by kernel_rfl
theorem aA8:eM (fun n=>PO (qB ⟨4,n⟩)) 512=true:=by kernel_rfl
theorem aA9:eM (fun n=>PO (qB ⟨5,n⟩)) 2048=true:=by kernel_rfl
theorem iB(b:Rg.Blk)(a:b.l<=5)(c:b.n<2*4^b.l):-5400000<=(qB b).1/\(qB b).1<(qB b).2.1/\(qB b).2.1<=5400000/\-10800000<=(qB b).2.2.1/\(qB b).2.2.1<(qB b).2.2.2/\(qB b).2.2.2<=10800000/\(qB b).2.2.2-(qB b).2.2.1<=10800000:=by
 obtain⟨l,n⟩:=b;dsimp only at a c;rcases(show l=0\/l=1\/l=2\/l=3\/l=4\/l=5 by omega)with rfl|rfl|rfl|rfl|rfl|rfl
 ·exact of_decide_eq_true (gV aA4 n (by omega))
 ·exact of_decide_eq_true (gV aA5 n (by omega))
 ·exact of_decide_eq_true (gV aA6 n (by omega))
 ·exact of_decide_eq_true (gV aA7 n (by omega))
 ·exact of_decide_eq_true (gV aA8 n (by omega))
 ·exact of_decide_eq_true (gV aA9 n (by omega))
theorem mL{a b c d:Int}(e:-5400000<=a)(f:a<=b)(g:b<=5400000)(k:iY c d):cT a b c d=true:=by
 unfold cT FU QT;rw[decide_eq_true (show a<=b from f),decide_eq_true (show a>=-5400000 from e),decide_eq_true (show b<=5400000 from g),II];simp only[cond_true];rcases k with k|⟨h,i,j,l⟩
 ·rw[decide_eq_true k,cond_true]
 ·rw[bZ (x:=d-c) (by omega),decide_eq_true (show c>=-10800000 from h),decide_eq_true i,decide_eq_true (show c<=d from j),decide_eq_true l];simp
theorem LC(b:Rg.Blk)(a:b.l<=5)(c:b.n<2*4^b.l):iY (qB b).2.2.1 (qB b).2.2.2:=by
 have h:=iB b a c;exact .inr (by omega)
theorem XR(b:Rg.Blk)(a:b.l<=5)(c:b.n<2*4^b.l):cT (qB b).1 (qB b).2.1 (qB b).2.2.1 (qB b).2.2.2=true:=by
 have h:=iB b a c;exact mL (by omega) (by omega) (by omega) (LC b a c)
theorem Gm{a b c d e f g h:Int}(B:cT a b c d=true)(D:cT e f g h=true)(v:iY c d)(A:iY g h)(w:World):
  Calls zB 129 #[jA #[jI jJ a,jI jJ b,jI jJ c,jI jJ d],jA #[jI jJ e,jI jJ f,jI jJ g,jI jJ h]] w (GP (.bool (GB a b c d e f g h)) w):=by
 obtain⟨W,t,j,r,B2⟩:∃W,W=(w.alloc (jC #[jI jJ a,jI jJ b,jI jJ c,jI jJ d] 33)).alloc (jC #[jI jJ e,jI jJ f,jI jJ g,jI jJ h] 33)/\Below w.heap.size w W/\B4 W w.heap.size a b c d/\B4 W (w.heap.size+1) e f g h:=by
  refine⟨_,rfl,((zD _ _).alloc (zC _) _).alloc (by simp) _,B4.next (heap_alloc_new w _) ((zD _ _).alloc (zC _) _),?_⟩;have:=heap_alloc_new (w.alloc (jC #[jI jJ a,jI jJ b,jI jJ c,jI jJ d] 33)) (jC #[jI jJ e,jI jJ f,jI jJ g,jI jJ h] 33);rw[show(w.alloc (jC #[jI jJ a,jI jJ b,jI jJ c,jI jJ d] 33)).heap.size=w.heap.size+1 by simp]at this;exact this
 have s:=zA (PX B D v A W);have m:=zA j;obtain⟨⟨E,G,H,I⟩,_,_,_,_⟩:=r.keep;obtain⟨⟨J,K,L,M⟩,_,_,_,_⟩:=B2.keep;obtain⟨q,o⟩:∃q,q=GB a b c d e f g h:=⟨_,rfl⟩;rw[<-o]at s ⊢;clear B D v A j o r B2;go_enter Tryz.func129,Tryz.ntmps129;go_wp2_with fail
 rw[<-t];clear t;refine s.out.mono ?_;rintro _ N ⟨x,y,z,u,rfl,n⟩;have k:=zA (m.out.trans (n.mono m.out.size));have l:=zA (k.out.alloc k.out.size (jC #[jI jJ x,jI jJ y,jI jJ z,jI jJ u] 33));clear n E G H I J K L M;cases q with
 |true=>
  have p:=zA (show ∀i,Below w.heap.size w i->GP (.bool true) w (.returned (.bool true)) i from fun i j=>⟨rfl,j⟩);go_wp2;go_ret;exact p.out _ l.out
 |false=>
  have p:=zA (show ∀i,Below w.heap.size w i->GP (.bool false) w (.returned (.bool false)) i from fun i j=>⟨rfl,j⟩);go_wp2;go_ret;exact p.out _ l.out
def gF(p:Int×Int×Int×Int)(b:Rg.Blk):Bool:=GB p.1 p.2.1 p.2.2.1 p.2.2.2 (qB b).1 (qB b).2.1 (qB b).2.2.1 (qB b).2.2.2
def fI(p:Int×Int×Int×Int)(b:Rg.Blk):Bool:=aDD (qB b).1 (qB b).2.1 (qB b).2.2.1 (qB b).2.2.2 p.1 p.2.1 p.2.2.1 p.2.2.2
theorem aBF{p:Int×Int×Int×Int}(e:cT p.1 p.2.1 p.2.2.1 p.2.2.2=true)(d:iY p.2.2.1 p.2.2.2):BoxH p qB (gF p) (fI p) where
 box:=D0
 meets:=fun b a c w=>Gm e (XR b a c) d (LC b a c) w
 inside:=fun _ _ _ w=>aI (Gd _ _ _ _ _ _ _ _) w
end
section
open Go.RowKit Rg
attribute [local go_sem] Oper.semAt_some
abbrev fT:=Int×Int×Int×Int×Int×Int
def FY(c:fT):List Value:=[jI jJ c.1,jI jJ c.2.1,jI jJ c.2.2.1,jI jJ c.2.2.2.1,jI jJ c.2.2.2.2.1,jI jJ c.2.2.2.2.2]
def oS:Elem fT:=⟨FY,6,fun _=>rfl,fun x v h=>by simp[FY]at h;rcases h with rfl|rfl|rfl|rfl|rfl|rfl<;>rfl⟩
abbrev cF:=Int×Int×Int×Int
def aAW(c:cF):List Value:=[jI jJ c.1,jI jJ c.2.1,jI jJ c.2.2.1,jI jJ c.2.2.2]
def pK:Elem cF:=⟨aAW,4,fun _=>rfl,fun x v h=>by simp[aAW]at h;rcases h with rfl|rfl|rfl|rfl<;>rfl⟩
theorem bT.cir{e:TypeId}{w:World}{B:Nat}{v:Value}{l:List fT}(h:bT oS e w B v l){i:Nat}{b:fT}(o:l[i]? =some b):∃g cap,v=.slice (some ⟨g,0,none⟩) l.length cap/\B<=g/\g<w.heap.size/\∃c x1 x2 d f j:Int,b=(c,x1,x2,d,f,j)/\
  w.cell? ⟨g,i*6,none⟩=some (jI jJ c)/\w.cell? ⟨g,i*6+1,none⟩=some (jI jJ x1)/\w.cell? ⟨g,i*6+2,none⟩=some (jI jJ x2)/\w.cell? ⟨g,i*6+3,none⟩=some (jI jJ d)/\w.cell? ⟨g,i*6+4,none⟩=some (jI jJ f)/\w.cell? ⟨g,i*6+5,none⟩=some (jI jJ j):=by
 obtain⟨g,cap,k,m,n,a⟩:=h.at_ o;exact⟨g,cap,k,m,n,_,_,_,_,_,_,rfl,a 0 (by decide),a 1 (by decide),a 2 (by decide),a 3 (by decide),a 4 (by decide),a 5 (by decide)⟩
theorem bT.qua{e:TypeId}{w:World}{B:Nat}{v:Value}{l:List cF}(h:bT pK e w B v l){i:Nat}{b:cF}(m:l[i]? =some b):∃g cap,v=.slice (some ⟨g,0,none⟩) l.length cap/\B<=g/\g<w.heap.size/\∃c x1 x2 d:Int,b=(c,x1,x2,d)/\
  w.cell? ⟨g,i*4,none⟩=some (jI jJ c)/\w.cell? ⟨g,i*4+1,none⟩=some (jI jJ x1)/\w.cell? ⟨g,i*4+2,none⟩=some (jI jJ x2)/\w.cell? ⟨g,i*4+3,none⟩=some (jI jJ d):=by
 obtain⟨g,cap,f,j,k,a⟩:=h.at_ m;exact⟨g,cap,f,j,k,_,_,_,_,rfl,a 0 (by decide),a 1 (by decide),a 2 (by decide),a 3 (by decide)⟩
def cE(b:Bool)(w:World)(e:Ending)(w':World):Prop:=∃i:Int,e=.returned (jI jJ i)/\(0<=i↔b=true)/\Below w.heap.size w w'
theorem iO{α:Type}(p:α->Bool){L:List α}{i:Nat}{b:α}(a:L[i]? =some b)(h:(L.take i).any p=false):(L.take (i+1)).any p=p b:=by
 rw[List.take_add_one,a];simp[h]
theorem eC{α:Type}(p:α->Bool){L:List α}{i:Nat}(h:(L.take i).any p=true):L.any p=true:=by
 rw[List.any_eq_true]at h ⊢;obtain⟨x,a,b⟩:=h;exact⟨x,List.mem_of_mem_take a,b⟩
theorem Py{p:fT->Bool}{L:List fT}{v:Value}(M:L.length<=100000000)(w:World)(h:bT oS 49 w 0 v L)(hF:∀c∈L,∀w1,Below w.heap.size w w1->Calls zB 204 #[jA ⟨oS.enc c⟩] w1 (GP (.bool (p c)) w1)):
  Calls zB 99 #[v,.func (.func 204) #[] #[]] w (cE (L.any p) w):=by
 obtain⟨A,c,rfl⟩:=h.slice;have E:=zA h;have D:=zA hF;have s:=zA (zD w.heap.size w);clear h hF;go_enter Tryz.func99,Tryz.ntmps99;go_wp2_with fail
 go_loopw [8] (fun z wr=>∃i:Nat,i<=L.length/\z=jI jJ (i:Int)/\(L.take i).any p=false/\Below w.heap.size w wr) (fun z _=>L.length-(intOf z).toNat)
 case atStart=>exact⟨0,by omega,rfl,by simp,s.out⟩
 case round=>
  obtain⟨i,hi,rfl,n,a⟩:=hrel;have f:=zA n;clear n;by_cases m:i<L.length
  ·obtain⟨b,r⟩:∃b,L[i]? =some b:=⟨_,List.getElem?_eq_getElem m⟩;obtain⟨g,G,J,_,K,N,O,Q,R,U,V,k,H,d1,d2,d3,d4,I⟩:=(E.out.next a).cir r;cases J;have u:=zA (iO p r f.out);have q:=zA (D.out b (List.mem_of_getElem? r) wr a);obtain⟨y,o⟩:∃y,y=p b:=⟨_,rfl⟩;rw[<-o]at u q;rw[k]at q;have B:=zA a;clear a r k o;unfold oS FY at q;go_wp2_with fail
   refine q.out.mono ?_;rintro e w1 ⟨rfl,j⟩;have d:=zA (B.out.trans (j.mono B.out.size));clear j H d1 d2 d3 d4 I;cases y with
   |true=>
    have t:=zA (show cE (L.any p) w (.returned (jI jJ (i:Int))) w1 from⟨_,rfl,⟨fun _=>eC p u.out,fun _=>by omega⟩,d.out⟩);go_wp2_with fail
    go_ret;exact t.out
   |false=>
    go_wp2_with fail
    refine⟨⟨i+1,m,by go_num,u.out,d.out⟩,?_⟩;simp only[intOf];omega
  ·have x:i=L.length:=by omega
   have t:=zA (show cE (L.any p) w (.returned (jI jJ (-1))) wr from⟨_,rfl,⟨fun h=>absurd h (by decide),fun h=>by rw[<-qX (l:=L),<-x,f.out]at h;exact absurd h (by decide)⟩,a⟩);clear a;go_wp2_with fail
   go_ret;exact t.out
theorem Ou{p:fT->Bool}{L:List fT}{v:Value}(k:L.length<=100000000)(w:World)(h:bT oS 49 w 0 v L)(hF:∀c∈L,∀w1,Below w.heap.size w w1->Calls zB 204 #[jA ⟨oS.enc c⟩] w1 (GP (.bool (p c)) w1)):
  Calls zB 61 #[v,.func (.func 204) #[] #[]] w (GP (.bool (L.any p)) w):=by
 have f:=zA (Py k w h hF);obtain⟨A,c,rfl⟩:=h.slice;obtain⟨b,a⟩:∃b,b=L.any p:=⟨_,rfl⟩;rw[<-a]at f ⊢;clear h hF a;go_enter Tryz.func61,Tryz.ntmps61;go_wp2_with fail
 refine f.out.mono ?_;rintro e w1 ⟨i,rfl,hi,g⟩;have d:=zA g;clear g;cases b with
 |true=>
  have j:i>=0:=hi.2 rfl;go_wp2_with fail
  go_ret;exact⟨rfl,d.out⟩
 |false=>
  have j:¬i>=0:=fun h=>absurd (hi.1 h) (by decide);go_wp2_with fail
  go_ret;exact⟨rfl,d.out⟩
theorem aAd{bp:Nat}{p:fT->Bool}{L:List fT}{v:Value}(M:L.length<=100000000)(w:World)(h:bT oS 49 w 0 v L)(hF:∀c∈L,∀w1,Below w.heap.size w w1->Calls zB 205 #[jA ⟨oS.enc c⟩,.pointer (some ⟨bp,0,none⟩)] w1 (GP (.bool (p c)) w1)):
  Calls zB 99 #[v,.func (.func 205) #[] #[.pointer (some ⟨bp,0,none⟩)]] w (cE (L.any p) w):=by
 obtain⟨A,c,rfl⟩:=h.slice;have E:=zA h;have D:=zA hF;have s:=zA (zD w.heap.size w);clear h hF;go_enter Tryz.func99,Tryz.ntmps99;go_wp2_with fail
 go_loopw [8] (fun z wr=>∃i:Nat,i<=L.length/\z=jI jJ (i:Int)/\(L.take i).any p=false/\Below w.heap.size w wr) (fun z _=>L.length-(intOf z).toNat)
 case atStart=>exact⟨0,by omega,rfl,by simp,s.out⟩
 case round=>
  obtain⟨i,hi,rfl,n,a⟩:=hrel;have f:=zA n;clear n;by_cases m:i<L.length
  ·obtain⟨b,r⟩:∃b,L[i]? =some b:=⟨_,List.getElem?_eq_getElem m⟩;obtain⟨g,G,J,_,K,N,O,Q,R,U,V,k,H,d1,d2,d3,d4,I⟩:=(E.out.next a).cir r;cases J;have u:=zA (iO p r f.out);have q:=zA (D.out b (List.mem_of_getElem? r) wr a);obtain⟨y,o⟩:∃y,y=p b:=⟨_,rfl⟩;rw[<-o]at u q;rw[k]at q;have B:=zA a;clear a r k o;unfold oS FY at q;go_wp2_with fail
   refine q.out.mono ?_;rintro e w1 ⟨rfl,j⟩;have d:=zA (B.out.trans (j.mono B.out.size));clear j H d1 d2 d3 d4 I;cases y with
   |true=>
    have t:=zA (show cE (L.any p) w (.returned (jI jJ (i:Int))) w1 from⟨_,rfl,⟨fun _=>eC p u.out,fun _=>by omega⟩,d.out⟩);go_wp2_with fail
    go_ret;exact t.out
   |false=>
    go_wp2_with fail
    refine⟨⟨i+1,m,by go_num,u.out,d.out⟩,?_⟩;simp only[intOf];omega
  ·have x:i=L.length:=by omega
   have t:=zA (show cE (L.any p) w (.returned (jI jJ (-1))) wr from⟨_,rfl,⟨fun h=>absurd h (by decide),fun h=>by rw[<-qX (l:=L),<-x,f.out]at h;exact absurd h (by decide)⟩,a⟩);clear a;go_wp2_with fail
   go_ret;exact t.out
theorem X3{bp:Nat}{p:fT->Bool}{L:List fT}{v:Value}(k:L.length<=100000000)(w:World)(h:bT oS 49 w 0 v L)(hF:∀c∈L,∀w1,Below w.heap.size w w1->Calls zB 205 #[jA ⟨oS.enc c⟩,.pointer (some ⟨bp,0,none⟩)] w1 (GP (.bool (p c)) w1)):
  Calls zB 61 #[v,.func (.func 205) #[] #[.pointer (some ⟨bp,0,none⟩)]] w (GP (.bool (L.any p)) w):=by
 have f:=zA (aAd k w h hF);obtain⟨A,c,rfl⟩:=h.slice;obtain⟨b,a⟩:∃b,b=L.any p:=⟨_,rfl⟩;rw[<-a]at f ⊢;clear h hF a;go_enter Tryz.func61,Tryz.ntmps61;go_wp2_with fail
 refine f.out.mono ?_;rintro e w1 ⟨i,rfl,hi,g⟩;have d:=zA g;clear g;cases b with
 |true=>
  have j:i>=0:=hi.2 rfl;go_wp2_with fail
  go_ret;exact⟨rfl,d.out⟩
 |false=>
  have j:¬i>=0:=fun h=>absurd (hi.1 h) (by decide);go_wp2_with fail
  go_ret;exact⟨rfl,d.out⟩
theorem Xj{bp:Nat}{p:fT->Bool}{L:List fT}{v:Value}(M:L.length<=100000000)(w:World)(h:bT oS 49 w 0 v L)(hF:∀c∈L,∀w1,Below w.heap.size w w1->Calls zB 255 #[jA ⟨oS.enc c⟩,.pointer (some ⟨bp,0,none⟩)] w1 (GP (.bool (p c)) w1)):
  Calls zB 99 #[v,.func (.func 255) #[] #[.pointer (some ⟨bp,0,none⟩)]] w (cE (L.any p) w):=by
 obtain⟨A,c,rfl⟩:=h.slice;have E:=zA h;have D:=zA hF;have s:=zA (zD w.heap.size w);clear h hF;go_enter Tryz.func99,Tryz.ntmps99;go_wp2_with fail
 go_loopw [8] (fun z wr=>∃i:Nat,i<=L.length/\z=jI jJ (i:Int)/\(L.take i).any p=false/\Below w.heap.size w wr) (fun z _=>L.length-(intOf z).toNat)
 case atStart=>exact⟨0,by omega,rfl,by simp,s.out⟩
 case round=>
  obtain⟨i,hi,rfl,n,a⟩:=hrel;have f:=zA n;clear n;by_cases m:i<L.length
  ·obtain⟨b,r⟩:∃b,L[i]? =some b:=⟨_,List.getElem?_eq_getElem m⟩;obtain⟨g,G,J,_,K,N,O,Q,R,U,V,k,H,d1,d2,d3,d4,I⟩:=(E.out.next a).cir r;cases J;have u:=zA (iO p r f.out);have q:=zA (D.out b (List.mem_of_getElem? r) wr a);obtain⟨y,o⟩:∃y,y=p b:=⟨_,rfl⟩;rw[<-o]at u q;rw[k]at q;have B:=zA a;clear a r k o;unfold oS FY at q;go_wp2_with fail
   refine q.out.mono ?_;rintro e w1 ⟨rfl,j⟩;have d:=zA (B.out.trans (j.mono B.out.size));clear j H d1 d2 d3 d4 I;cases y with
   |true=>
    have t:=zA (show cE (L.any p) w (.returned (jI jJ (i:Int))) w1 from⟨_,rfl,⟨fun _=>eC p u.out,fun _=>by omega⟩,d.out⟩);go_wp2_with fail
    go_ret;exact t.out
   |false=>
    go_wp2_with fail
    refine⟨⟨i+1,m,by go_num,u.out,d.out⟩,?_⟩;simp only[intOf];omega
  ·have x:i=L.length:=by omega
   have t:=zA (show cE (L.any p) w (.returned (jI jJ (-1))) wr from⟨_,rfl,⟨fun h=>absurd h (by decide),fun h=>by rw[<-qX (l:=L),<-x,f.out]at h;exact absurd h (by decide)⟩,a⟩);clear a;go_wp2_with fail
   go_ret;exact t.out
theorem Vk{bp:Nat}{p:fT->Bool}{L:List fT}{v:Value}(k:L.length<=100000000)(w:World)(h:bT oS 49 w 0 v L)(hF:∀c∈L,∀w1,Below w.heap.size w w1->Calls zB 255 #[jA ⟨oS.enc c⟩,.pointer (some ⟨bp,0,none⟩)] w1 (GP (.bool (p c)) w1)):
  Calls zB 61 #[v,.func (.func 255) #[] #[.pointer (some ⟨bp,0,none⟩)]] w (GP (.bool (L.any p)) w):=by
 have f:=zA (Xj k w h hF);obtain⟨A,c,rfl⟩:=h.slice;obtain⟨b,a⟩:∃b,b=L.any p:=⟨_,rfl⟩;rw[<-a]at f ⊢;clear h hF a;go_enter Tryz.func61,Tryz.ntmps61;go_wp2_with fail
 refine f.out.mono ?_;rintro e w1 ⟨i,rfl,hi,g⟩;have d:=zA g;clear g;cases b with
 |true=>
  have j:i>=0:=hi.2 rfl;go_wp2_with fail
  go_ret;exact⟨rfl,d.out⟩
 |false=>
  have j:¬i>=0:=fun h=>absurd (hi.1 h) (by decide);go_wp2_with fail
  go_ret;exact⟨rfl,d.out⟩
theorem aAe{p:fT->Bool}{L:List fT}{v:Value}(M:L.length<=100000000)(w:World)(h:bT oS 49 w 0 v L)(hF:∀c∈L,∀w1,Below w.heap.size w w1->Calls zB 62 #[jA ⟨oS.enc c⟩] w1 (GP (.bool (p c)) w1)):
  Calls zB 99 #[v,.func (.func 62) #[] #[]] w (cE (L.any p) w):=by
 obtain⟨A,c,rfl⟩:=h.slice;have E:=zA h;have D:=zA hF;have s:=zA (zD w.heap.size w);clear h hF;go_enter Tryz.func99,Tryz.ntmps99;go_wp2_with fail
 go_loopw [8] (fun z wr=>∃i:Nat,i<=L.length/\z=jI jJ (i:Int)/\(L.take i).any p=false/\Below w.heap.size w wr) (fun z _=>L.length-(intOf z).toNat)
 case atStart=>exact⟨0,by omega,rfl,by simp,s.out⟩
 case round=>
  obtain⟨i,hi,rfl,n,a⟩:=hrel;have f:=zA n;clear n;by_cases m:i<L.length
  ·obtain⟨b,r⟩:∃b,L[i]? =some b:=⟨_,List.getElem?_eq_getElem m⟩;obtain⟨g,G,J,_,K,N,O,Q,R,U,V,k,H,d1,d2,d3,d4,I⟩:=(E.out.next a).cir r;cases J;have u:=zA (iO p r f.out);have q:=zA (D.out b (List.mem_of_getElem? r) wr a);obtain⟨y,o⟩:∃y,y=p b:=⟨_,rfl⟩;rw[<-o]at u q;rw[k]at q;have B:=zA a;clear a r k o;unfold oS FY at q;go_wp2_with fail
   refine q.out.mono ?_;rintro e w1 ⟨rfl,j⟩;have d:=zA (B.out.trans (j.mono B.out.size));clear j H d1 d2 d3 d4 I;cases y with
   |true=>
    have t:=zA (show cE (L.any p) w (.returned (jI jJ (i:Int))) w1 from⟨_,rfl,⟨fun _=>eC p u.out,fun _=>by omega⟩,d.out⟩);go_wp2_with fail
    go_ret;exact t.out
   |false=>
    go_wp2_with fail
    refine⟨⟨i+1,m,by go_num,u.out,d.out⟩,?_⟩;simp only[intOf];omega
  ·have x:i=L.length:=by omega
   have t:=zA (show cE (L.any p) w (.returned (jI jJ (-1))) wr from⟨_,rfl,⟨fun h=>absurd h (by decide),fun h=>by rw[<-qX (l:=L),<-x,f.out]at h;exact absurd h (by decide)⟩,a⟩);clear a;go_wp2_with fail
   go_ret;exact t.out
theorem X8{p:fT->Bool}{L:List fT}{v:Value}(k:L.length<=100000000)(w:World)(h:bT oS 49 w 0 v L)(hF:∀c∈L,∀w1,Below w.heap.size w w1->Calls zB 62 #[jA ⟨oS.enc c⟩] w1 (GP (.bool (p c)) w1)):
  Calls zB 61 #[v,.func (.func 62) #[] #[]] w (GP (.bool (L.any p)) w):=by
 have f:=zA (aAe k w h hF);obtain⟨A,c,rfl⟩:=h.slice;obtain⟨b,a⟩:∃b,b=L.any p:=⟨_,rfl⟩;rw[<-a]at f ⊢;clear h hF a;go_enter Tryz.func61,Tryz.ntmps61;go_wp2_with fail
 refine f.out.mono ?_;rintro e w1 ⟨i,rfl,hi,g⟩;have d:=zA g;clear g;cases b with
 |true=>
  have j:i>=0:=hi.2 rfl;go_wp2_with fail
  go_ret;exact⟨rfl,d.out⟩
 |false=>
  have j:¬i>=0:=fun h=>absurd (hi.1 h) (by decide);go_wp2_with fail
  go_ret;exact⟨rfl,d.out⟩
theorem aAg{p:cF->Bool}{L:List cF}{v:Value}(K:L.length<=100000000)(w:World)(h:bT pK 37 w 0 v L)(hF:∀c∈L,∀w1,Below w.heap.size w w1->Calls zB 60 #[jA ⟨pK.enc c⟩] w1 (GP (.bool (p c)) w1)):
  Calls zB 89 #[v,.func (.func 60) #[] #[]] w (cE (L.any p) w):=by
 obtain⟨A,c,rfl⟩:=h.slice;have E:=zA h;have D:=zA hF;have s:=zA (zD w.heap.size w);clear h hF;go_enter Tryz.func89,Tryz.ntmps89;go_wp2_with fail
 go_loopw [8] (fun z wr=>∃i:Nat,i<=L.length/\z=jI jJ (i:Int)/\(L.take i).any p=false/\Below w.heap.size w wr) (fun z _=>L.length-(intOf z).toNat)
 case atStart=>exact⟨0,by omega,rfl,by simp,s.out⟩
 case round=>
  obtain⟨i,hi,rfl,n,a⟩:=hrel;have f:=zA n;clear n;by_cases m:i<L.length
  ·obtain⟨b,r⟩:∃b,L[i]? =some b:=⟨_,List.getElem?_eq_getElem m⟩;obtain⟨g,G,I,_,J,M,N,O,Q,k,H,d1,d2,d3⟩:=(E.out.next a).qua r;cases I;have u:=zA (iO p r f.out);have q:=zA (D.out b (List.mem_of_getElem? r) wr a);obtain⟨y,o⟩:∃y,y=p b:=⟨_,rfl⟩;rw[<-o]at u q;rw[k]at q;have B:=zA a;clear a r k o;unfold pK aAW at q;go_wp2_with fail
   refine q.out.mono ?_;rintro e w1 ⟨rfl,j⟩;have d:=zA (B.out.trans (j.mono B.out.size));clear j H d1 d2 d3;cases y with
   |true=>
    have t:=zA (show cE (L.any p) w (.returned (jI jJ (i:Int))) w1 from⟨_,rfl,⟨fun _=>eC p u.out,fun _=>by omega⟩,d.out⟩);go_wp2_with fail
    go_ret;exact t.out
   |false=>
    go_wp2_with fail
    refine⟨⟨i+1,m,by go_num,u.out,d.out⟩,?_⟩;simp only[intOf];omega
  ·have x:i=L.length:=by omega
   have t:=zA (show cE (L.any p) w (.returned (jI jJ (-1))) wr from⟨_,rfl,⟨fun h=>absurd h (by decide),fun h=>by rw[<-qX (l:=L),<-x,f.out]at h;exact absurd h (by decide)⟩,a⟩);clear a;go_wp2_with fail
   go_ret;exact t.out
theorem Y3{p:cF->Bool}{L:List cF}{v:Value}(k:L.length<=100000000)(w:World)(h:bT pK 37 w 0 v L)(hF:∀c∈L,∀w1,Below w.heap.size w w1->Calls zB 60 #[jA ⟨pK.enc c⟩] w1 (GP (.bool (p c)) w1)):
  Calls zB 49 #[v,.func (.func 60) #[] #[]] w (GP (.bool (L.any p)) w):=by
 have f:=zA (aAg k w h hF);obtain⟨A,c,rfl⟩:=h.slice;obtain⟨b,a⟩:∃b,b=L.any p:=⟨_,rfl⟩;rw[<-a]at f ⊢;clear h hF a;go_enter Tryz.func49,Tryz.ntmps49;go_wp2_with fail
 refine f.out.mono ?_;rintro e w1 ⟨i,rfl,hi,g⟩;have d:=zA g;clear g;cases b with
 |true=>
  have j:i>=0:=hi.2 rfl;go_wp2_with fail
  go_ret;exact⟨rfl,d.out⟩
 |false=>
  have j:¬i>=0:=fun h=>absurd (hi.1 h) (by decide);go_wp2_with fail
  go_ret;exact⟨rfl,d.out⟩
end
end
end Go.Proofs.YtlbklncoihhfcaaGreatDoor
