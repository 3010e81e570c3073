/-
  Regions: aligned blocks of numbers, tidy lists, unions, what covers and looks leave. No program here. Slices of cells, of spans, of integers, as.
-/
import Derived.Test.YtlbklncoihhfcaaGreatDoorProg
import Derived.WalkKit
import Derived.Lib.Hide
import Derived.Below
import Derived.Deep.Draws
import Derived.Deep.AppendLies
import Derived.Deep.QuietTactic
import Derived.BigQuiet
import Derived.WalkSpells
import Derived.Laws.OwnMore
import Derived.Deep.RegionHeld3
import Derived.Deep.RegionWith
import Derived.Deep.CutRange
set_option maxRecDepth 100000
set_option maxHeartbeats 4000000
open _root_.List renaming cons→akQ,length_append→zU,mem_append→qR,mem_cons→zI,mem_cons_of_mem→zF,mem_cons_self→zH,mem_flatMap→xP,mem_singleton→qG,reverse_cons→qY
open _root_.Nat renaming add_mul→xI,div_div_eq_div_mul→qT,dvd_of_mod_eq_zero→yV,dvd_trans→ahZ,le_of_lt→qZ,le_refl→zC,le_trans→zJ,lt_or_ge→qJ,mul_assoc→qN,mul_comm→qH,mul_le_mul_right→zR,one_mul→afX,pow_add→yQ,pow_succ→yT
open _root_.Option renaming some→zL
open Go.Proofs.Tryz renaming prog→zB
open Go.World renaming ownsRow→agQ
open Go.Value renaming int→jI
open Go.IntKind renaming i64→jJ
namespace Go.Proofs.YtlbklncoihhfcaaGreatDoor
namespace Rg
def sz(l:Nat):Nat:=4^(16-l)
theorem nN(l:Nat):0<sz l:=Nat.pow_pos (by omega)
theorem uZ{l:Nat}(h:l<16):sz l=4*sz (l+1):=by
 unfold sz;have:16-l=(16-(l+1))+1:=by omega
 rw[this,yT,qH]
structure Blk where
 l:Nat
 n:Nat
deriving DecidableEq
def Blk.lo(b:Blk):Nat:=b.n*sz b.l
def Blk.hi(b:Blk):Nat:=(b.n+1)*sz b.l
theorem Blk.hi_eq(b:Blk):b.hi=b.lo+sz b.l:=by
 unfold Blk.hi Blk.lo;rw[xI,afX]
theorem Blk.lt(b:Blk):b.lo<b.hi:=by
 rw[b.hi_eq];have:=nN b.l;omega
def Blk.kid(b:Blk)(i:Nat):Blk:=⟨b.l+1,4*b.n+i⟩
theorem Blk.kid_lo(b:Blk)(i:Nat)(h:b.l<16):(b.kid i).lo=b.lo+i*sz (b.l+1):=by
 unfold Blk.kid Blk.lo;dsimp only;rw[uZ h,xI,<-qN,qH b.n 4]
theorem Blk.kid_hi(b:Blk)(i:Nat)(h:b.l<16):(b.kid i).hi=b.lo+(i+1)*sz (b.l+1):=by
 rw[Blk.hi_eq,Blk.kid_lo b i h,xI,afX];show _+sz (b.l+1)=_;omega
def AN:List Blk->Prop
 | []=>True
 | [_]=>True
 |a::b::l=>a.hi<=b.lo/\AN (b::l)
theorem AN.tail{a:Blk}{l:List Blk}(h:AN (a::l)):AN l:=by
 cases l with
 |nil=>trivial
 |cons b l=>exact h.2
theorem AN.after{a:Blk}:∀{l:List Blk},AN (a::l)->∀b∈l,a.hi<=b.lo
 | [],_,b,hb=>by cases hb
 |c::l,h,b,hb=>by
  rcases zI.1 hb with rfl|hb
  ·exact h.1
  ·have:=AN.after h.2 b hb;have c1:=c.lt;have:=h.1;omega
def Bw:Nat->List Blk->Nat->Prop
 |x,[],y=>x=y
 |x,a::l,y=>a.lo=x/\Bw a.hi l y
def sP(L:List Blk):Prop:=∃(A B:List Blk) (b:Blk),b.l<16/\L=A++(b.kid 0::b.kid 1::b.kid 2::b.kid 3::B)
theorem sP.cons{a:Blk}{L:List Blk}(h:sP L):sP (a::L):=by
 obtain⟨A,B,b,c,rfl⟩:=h;exact⟨a::A,B,b,c,rfl⟩
theorem sP.append{A L:List Blk}(h:sP L):sP (A++L):=by
 obtain⟨a,B,b,c,rfl⟩:=h;exact⟨A++a,B,b,c,by simp⟩
theorem Th{a b:Blk}{i:Nat}(d:b.l<16)(f:0<i)(hi:i<4)(h:a.lo=b.lo+i*sz (b.l+1)):b.l+1<=a.l:=by
 rcases qJ a.l (b.l+1)with q|q
 ·exfalso;have e:sz a.l=4^(b.l-a.l)*sz b.l:=by
   unfold sz;rw[<-yQ];congr 1;omega
  have s:=uZ d;have p:=nN (b.l+1);unfold Blk.lo at h;rw[e,s]at h;have e2:a.n*(4^(b.l-a.l)*(4*sz (b.l+1)))=4*(a.n*4^(b.l-a.l))*sz (b.l+1):=by
   generalize 4^(b.l-a.l)=u at*;generalize sz (b.l+1)=v at*;grind
  have c:b.n*(4*sz (b.l+1))+i*sz (b.l+1)=(4*b.n+i)*sz (b.l+1):=by
   generalize sz (b.l+1)=v at*;grind
  rw[e2,c]at h;have:=Nat.eq_of_mul_eq_mul_right p h;omega
 ·exact q
theorem fill(k:Nat):∀(b:Blk) (a:Blk) (L:List Blk) (y:Nat),16-b.l=k->(∀c∈a::L,c.l<=16)->b.l<a.l->Bw b.lo (a::L) y->b.hi<=y->sP (a::L):=by
 induction k using Nat.strongRecOn with
 |ind k U=>
  intro b a L y Z p K D hy;have X:=p a zH;have g:b.l<16:=by omega
  have hs:=uZ g;have O:=b.hi_eq;have R:=nN (b.l+1);have step:∀(i:Nat) (c:Blk) (M:List Blk),i<4->(∀d∈c::M,d.l<=16)->b.l+1<=c.l->Bw (b.kid i).lo (c::M) y->sP (c::M)\/(c=b.kid i/\Bw (b.kid i).hi M y):=by
   intro i c M hi Q Y f;have o:(b.kid i).l=b.l+1:=rfl;rcases qJ (b.l+1) c.l with q|q
   ·left;refine U (16-(b.kid i).l) (by rw[o];omega) (b.kid i) c M y rfl Q (by rw[o];exact q) f ?_;rw[Blk.kid_hi b i g];have:(i+1)*sz (b.l+1)<=4*sz (b.l+1):=zR _ (by omega);omega
   ·right;have e:c.l=b.l+1:=by omega
    have J:=f.1;have:c=b.kid i:=by
     have A:c.n*sz c.l=(4*b.n+i)*sz (b.l+1):=J;rw[e]at A;have B:=Nat.eq_of_mul_eq_mul_right R A;cases c;dsimp only at e B;subst e;subst B;rfl
    refine⟨this,?_⟩;rw[this]at f;exact f.2
  have h:∀(i:Nat) (M:List Blk),i<4->Bw (b.kid i).lo M y->∃c N,M=c::N:=by
   intro i M hi f;cases M with
   |nil=>
    exfalso;have e:(b.kid i).lo=y:=f;rw[Blk.kid_lo b i g]at e;have:i*sz (b.l+1)<=3*sz (b.l+1):=zR _ (by omega);omega
   |cons c N=>exact⟨c,N,rfl⟩
  have j:∀i,i<3->(b.kid i).hi=(b.kid (i+1)).lo:=fun i _=>by rw[Blk.kid_hi b i g,Blk.kid_lo b (i+1) g]
  have V:(b.kid 0).lo=b.lo:=by rw[Blk.kid_lo b 0 g];omega
  rw[<-V]at D;rcases step 0 a L (by omega) p (by omega) D with q|⟨e0,r⟩
  ·exact q
  rw[j 0 (by omega)]at r;obtain⟨c1,u,rfl⟩:=h 1 L (by omega) r;have G:=Th (a:=c1) (b:=b) (i:=1) g (by omega) (by omega) (by rw[r.1,Blk.kid_lo b 1 g]);rcases step 1 c1 u (by omega) (fun d m=>p d (zF _ m)) G r with q|⟨e1,s⟩
  ·exact q.cons
  rw[j 1 (by omega)]at s;obtain⟨x,v,rfl⟩:=h 2 u (by omega) s;have H:=Th (a:=x) (b:=b) (i:=2) g (by omega) (by omega) (by rw[s.1,Blk.kid_lo b 2 g]);rcases step 2 x v (by omega) (fun d m=>p d (zF _ (zF _ m))) H s with q|⟨e2,t⟩
  ·exact q.cons.cons
  rw[j 2 (by omega)]at t;obtain⟨z,w,rfl⟩:=h 3 v (by omega) t;have I:=Th (a:=z) (b:=b) (i:=3) g (by omega) (by omega) (by rw[t.1,Blk.kid_lo b 3 g]);rcases step 3 z w (by omega) (fun d m=>p d (zF _ (zF _ (zF _ m)))) I t with q|⟨E,r3⟩
  ·exact q.cons.cons.cons
  subst e0 e1 e2 E;exact⟨[],w,b,g,rfl⟩
end Rg
namespace Rg
def lev(f t:Nat):Nat->Nat
 | 0=>0
 |l+1=>if f%sz l=0/\f+sz l<=t then lev f t l else l+1
def first(f t:Nat):Blk:=⟨lev f t 16,f/sz (lev f t 16)⟩
def wH:Nat->Nat->Nat->List Blk
 | 0,_,_=>[]
 |k+1,f,t=>if f<t then first f t::wH k (f+sz (lev f t 16)) t else[]
def gB(S:List (Nat×Nat)):List Blk:=S.flatMap fun s=>wH (s.2-s.1) s.1 s.2
def gJ:Nat->Nat->List Blk->List (Nat×Nat)
 |f,t,[]=>[(f,t)]
 |f,t,a::l=>if a.lo<=t then gJ f (max t a.hi) l else(f,t)::gJ a.lo a.hi l
def iZ:List Blk->List (Nat×Nat)
 | []=>[]
 |a::l=>gJ a.lo a.hi l
theorem rN{l m:Nat}(h:l<=m)(a:m<=16):sz m∣sz l:=by
 unfold sz;exact Nat.pow_dvd_pow 4 (by omega)
theorem Ni{l m:Nat}(h:l<=m):sz m<=sz l:=by
 unfold sz;exact Nat.pow_le_pow_right (by omega) (by omega)
theorem wX(f t:Nat):∀l,lev f t l<=l
 | 0=>zC 0
 |l+1=>by
  unfold lev;split
  ·have:=wX f t l;omega
  ·exact zC _
theorem LO(f t:Nat):∀l,f%sz l=0->f+sz l<=t->f%sz (lev f t l)=0/\f+sz (lev f t l)<=t
 | 0,a,b=>⟨a,b⟩
 |l+1,a,b=>by
  unfold lev;split
  ·rename_i h;exact LO f t l h.1 h.2
  ·exact⟨a,b⟩
theorem YJ{f t m:Nat}(a:sz m∣f)(c:f+sz m<=t):∀l,m<=l->l<=16->(∀k,k+1=m->¬(f%sz k=0/\f+sz k<=t))->lev f t l=m
 | 0,h,_,_=>by
  have:m=0:=by omega
  subst this;rfl
 |l+1,h,b,no=>by
  rcases qJ l m with q|q
  ·have:m=l+1:=by omega
   unfold lev;rw[if_neg (no l this.symm),this]
  ·unfold lev;have d:=rN q (by omega);rw[if_pos ⟨Nat.mod_eq_zero_of_dvd (ahZ (rN q (by omega)) a),by have:=Ni q;omega⟩];exact YJ a c l q (by omega) no
theorem Ak:sz 16=1:=rfl
theorem UG:∀(L:List Blk) (k f t:Nat),t-f<=k->(∀c∈L,c.l<=16)->Bw f L t->¬sP L->wH k f t=L
 | [],k,f,t,_,_,b,_=>by
  have:f=t:=b;subst this;cases k with
  |zero=>rfl
  |succ k=>unfold wH;rw[if_neg (by omega)]
 |a::L,k,f,t,A,g,b,o=>by
  have s:=g a zH;have i:a.lo=f:=b.1;have v:=a.lt;have mono:∀(M:List Blk) (x y:Nat),Bw x M y->x<=y:=by
   intro M;induction M with
   |nil=>intro x y h;exact Nat.le_of_eq h
   |cons c M w=>
    intro x y h;have:=w c.hi y h.2;have:=c.lt;have:=h.1;omega
  have B:=mono L a.hi t b.2;have u:=a.hi_eq;have e:lev f t 16=a.l:=by
   refine YJ (m:=a.l) ?_ (by omega) 16 s (zC _) ?_
   ·exact⟨a.n,by rw[<-i];unfold Blk.lo;rw[qH]⟩
   ·intro j z d;refine o (fill (16-j) ⟨j,f/sz j⟩ a L t rfl g (by show j<a.l;omega) ?_ ?_)
    ·have:(⟨j,f/sz j⟩:Blk).lo=f:=by
      show f/sz j*sz j=f;exact Nat.div_mul_cancel (yV d.1)
     rw[this];exact b
    ·rw[Blk.hi_eq];have:(⟨j,f/sz j⟩:Blk).lo=f:=by
      show f/sz j*sz j=f;exact Nat.div_mul_cancel (yV d.1)
     rw[this];exact d.2
  have p:=nN a.l;cases k with
  |zero=>omega
  |succ k=>
   unfold wH;rw[if_pos (by omega)];have q:first f t=a:=by
    unfold first
    rw[e];have:f/sz a.l=a.n:=by
     rw[<-i];unfold Blk.lo;exact Nat.mul_div_cancel _ p
    rw[this]
   rw[q,e];have r:f+sz a.l=a.hi:=by omega
   rw[r,UG L k a.hi t (by omega) (fun c d=>g c (zF _ d)) b.2 (fun h=>o h.cons)]
theorem sP.right{L B:List Blk}(h:sP L):sP (L++B):=by
 obtain⟨A,a,b,c,rfl⟩:=h;exact⟨A,a++B,b,c,by simp⟩
theorem Bw.snoc:∀{L:List Blk} {x y:Nat} {c:Blk},Bw x L y->c.lo=y->Bw x (L++[c]) c.hi
 | [],x,y,c,h,b=>⟨by rw[b];exact h.symm,rfl⟩
 |a::L,x,y,c,h,b=>⟨h.1,Bw.snoc h.2 b⟩
theorem mT(s:Nat×Nat)(S:List (Nat×Nat)):gB (s::S)=wH (s.2-s.1) s.1 s.2++gB S:=by
 unfold gB;rw[List.flatMap_cons]
theorem FA:∀(L P:List Blk) (f t:Nat),Bw f P t->(∀c∈P++L,c.l<=16)->¬sP (P++L)->AN L->(∀c∈L,t<=c.lo)->gB (gJ f t L)=P++L
 | [],P,f,t,j,b,g,_,_=>by
  unfold gJ;rw[mT];dsimp only;rw[UG P _ f t (zC _) (fun c k=>b c (List.mem_append_left _ k)) j (fun h=>g h.right)];rfl
 |c::M,P,f,t,j,b,g,i,n=>by
  have o:=n c zH;have m:=c.lt;unfold gJ;by_cases h:c.lo<=t
  ·rw[if_pos h];have e:max t c.hi=c.hi:=by omega
   rw[e];have:=FA M (P++[c]) f c.hi (j.snoc (by omega)) (by simpa using b) (by simpa using g) i.tail (fun d a=>i.after d a);rw[this];simp
  ·rw[if_neg h,mT];dsimp only;rw[UG P _ f t (zC _) (fun c k=>b c (List.mem_append_left _ k)) j (fun h=>g h.right)];have:=FA M [c] c.lo c.hi ⟨rfl,rfl⟩ (fun d a=>b d (List.mem_append_right _ a)) (fun h=>g h.append) i.tail (fun d a=>i.after d a);rw[this];rfl
theorem J2{L:List Blk}(f:∀c∈L,c.l<=16)(b:AN L)(g:¬sP L):gB (iZ L)=L:=by
 cases L with
 |nil=>rfl
 |cons a L=>exact FA L [a] a.lo a.hi ⟨rfl,rfl⟩ f g b.tail (fun d e=>b.after d e)
def fL:List (Nat×Nat)->Prop
 | []=>True
 | [s]=>s.1<s.2
 |s::r::l=>s.1<s.2/\s.2<r.1/\fL (r::l)
theorem EZ:∀(k f t:Nat),t-f<=k->f<=t->Bw f (wH k f t) t/\∀c∈wH k f t,c.l<=16
 | 0,f,t,h,a=>⟨by show f=t;omega,by simp[wH]⟩
 |k+1,f,t,h,a=>by
  unfold wH;by_cases q:f<t
  ·rw[if_pos q];have o:=LO f t 16 (by rw[Ak];omega) (by rw[Ak];omega);have p:=nN (lev f t 16);have lo:(first f t).lo=f:=Nat.div_mul_cancel (yV o.1);have r:=EZ k (f+sz (lev f t 16)) t (by omega) o.2;refine⟨⟨lo,?_⟩,?_⟩
   ·rw[Blk.hi_eq,lo];exact r.1
   ·intro c hc;rcases zI.1 hc with rfl|hc
    ·exact wX f t 16
    ·exact r.2 c hc
  ·rw[if_neg q];exact⟨by show f=t;omega,by simp⟩
theorem WJ:∀(P L:List Blk) (f x t:Nat),Bw x P t->f<=x->gJ f x (P++L)=gJ f t L
 | [],L,f,x,t,b,_=>by
  have:x=t:=b;subst this;rfl
 |a::P,L,f,x,t,b,d=>by
  have c:a.lo=x:=b.1;have lt:=a.lt;show gJ f x (a::(P++L))=_;rw[gJ,if_pos (by omega),show max x a.hi=a.hi by omega];exact WJ P L f a.hi t b.2 (by omega)
theorem WK:∀(S:List (Nat×Nat)),fL S->iZ (gB S)=S
 | [],_=>rfl
 |s::S,h=>by
  have l:s.1<s.2:=by
   cases S with
   |nil=>exact h
   |cons r S=>exact h.1
  have d:fL S:=by
   cases S with
   |nil=>trivial
   |cons r S=>exact h.2.2
  have e:=WK S d;rw[mT];obtain⟨r,_⟩:=EZ (s.2-s.1) s.1 s.2 (zC _) (by omega);generalize wH (s.2-s.1) s.1 s.2=P at*;cases P with
  |nil=>
   have:s.1=s.2:=r;omega
  |cons a P=>
   have g:a.lo=s.1:=r.1;show gJ a.lo a.hi (P++gB S)=s::S;rw[WJ P (gB S) a.lo a.hi s.2 r.2 (by have:=a.lt;omega),g];cases S with
   |nil=>rfl
   |cons q S=>
    have k:s.2<q.1:=h.2.1;rw[mT]at e ⊢;have i:q.1<q.2:=by
     cases S with
     |nil=>exact d
     |cons _ _=>exact d.1
    obtain⟨f,_⟩:=EZ (q.2-q.1) q.1 q.2 (zC _) (by omega);generalize wH (q.2-q.1) q.1 q.2=c at*;cases c with
    |nil=>
     have:q.1=q.2:=f;omega
    |cons b c=>
     have j:b.lo=q.1:=f.1;show gJ s.1 s.2 (b::(c++gB S))=_;rw[gJ,if_neg (by omega)];have:gJ b.lo b.hi (c++gB S)=q::S:=e;rw[this]
end Rg
namespace Rg
theorem EM:∀{L:List Blk},AN L↔L.Pairwise (fun a b=>a.hi<=b.lo)
 | []=>⟨fun _=>List.Pairwise.nil,fun _=>trivial⟩
 |a::L=>by
  constructor
  ·intro h;exact List.Pairwise.cons (fun b e=>h.after b e) (EM.1 h.tail)
  ·intro h;cases h with
   |cons c d=>
    have f:=EM.2 d;cases L with
    |nil=>trivial
    |cons b L=>exact⟨c b zH,f⟩
theorem eO{A B:List Blk}:AN (A++B)↔AN A/\AN B/\∀a∈A,∀b∈B,a.hi<=b.lo:=by
 rw[EM,EM,EM,List.pairwise_append]
def fD:List Blk->Option (List Blk)
 |k3::k2::k1::k0::R=>if 0<k0.l/\k0=(⟨k0.l-1,k0.n/4⟩:Blk).kid 0/\k1=(⟨k0.l-1,k0.n/4⟩:Blk).kid 1/\k2=(⟨k0.l-1,k0.n/4⟩:Blk).kid 2/\k3=(⟨k0.l-1,k0.n/4⟩:Blk).kid 3 then some (⟨k0.l-1,k0.n/4⟩::R) else none
 |_=>none
def eF:Nat->List Blk->List Blk
 | 0,R=>R
 |k+1,R=>match fD R with
  |some R'=>eF k R'
  |none=>R
def push(R:List Blk)(c:Blk):List Blk:=eF (R.length+1) (c::R)
theorem LS{R d:List Blk}(h:fD R=some d)(e:∀c∈R,c.l<=16):∃(b:Blk) (S:List Blk),b.l<16/\R=b.kid 3::b.kid 2::b.kid 1::b.kid 0::S/\d=b::S:=by
 unfold fD at h;split at h
 ·rename_i p o m a S;split at h
  ·rename_i q;obtain⟨r,f,g,i,j⟩:=q;have k:=e a (by simp);refine⟨⟨a.l-1,a.n/4⟩,S,by show a.l-1<16;omega,?_,(zL.inj h).symm⟩;rw[<-f,<-g,<-i,<-j]
  ·cases h
 ·cases h
theorem Fv{b:Blk}{S:List Blk}:fD (b.kid 3::b.kid 2::b.kid 1::b.kid 0::S)=some (b::S):=by
 have e:(⟨(b.kid 0).l-1,(b.kid 0).n/4⟩:Blk)=b:=by
  cases b with
  |mk l n=>
   show(⟨l+1-1,(4*n+0)/4⟩:Blk)=_;congr 1;omega
 show(if 0<(b.kid 0).l/\b.kid 0=(⟨(b.kid 0).l-1,(b.kid 0).n/4⟩:Blk).kid 0/\b.kid 1=(⟨(b.kid 0).l-1,(b.kid 0).n/4⟩:Blk).kid 1/\b.kid 2=(⟨(b.kid 0).l-1,(b.kid 0).n/4⟩:Blk).kid 2/\b.kid 3=(⟨(b.kid 0).l-1,(b.kid 0).n/4⟩:Blk).kid 3 then some (⟨(b.kid 0).l-1,(b.kid 0).n/4⟩::S) else none)=some (b::S);rw[e];exact if_pos ⟨by show 0<b.l+1;omega,rfl,rfl,rfl,rfl⟩
def sL(a b:Blk):Prop:=b.l<=a.l/\a.n/4^(a.l-b.l)=b.n
theorem sL.refl(a:Blk):sL a a:=⟨zC _,by rw[Nat.sub_self,Nat.pow_zero,Nat.div_one]⟩
theorem sL.kid(b:Blk){i:Nat}(hi:i<4):sL (b.kid i) b:=by
 refine⟨by show b.l<=b.l+1;omega,?_⟩;show(4*b.n+i)/4^(b.l+1-b.l)=b.n;rw[show b.l+1-b.l=1 by omega,Nat.pow_one];omega
theorem sL.trans{a b c:Blk}(h:sL a b)(k:sL b c):sL a c:=by
 refine⟨zJ k.1 h.1,?_⟩;have e:a.l-c.l=(a.l-b.l)+(b.l-c.l):=by have:=h.1;have:=k.1;omega
 rw[e,yQ,<-qT,h.2,k.2]
theorem YT:∀(k:Nat) (c:Blk) (R:List Blk),R.length<k->(∀d∈c::R,d.l<=16)->AN (R.reverse++[c])->¬sP R.reverse->
  AN (eF k (c::R)).reverse/\¬sP (eF k (c::R)).reverse/\(∀d∈eF k (c::R),d.l<=16)/\(∃e S,eF k (c::R)=e::S/\e.hi=c.hi)/\(∀d∈c::R,∃e∈eF k (c::R),sL d e)
 | 0,c,R,s,_,_,_=>by omega
 |k+1,c,R,s,m,o,q=>by
  unfold eF;cases n:fD (c::R)with
  |none=>
   dsimp only;refine⟨by rw[qY];exact o,?_,m,⟨c,R,rfl,rfl⟩,fun d hd=>⟨d,hd,sL.refl d⟩⟩;rw[qY];rintro⟨A,B,b,f,e⟩;rcases List.eq_nil_or_concat B with rfl|⟨r,x,rfl⟩
   ·have e2:=congrArg List.reverse e;simp at e2;rw[e2.1,e2.2,Fv]at n;cases n
   ·apply q;refine⟨A,r,b,f,?_⟩;have e2:R.reverse++[c]=(A++(b.kid 0::b.kid 1::b.kid 2::b.kid 3::r))++[x]:=by
     rw[e];simp
    exact(List.append_inj' e2 rfl).1
  |some K=>
   dsimp only;obtain⟨b,S,f,e,rfl⟩:=LS n m;have e0:c=b.kid 3/\R=b.kid 2::b.kid 1::b.kid 0::S:=by
    simp only[akQ.injEq]at e;exact⟨e.1,e.2⟩
   obtain⟨rfl,rfl⟩:=e0;have u:(b.kid 2::b.kid 1::b.kid 0::S).reverse=S.reverse++[b.kid 0,b.kid 1,b.kid 2]:=by simp
   rw[u]at o q;have p:=eO.1 o;have g:=eO.1 p.1;have lo:b.lo=(b.kid 0).lo:=by rw[Blk.kid_lo b 0 f];omega
   have hi:b.hi=(b.kid 3).hi:=by rw[Blk.kid_hi b 3 f,Blk.hi_eq,uZ f]
   have J:=YT k b S (by simp at s;omega) (fun d hd=>by
    rcases zI.1 hd with rfl|hd
    ·omega
    ·exact m d (by simp[hd])) (by
    refine eO.2 ⟨g.1,trivial,fun a z d hd=>?_⟩;rw[qG.1 hd,lo];exact g.2.2 a z _ (by simp)) (fun h=>q h.right)
   obtain⟨D,E,G,⟨x,y,H,I⟩,t⟩:=J;refine⟨D,E,G,⟨x,y,H,I.trans hi⟩,fun d hd=>?_⟩;have j:∀i,i<4->∃e∈eF k (b::S),sL (b.kid i) e:=fun i h=>by
    obtain⟨e,v,w⟩:=t b zH;exact⟨e,v,(sL.kid b h).trans w⟩
   simp only[zI]at hd;rcases hd with rfl|rfl|rfl|rfl|hd
   ·exact j 3 (by omega)
   ·exact j 2 (by omega)
   ·exact j 1 (by omega)
   ·exact j 0 (by omega)
   ·exact t d (zF _ hd)
structure Good (R:List Blk):Prop where
 ord:AN R.reverse
 quad:¬sP R.reverse
 lev:∀d∈R,d.l<=16
theorem Good.nil:Good []:=⟨trivial,fun⟨A,B,b,_,e⟩=>by simp at e,fun d a=>by cases a⟩
theorem Good.push{R:List Blk}{c:Blk}(h:Good R)(f:c.l<=16)(g:∀d∈R,d.hi<=c.lo):
  Good (push R c)/\(∃e S,push R c=e::S/\e.hi=c.hi)/\∀d∈c::R,∃e∈push R c,sL d e:=by
 obtain⟨i,j,k,m,n⟩:=YT (R.length+1) c R (by omega) (fun d hd=>by
  rcases zI.1 hd with rfl|hd
  ·exact f
  ·exact h.lev d hd) (eO.2 ⟨h.ord,trivial,fun a b d hd=>by
   rw[qG.1 hd];exact g a (by simpa using b)⟩) h.quad
 exact⟨⟨i,j,k⟩,m,n⟩
theorem Good.tidy{R:List Blk}(h:Good R):gB (iZ R.reverse)=R.reverse:=J2 (fun c a=>h.lev c (by simpa using a)) h.ord h.quad
theorem Good.below{R:List Blk}(h:Good R){e:Blk}{S:List Blk}(hR:R=e::S):∀d∈R,d.hi<=e.hi:=fun d hd=>by
 subst hR;have o:=h.ord;rw[qY]at o;rcases zI.1 hd with rfl|hd
 ·exact zC _
 ·have:=(eO.1 o).2.2 d (by simpa using hd) e (by simp);have:=e.lt;omega
end Rg
namespace Rg
theorem aE5{l m:Nat}(h:l<=m)(a:m<=16):sz l=4^(m-l)*sz m:=by
 unfold sz;rw[<-yQ];congr 1;omega
theorem aDY{c d:Blk}(h:d.l<=c.l)(g:c.l<=16)(b:d.lo<=c.lo)(a:c.lo<d.hi):sL c d:=by
 refine⟨h,?_⟩;have e:=aE5 h g;have p:=nN c.l;unfold Blk.lo at b a;unfold Blk.hi at a;rw[e,<-qN]at b a;have f:=Nat.le_of_mul_le_mul_right b p;have i:=Nat.lt_of_mul_lt_mul_right a;refine Nat.div_eq_of_lt_le f ?_;omega
theorem Ns{c:Blk}(b:c.l<=16):∀(k f t:Nat),t-f<=k->f<=c.lo->c.hi<=t->∃d∈wH k f t,sL c d
 | 0,f,t,h,s,j=>by have:=c.lt;omega
 |k+1,f,t,h,s,j=>by
  have r:=c.lt;unfold wH;rw[if_pos (by omega)];have o:=LO f t 16 (by rw[Ak];omega) (by rw[Ak];omega);have lo:(first f t).lo=f:=Nat.div_mul_cancel (yV o.1);have hi:(first f t).hi=f+sz (lev f t 16):=by rw[Blk.hi_eq,lo];rfl
  have p:=nN (lev f t 16);by_cases q:c.lo<f+sz (lev f t 16)
  ·refine⟨first f t,zH,aDY ?_ b (by omega) (by omega)⟩;show lev f t 16<=c.l;rcases qJ c.l (lev f t 16)with g|g
   ·exfalso;have d:sz (lev f t 16)∣c.lo:=ahZ (rN (qZ g) (wX f t 16)) ⟨c.n,by unfold Blk.lo;rw[qH]⟩;have d2:sz (lev f t 16)∣f:=yV o.1;have e:c.lo=f:=by
     have d3:=Nat.dvd_sub d d2;rcases Nat.eq_zero_or_pos (c.lo-f)with z|z
     ·omega
     ·have:=Nat.le_of_dvd z d3;omega
    have y:=c.hi_eq;have i:∀l,c.l<=l->l<=16->lev f t l<=c.l:=by
     intro l;induction l with
     |zero=>intro a _;have:=wX f t 0;omega
     |succ l x=>
      intro a m;unfold lev;by_cases w:c.l=l+1
      ·split
       ·have:=wX f t l;omega
       ·omega
      ·have u:sz l∣f:=by
        rw[<-e];exact ahZ (rN (show c.l<=l by omega) (by omega)) ⟨c.n,by unfold Blk.lo;rw[qH]⟩
       have v:=Ni (show c.l<=l by omega);rw[if_pos ⟨Nat.mod_eq_zero_of_dvd u,by omega⟩];exact x (by omega) (by omega)
    have:=i 16 b (zC _);omega
   ·exact g
  ·obtain⟨d,a,m⟩:=Ns b k (f+sz (lev f t 16)) t (by omega) (by omega) j;exact⟨d,zF _ a,m⟩
def num:Nat->Nat->Nat->Nat
 | 0,_,c=>c
 |l+1,r,c=>4*num l (r/2) (c/2)+(2*(r%2)+c%2)
def aM:Nat->Nat->Nat
 | 0,_=>0
 |l+1,n=>2*aM l (n/4)+n%4/2
def aN:Nat->Nat->Nat
 | 0,n=>n
 |l+1,n=>2*aN l (n/4)+n%2
theorem CI(l n:Nat):aM (l+1) n=2*aM l (n/4)+n%4/2:=rfl
theorem AW(l n:Nat):aN (l+1) n=2*aN l (n/4)+n%2:=rfl
theorem Fy:∀(l n:Nat),num l (aM l n) (aN l n)=n
 | 0,n=>rfl
 |l+1,n=>by
  have c:=Fy l (n/4);have e1:aM (l+1) n/2=aM l (n/4):=by rw[CI];omega
  have e2:aN (l+1) n/2=aN l (n/4):=by rw[AW];omega
  have a:aM (l+1) n%2=n%4/2:=by rw[CI];omega
  have b:aN (l+1) n%2=n%2:=by rw[AW];omega
  show 4*num l (aM (l+1) n/2) (aN (l+1) n/2)+_=_;rw[e1,e2,a,b,c];omega
def dO(i l:Nat):Nat:=i*10800000/2^l
theorem XC(i l:Nat):dO (2*i) (l+1)=dO i l:=by
 unfold dO;rw[yT,qH (2^l) 2,qN];exact Nat.mul_div_mul_left _ _ (by omega)
theorem uJ{i j:Nat}(h:i<=j)(l:Nat):dO i l<=dO j l:=by
 unfold dO;exact Nat.div_le_div_right (zR _ h)
def In(b:Blk)(y x:Nat):Prop:=dO (aM b.l b.n) b.l<=y/\y<=dO (aM b.l b.n+1) b.l/\dO (aN b.l b.n) b.l<=x/\x<=dO (aN b.l b.n+1) b.l
theorem Fg(b:Blk)(i:Nat)(hi:i<4):aM (b.kid i).l (b.kid i).n=2*aM b.l b.n+i/2/\aN (b.kid i).l (b.kid i).n=2*aN b.l b.n+i%2:=by
 show 2*aM b.l ((4*b.n+i)/4)+(4*b.n+i)%4/2=_/\2*aN b.l ((4*b.n+i)/4)+(4*b.n+i)%2=_;have e:(4*b.n+i)/4=b.n:=by omega
 rw[e];omega
theorem In.up{b:Blk}{i y x:Nat}(hi:i<4)(h:In (b.kid i) y x):In b y x:=by
 obtain⟨e1,e2⟩:=Fg b i hi;unfold In at h;rw[e1,e2]at h;obtain⟨a,c,d,e⟩:=h;change dO _ (b.l+1)<=y at a;change y<=dO _ (b.l+1)at c;change dO _ (b.l+1)<=x at d;change x<=dO _ (b.l+1)at e;have f:=uJ (show 2*aM b.l b.n<=2*aM b.l b.n+i/2 by omega) (b.l+1);have g:=uJ (show 2*aM b.l b.n+i/2+1<=2*(aM b.l b.n+1) by omega) (b.l+1);have j:=uJ (show 2*aN b.l b.n<=2*aN b.l b.n+i%2 by omega) (b.l+1);have k:=uJ (show 2*aN b.l b.n+i%2+1<=2*(aN b.l b.n+1) by omega) (b.l+1);rw[XC]at f g j k;exact⟨by omega,by omega,by omega,by omega⟩
theorem In.down{b:Blk}{y x:Nat}(h:In b y x):∃i,i<4/\In (b.kid i) y x:=by
 obtain⟨d,e,f,g⟩:=h;rw[<-XC]at d e f g;have mk:∀i j:Nat,i<2->j<2->dO (2*aM b.l b.n+i) (b.l+1)<=y->y<=dO (2*aM b.l b.n+i+1) (b.l+1)->dO (2*aN b.l b.n+j) (b.l+1)<=x->x<=dO (2*aN b.l b.n+j+1) (b.l+1)->∃i,i<4/\In (b.kid i) y x:=fun i j hi s k m o r=>by
  refine⟨2*i+j,by omega,?_⟩;obtain⟨e1,e2⟩:=Fg b (2*i+j) (by omega);unfold In;rw[e1,e2,show(2*i+j)/2=i by omega,show(2*i+j)%2=j by omega];exact⟨k,m,o,r⟩
 have a:y<=dO (2*aM b.l b.n+1+1) (b.l+1):=by rw[show 2*aM b.l b.n+1+1=2*(aM b.l b.n+1) by omega];exact e
 have c:x<=dO (2*aN b.l b.n+1+1) (b.l+1):=by rw[show 2*aN b.l b.n+1+1=2*(aN b.l b.n+1) by omega];exact g
 clear e g;rcases qJ y (dO (2*aM b.l b.n+1) (b.l+1))with p|p<;>rcases qJ x (dO (2*aN b.l b.n+1) (b.l+1))with q|q
 ·exact mk 0 0 (by omega) (by omega) d (qZ p) f (qZ q)
 ·exact mk 0 1 (by omega) (by omega) d (qZ p) q c
 ·exact mk 1 0 (by omega) (by omega) p a f (qZ q)
 ·exact mk 1 1 (by omega) (by omega) p a q c
theorem Cq{c d:Blk}(a:c.l=d.l)(b:c.n=d.n):c=d:=by
 cases c;cases d;dsimp only at a b;rw[a,b]
def Blk.up(c:Blk):Blk:=⟨c.l-1,c.n/4⟩
theorem aE8{c:Blk}(h:0<c.l):c=c.up.kid (c.n%4):=by
 refine Cq ?_ ?_
 ·show c.l=c.l-1+1;omega
 ·show c.n=4*(c.n/4)+c.n%4;omega
theorem sL.up{c d:Blk}(h:sL c d)(e:d.l<c.l):sL c.up d:=by
 obtain⟨b,a⟩:=h;refine⟨?_,?_⟩
 ·show d.l<=c.l-1;omega
 ·show c.n/4/4^(c.l-1-d.l)=d.n;rw[qT,<-a,<-Nat.pow_succ',show(c.l-1-d.l).succ=c.l-d.l by omega]
theorem In.sub(k:Nat):∀{c d:Blk} {y x:Nat},c.l-d.l=k->sL c d->In c y x->In d y x:=by
 induction k with
 |zero=>
  intro c d y x e a h;obtain⟨g,b⟩:=a;rw[e,Nat.pow_zero,Nat.div_one]at b;rw[<-Cq (c:=c) (d:=d) (by omega) b];exact h
 |succ k f=>
  intro c d y x e a h;rw[aE8 (c:=c) (by omega)]at h;exact f (c:=c.up) (by show c.l-1-d.l=k;omega) (a.up (by omega)) (In.up (by omega) h)
end Rg
namespace Rg
def dX(inn:Nat->Bool):List Nat->List (Nat×Nat)->List (Nat×Nat)
 |e::e'::E,R=>if inn e then
   (match R with
    |(f,t)::R'=>if t=e then dX inn (e'::E) ((f,e')::R') else dX inn (e'::E) ((e,e')::(f,t)::R')
    | []=>dX inn (e'::E) [(e,e')])
   else dX inn (e'::E) R
 |_,R=>R
theorem fU(a:Nat->Bool)(e e':Nat)(E:List Nat)(R:List (Nat×Nat)):dX a (e::e'::E) R=if a e then
   (match R with
    |(f,t)::b=>if t=e then dX a (e'::E) ((f,e')::b) else dX a (e'::E) ((e,e')::(f,t)::b)
    | []=>dX a (e'::E) [(e,e')])
   else dX a (e'::E) R:=rfl
def FW:List Nat->Prop
 | []=>True
 | [_]=>True
 |a::b::l=>a<b/\FW (b::l)
theorem FW.tail{a:Nat}{l:List Nat}(h:FW (a::l)):FW l:=by
 cases l with
 |nil=>trivial
 |cons b l=>exact h.2
theorem FW.after{a:Nat}:∀{l:List Nat},FW (a::l)->∀b∈l,a<b
 | [],_,b,hb=>by cases hb
 |c::l,h,b,hb=>by
  rcases zI.1 hb with rfl|hb
  ·exact h.1
  ·have:=FW.after h.2 b hb;have:=h.1;omega
def kG:List (Nat×Nat)->Prop
 | []=>True
 | [s]=>s.1<s.2
 |s::r::l=>s.1<s.2/\r.2<s.1/\kG (r::l)
theorem kG.one{s:Nat×Nat}{l:List (Nat×Nat)}(h:kG (s::l)):s.1<s.2:=by
 cases l with
 |nil=>exact h
 |cons r l=>exact h.1
theorem kG.tail{s:Nat×Nat}{l:List (Nat×Nat)}(h:kG (s::l)):kG l:=by
 cases l with
 |nil=>trivial
 |cons r l=>exact h.2.2
theorem Jk(a:Nat->Bool):∀(E:List Nat) (e:Nat) (R:List (Nat×Nat)),FW (e::E)->kG R->(∀s∈R,s.2<=e)->
  kG (dX a (e::E) R)/\(∀s∈R,∃z∈dX a (e::E) R,z.1<=s.1/\s.2<=z.2)/\
  (∀f t,f∈e::E->t∈e::E->f<t->(∀n∈e::E,f<=n->n<t->a n=true)->∃z∈dX a (e::E) R,z.1<=f/\t<=z.2)/\
  (∀b c,R=(b,e)::c->∀t∈e::E,(∀n∈e::E,n<t->a n=true)->∃z∈dX a (e::E) R,z.1<=b/\t<=z.2)
 | [],e,R,hi,m,v=>by
  have e0:dX a [e] R=R:=by
   unfold dX;rfl
  rw[e0];refine⟨m,fun s h=>⟨s,h,zC _,zC _⟩,fun f t A ht g _=>?_,fun b c hR t ht _=>?_⟩
  ·rw[qG.1 A,qG.1 ht]at g;omega
  ·rw[qG.1 ht,hR];exact⟨(b,e),zH,zC _,zC _⟩
 |e'::E,e,R,hi,m,v=>by
  have o:e<e':=hi.1;have j:=FW.after hi.2;have out:∀(R1:List (Nat×Nat)),dX a (e::e'::E) R=dX a (e'::E) R1->kG R1->(∀s∈R1,s.2<=e')->(∀s∈R,∃r∈R1,r.1<=s.1/\s.2<=r.2)->
    ((a e=true->∃k i,R1=(k,e')::i/\k<=e/\∀b c,R=(b,e)::c->k<=b))->
    kG (dX a (e::e'::E) R)/\(∀s∈R,∃z∈dX a (e::e'::E) R,z.1<=s.1/\s.2<=z.2)/\
    (∀f t,f∈e::e'::E->t∈e::e'::E->f<t->(∀n∈e::e'::E,f<=n->n<t->a n=true)->∃z∈dX a (e::e'::E) R,z.1<=f/\t<=z.2)/\
    (∀b c,R=(b,e)::c->∀t∈e::e'::E,(∀n∈e::e'::E,n<t->a n=true)->∃z∈dX a (e::e'::E) R,z.1<=b/\t<=z.2):=by
   intro R1 N X Y H I;rw[N];obtain⟨Z,J,i3,K⟩:=Jk a E e' R1 hi.2 X Y;refine⟨Z,?_,?_,?_⟩
   ·intro s B;obtain⟨r,D,L,M⟩:=H s B;obtain⟨z,p,G,w⟩:=J r D;exact⟨z,p,by omega,by omega⟩
   ·intro f t A ht g u;rcases zI.1 A with rfl|hf'
    ·have d:=u f zH (zC _) g;obtain⟨k,i,y,Q,_⟩:=I d;rcases zI.1 ht with rfl|ht
     ·omega
     ·obtain⟨z,p,G,w⟩:=K k i y t ht (fun n h V=>u n (zF _ h) (by
       rcases zI.1 h with rfl|h
       ·omega
       ·have:=j n h;omega) V)
      exact⟨z,p,by omega,w⟩
    ·rcases zI.1 ht with ht'|ht'
     ·exfalso;rcases zI.1 hf' with h5|h5
      ·omega
      ·have:=j f h5;omega
     ·exact i3 f t hf' ht' g (fun n h=>u n (zF _ h))
   ·intro b c hR t ht u;rcases zI.1 ht with rfl|ht
    ·obtain⟨r,D,L,M⟩:=H (b,t) (by rw[hR];exact zH);obtain⟨z,p,G,w⟩:=J r D;dsimp only at L M;exact⟨z,p,by omega,by omega⟩
    ·have g:e<t:=by
      rcases zI.1 ht with rfl|ht
      ·exact o
      ·have:=j t ht;omega
     obtain⟨k,i,y,Q,U⟩:=I (u e zH g);obtain⟨z,p,G,w⟩:=K k i y t ht (fun n h=>u n (zF _ h));have:=U b c hR;exact⟨z,p,by omega,w⟩
  cases d:a e with
  |false=>
   refine out R (by rw[fU,d];rfl) m (fun s h=>by have:=v s h;omega) (fun s h=>⟨s,h,zC _,zC _⟩) (fun h=>by rw[d]at h;cases h)
  |true=>
   cases R with
   |nil=>
    refine out [(e,e')] (by rw[fU,d];rfl) o (fun s h=>by rw[qG.1 h];exact zC _) (fun s h=>by cases h) (fun _=>⟨e,[],rfl,zC _,fun b c h=>by cases h⟩)
   |cons s c=>
    obtain⟨f,t⟩:=s;have O:=m.one;have te:=v (f,t) zH;dsimp only at O te;by_cases q:t=e
    ·subst q;refine out ((f,e')::c) (by rw[fU,d];simp) ?_ ?_ ?_ ?_
     ·cases c with
      |nil=>show f<e';omega
      |cons r l=>exact⟨by show f<e';omega,m.2.1,m.2.2⟩
     ·intro s h;rcases zI.1 h with rfl|h
      ·exact zC _
      ·have:=v s (zF _ h);omega
     ·intro s h;rcases zI.1 h with rfl|h
      ·exact⟨(f,e'),zH,zC _,by show t<=e';omega⟩
      ·exact⟨s,zF _ h,zC _,zC _⟩
     ·intro _;refine⟨f,c,rfl,by omega,fun b x h=>?_⟩;simp only[akQ.injEq,Prod.mk.injEq]at h;omega
    ·refine out ((e,e')::(f,t)::c) (by rw[fU,d];simp[q]) ⟨o,by show t<e;omega,m⟩ ?_ ?_ ?_
     ·intro s h;rcases zI.1 h with rfl|h
      ·exact zC _
      ·have:=v s h;omega
     ·intro s h;exact⟨s,zF _ h,zC _,zC _⟩
     ·intro _;refine⟨e,(f,t)::c,rfl,zC _,fun b x h=>?_⟩;simp only[akQ.injEq,Prod.mk.injEq]at h;omega
theorem JG:∀(L M:List (Nat×Nat)),kG L->fL M->(∀a,L.head? =some a->∀b,M.head? =some b->a.2<b.1)->fL (L.reverse++M)
 | [],M,_,d,_=>d
 |s::L,M,c,d,g=>by
  rw[qY,List.append_assoc];refine JG L (s::M) c.tail ?_ ?_
  ·cases M with
   |nil=>exact c.one
   |cons b M=>exact⟨c.one,g s rfl b rfl,d⟩
  ·intro a e b f;have:s=b:=zL.inj f;subst this;cases L with
   |nil=>cases e
   |cons r l=>
    have:r=a:=zL.inj e;subst this;exact c.2.1
theorem kG.rev{L:List (Nat×Nat)}(h:kG L):fL L.reverse:=by
 have:=JG L [] h trivial (fun _ _ b a=>by cases a);simpa using this
theorem Bb(a:Nat->Bool){E:List Nat}(d:FW E):fL (dX a E []).reverse/\∀f t,f∈E->t∈E->f<t->(∀n∈E,f<=n->n<t->a n=true)->∃z∈(dX a E []).reverse,z.1<=f/\t<=z.2:=by
 cases E with
 |nil=>exact⟨trivial,fun f t b=>by cases b⟩
 |cons e E=>
  obtain⟨j,_,k,_⟩:=Jk a E e [] d trivial (fun s h=>by cases h);exact⟨j.rev,fun f t b i c g=>by
   obtain⟨z,l,m⟩:=k f t b i c g;exact⟨z,List.mem_reverse.2 l,m⟩⟩
end Rg
namespace Rg
def eQ(n:Nat):List (Nat×Nat)->List (Nat×Nat)
 | []=>[]
 |s::l=>if s.2<=n then eQ n l else s::l
def gY(n:Nat)(l:List (Nat×Nat)):Bool:=match eQ n l with
 | []=>false
 |s::_=>decide (s.1<=n)
theorem drop_drop{m n:Nat}(h:m<=n):∀l:List (Nat×Nat),eQ n (eQ m l)=eQ n l
 | []=>rfl
 |s::l=>by
  by_cases q:s.2<=m
  ·have e1:eQ m (s::l)=eQ m l:=if_pos q;have e2:eQ n (s::l)=eQ n l:=if_pos (by omega);rw[e1,e2];exact drop_drop h l
  ·have e1:eQ m (s::l)=s::l:=if_neg q;rw[e1]
theorem fL.one{s:Nat×Nat}{l:List (Nat×Nat)}(h:fL (s::l)):s.1<s.2:=by
 cases l with
 |nil=>exact h
 |cons r l=>exact h.1
theorem fL.tail{s:Nat×Nat}{l:List (Nat×Nat)}(h:fL (s::l)):fL l:=by
 cases l with
 |nil=>trivial
 |cons r l=>exact h.2.2
theorem fL.after{s:Nat×Nat}:∀{l:List (Nat×Nat)},fL (s::l)->∀r∈l,s.2<r.1
 | [],_,r,hr=>by cases hr
 |c::l,h,r,hr=>by
  rcases zI.1 hr with rfl|hr
  ·exact h.2.1
  ·have:=fL.after h.2.2 r hr;have:=h.2.2.one;have:=h.2.1;omega
theorem mJ{n:Nat}:∀{l:List (Nat×Nat)},fL l->(gY n l=true↔∃s∈l,s.1<=n/\n<s.2)
 | [],_=>⟨fun h=>(by cases h),fun⟨s,b,_⟩=>(by cases b)⟩
 |s::l,h=>by
  by_cases q:s.2<=n
  ·have e:gY n (s::l)=gY n l:=by
    unfold gY;have:eQ n (s::l)=eQ n l:=if_pos q;rw[this]
   rw[e,mJ h.tail];constructor
   ·rintro⟨r,h1,a⟩;exact⟨r,zF _ h1,a⟩
   ·rintro⟨r,h1,a⟩;rcases zI.1 h1 with rfl|h1
    ·omega
    ·exact⟨r,h1,a⟩
  ·have e:gY n (s::l)=decide (s.1<=n):=by
    unfold gY;have:eQ n (s::l)=s::l:=if_neg q;rw[this]
   rw[e,decide_eq_true_iff];constructor
   ·intro h1;exact⟨s,zH,h1,by omega⟩
   ·rintro⟨r,h1,a⟩;rcases zI.1 h1 with rfl|h1
    ·exact a.1
    ·have:=h.after r h1;omega
theorem SD:∀(L:List Blk) (f t:Nat),f<t->AN L->(∀c∈L,t<=c.lo)->fL (gJ f t L)/\(∃b S,gJ f t L=(f,b)::S/\t<=b)/\∀c∈L,∃s∈gJ f t L,s.1<=c.lo/\c.hi<=s.2
 | [],f,t,h,_,_=>⟨h,⟨t,[],rfl,zC _⟩,fun c hc=>(by cases hc)⟩
 |a::L,f,t,h,g,l=>by
  have n:=l a zH;have lt:=a.lt;have k:=g.after;rw[gJ];by_cases q:a.lo<=t
  ·rw[if_pos q,show max t a.hi=a.hi by omega];obtain⟨e,⟨b,S,d,i⟩,j⟩:=SD L f a.hi (by omega) g.tail k;refine⟨e,⟨b,S,d,by omega⟩,fun c hc=>?_⟩;rcases zI.1 hc with rfl|hc
   ·exact⟨(f,b),by rw[d];exact zH,by show f<=c.lo;omega,i⟩
   ·exact j c hc
  ·rw[if_neg q];obtain⟨e,⟨b,S,d,i⟩,j⟩:=SD L a.lo a.hi lt g.tail k;refine⟨?_,⟨t,_,rfl,zC _⟩,fun c hc=>?_⟩
   ·rw[d]at e ⊢;exact⟨h,by show t<a.lo;omega,e⟩
   ·rcases zI.1 hc with rfl|hc
    ·exact⟨(c.lo,b),zF _ (by rw[d];exact zH),zC _,i⟩
    ·obtain⟨s,s1,m⟩:=j c hc;exact⟨s,zF _ s1,m⟩
theorem JW{L:List Blk}(b:AN L):fL (iZ L)/\∀c∈L,∃s∈iZ L,s.1<=c.lo/\c.hi<=s.2:=by
 cases L with
 |nil=>exact⟨trivial,fun c hc=>by cases hc⟩
 |cons a L=>
  have d:=b.after;obtain⟨e,⟨i,S,f,g⟩,h⟩:=SD L a.lo a.hi a.lt b.tail d;refine⟨e,fun c hc=>?_⟩;rcases zI.1 hc with rfl|hc
  ·exact⟨(c.lo,i),by show _∈gJ c.lo c.hi L;rw[f];exact zH,zC _,g⟩
  ·exact h c hc
theorem J4{S:List (Nat×Nat)}{s:Nat×Nat}{c:Blk}(f:s∈S)(e:c.l<=16)(a:s.1<=c.lo)(b:c.hi<=s.2):∃d∈gB S,sL c d:=by
 obtain⟨d,d1,d2⟩:=Ns e (s.2-s.1) s.1 s.2 (zC _) a b;unfold gB;exact⟨d,xP.2 ⟨s,f,d1⟩,d2⟩
def pN(L:List Blk):Prop:=gB (iZ L)=L/\(∀c∈L,c.l<=16)/\AN L
theorem At:∀{S:List (Nat×Nat)},fL S->AN (gB S)
 | [],_=>trivial
 |s::S,h=>by
  have f:=At h.tail;have z:=h.one;rw[mT];obtain⟨r,_⟩:=EZ (s.2-s.1) s.1 s.2 (zC _) (by omega);have d:∀(P:List Blk) (x y:Nat),Bw x P y->AN P/\∀c∈P,x<=c.lo/\c.hi<=y:=by
   intro P;induction P with
   |nil=>intro x y _;exact⟨trivial,fun c hc=>by cases hc⟩
   |cons a P f=>
    intro x y g;obtain⟨o,i⟩:=f a.hi y g.2;have w:=g.1;have lt:=a.lt;have A:a.hi<=y:=by
     cases P with
     |nil=>exact Nat.le_of_eq g.2
     |cons b P=>have:=i b zH;have:=b.lt;omega
    refine⟨?_,fun c hc=>?_⟩
    ·cases P with
     |nil=>trivial
     |cons b P=>exact⟨(i b zH).1,o⟩
    ·rcases zI.1 hc with rfl|hc
     ·omega
     ·have:=i c hc;omega
  obtain⟨p,t⟩:=d _ _ _ r;refine eO.2 ⟨p,f,fun a n b k=>?_⟩;unfold gB at k;obtain⟨q,m,u⟩:=xP.1 k;have hq:=h.after q m;have j:∀e:List (Nat×Nat),fL e->∀q∈e,q.1<q.2:=by
   intro e;induction e with
   |nil=>intro _ q hq;cases hq
   |cons x e f=>
    intro l q hq;rcases zI.1 hq with rfl|hq
    ·exact l.one
    ·exact f l.tail q hq
  have B:=j S h.tail q m;obtain⟨v,_⟩:=EZ (q.2-q.1) q.1 q.2 (zC _) (by omega);have:=(d _ _ _ v).2 b u;have:=t a n;omega
theorem J3{S:List (Nat×Nat)}(h:fL S):∀c∈gB S,c.l<=16:=fun c d=>by
 unfold gB at d;obtain⟨q,g,i⟩:=xP.1 d;have b:∀a:List (Nat×Nat),fL a->∀q∈a,q.1<q.2:=by
  intro a;induction a with
  |nil=>intro _ q hq;cases hq
  |cons x a f=>
   intro e q hq;rcases zI.1 hq with rfl|hq
   ·exact e.one
   ·exact f e.tail q hq
 have j:=b S h q g;exact(EZ (q.2-q.1) q.1 q.2 (zC _) (by omega)).2 c i
theorem Hx{A B:List Blk}(e:pN A)(f:pN B){E:List Nat}(p:FW E)(i:∀s∈iZ A++iZ B,s.1∈E/\s.2∈E):
  pN (gB (dX (fun n=>gY n (iZ A)||gY n (iZ B)) E []).reverse)/\∀c∈A++B,∃d∈gB (dX (fun n=>gY n (iZ A)||gY n (iZ B)) E []).reverse,sL c d:=by
 obtain⟨u1,u2⟩:=Bb (fun n=>gY n (iZ A)||gY n (iZ B)) p;generalize (dX (fun n=>gY n (iZ A)||gY n (iZ B)) E []).reverse=Z at*;refine⟨⟨by rw[WK Z u1],J3 u1,At u1⟩,fun c g=>?_⟩;obtain⟨j,k⟩:=JW e.2.2;obtain⟨m,o⟩:=JW f.2.2;have q:c.l<=16:=by
  rcases qR.1 g with h|h
  ·exact e.2.1 c h
  ·exact f.2.1 c h
 obtain⟨s,s1,t,u⟩:∃s∈iZ A++iZ B,s.1<=c.lo/\c.hi<=s.2:=by
  rcases qR.1 g with h|h
  ·obtain⟨s,a,b⟩:=k c h;exact⟨s,List.mem_append_left _ a,b⟩
  ·obtain⟨s,a,b⟩:=o c h;exact⟨s,List.mem_append_right _ a,b⟩
 have lt:=c.lt;obtain⟨z,r,v,w⟩:=u2 s.1 s.2 (i s s1).1 (i s s1).2 (by omega) (fun n _ a b=>by
  rw[Bool.or_eq_true];rcases qR.1 s1 with h|h
  ·left;exact(mJ j).2 ⟨s,h,a,b⟩
  ·right;exact(mJ m).2 ⟨s,h,a,b⟩)
 exact J4 r q (by omega) (by omega)
end Rg
namespace Rg
theorem YV{R a:List Blk}(h:fD R=some a)(f:∀c∈R,c.l<=16):∀e∈a,∃d∈R,sL d e:=by
 obtain⟨b,S,g,rfl,rfl⟩:=LS h f;intro e he;rcases zI.1 he with rfl|he
 ·exact⟨e.kid 3,zH,sL.kid e (by omega)⟩
 ·exact⟨e,by simp[he],sL.refl e⟩
def iK(R:List Blk)(m:Nat):Prop:=∀d∈R,d.hi<=m
theorem iK.mono{R:List Blk}{m n:Nat}(h:iK R m)(b:m<=n):iK R n:=fun d a=>zJ (h d a) b
structure Step (R R':List Blk) (m:Nat):Prop where
 good:Good R'
 upto:iK R' m
 above:∀d∈R,∃e∈R',sL d e
theorem Step.trans{A B C:List Blk}{m n:Nat}(h:Step A B m)(k:Step B C n):Step A C n:=
 ⟨k.good,k.upto,fun d i=>by
  obtain⟨e,a,b⟩:=h.above d i;obtain⟨f,c,g⟩:=k.above e a;exact⟨f,c,b.trans g⟩⟩
theorem Step.push{R:List Blk}{c:Blk}(h:Good R)(f:c.l<=16)(k:iK R c.lo):Step R (push R c) c.hi/\∃e∈push R c,sL c e:=by
 obtain⟨g,⟨e,S,i,j⟩,b⟩:=h.push f k;refine⟨⟨g,fun d a=>?_,fun d a=>b d (zF _ a)⟩,b c zH⟩;rw[<-j];exact g.below i d a
theorem In.subs{c d:Blk}{y x:Nat}(h:sL c d)(k:In c y x):In d y x:=In.sub _ rfl h k
def fin(R:List Blk):Option (List Blk):=if R.length<=4064 then some R else none
def eN(meets inside:Blk->Bool):Nat->Blk->List Blk->Option (List Blk)
 | 0,b,R=>if meets b then fin (push R b) else some R
 |k+1,b,R=>if meets b then(if inside b then fin (push R b) else
   (eN meets inside k (b.kid 0) R).bind fun R=>(eN meets inside k (b.kid 1) R).bind fun R=>(eN meets inside k (b.kid 2) R).bind fun R=>eN meets inside k (b.kid 3) R) else some R
theorem oZ{R a:List Blk}(h:fin R=some a):a=R:=by
 unfold fin at h;split at h
 ·exact(zL.inj h).symm
 ·cases h
theorem bE{α β:Type}{o:Option α}{f:α->Option β}{b:β}(h:o.bind f=some b):∃a,o=some a/\f a=some b:=by
 cases o with
 |none=>cases h
 |some a=>exact⟨a,rfl,h⟩
theorem iS(b:Blk)(a:b.l<16)(i:Nat):(b.kid i).hi=(b.kid (i+1)).lo:=by rw[Blk.kid_hi b i a,Blk.kid_lo b (i+1) a]
theorem LL(b:Blk)(a:b.l<16):(b.kid 3).hi=b.hi:=by rw[Blk.kid_hi b 3 a,Blk.hi_eq,uZ a]
theorem EH(b:Blk)(a:b.l<16):(b.kid 0).lo=b.lo:=by rw[Blk.kid_lo b 0 a];omega
theorem mG{meets inside:Blk->Bool}{P:Nat->Nat->Prop}(n:∀b y x,P y x->In b y x->meets b=true):∀(k:Nat) (b:Blk) (R g:List Blk),b.l+k<=16->Good R->iK R b.lo->eN meets inside k b R=some g->
  Step R g b.hi/\∀y x,P y x->In b y x->∃e∈g,In e y x
 | 0,b,R,g,K,j,o,h=>by
  unfold eN at h;split at h
  ·have:=oZ h;subst this;obtain⟨s,e,D,E⟩:=Step.push j (by omega) o;exact⟨s,fun y x _ hi=>⟨e,D,hi.subs E⟩⟩
  ·rename_i no;cases h;exact⟨⟨j,o.mono (qZ b.lt),fun d z=>⟨d,z,sL.refl d⟩⟩,fun y x c hi=>absurd (n b y x c hi) no⟩
 |k+1,b,R,g,K,j,o,h=>by
  unfold eN at h;have p:b.l<16:=by omega
  split at h
  ·split at h
   ·have:=oZ h;subst this;obtain⟨s,e,D,E⟩:=Step.push j (by omega) o;exact⟨s,fun y x _ hi=>⟨e,D,hi.subs E⟩⟩
   ·obtain⟨R0,H,h⟩:=bE h;obtain⟨R1,u,h⟩:=bE h;obtain⟨R2,v,w⟩:=bE h;have r:∀i,(b.kid i).l+k<=16:=fun i=>by show b.l+1+k<=16;omega
    obtain⟨G,L⟩:=mG n k (b.kid 0) R R0 (r 0) j (by rw[EH b p];exact o) H;obtain⟨s1,M⟩:=mG n k (b.kid 1) R0 R1 (r 1) G.good (by rw[<-iS b p 0];exact G.upto) u;obtain⟨q,N⟩:=mG n k (b.kid 2) R1 R2 (r 2) s1.good (by rw[<-iS b p 1];exact s1.upto) v;obtain⟨t,O⟩:=mG n k (b.kid 3) R2 g (r 3) q.good (by rw[<-iS b p 2];exact q.upto) w;refine⟨by rw[<-LL b p];exact G.trans (s1.trans (q.trans t)),fun y x c hi=>?_⟩;have go:∀{A B:List Blk} {m:Nat},Step A B m->(∃e∈A,In e y x)->∃e∈B,In e y x:=fun s ⟨e,u,v⟩=>by
     obtain⟨f,w,I⟩:=s.above e u;exact⟨f,w,v.subs I⟩
    obtain⟨i,J,a⟩:=In.down hi;have:i=0\/i=1\/i=2\/i=3:=by omega
    rcases this with rfl|rfl|rfl|rfl
    ·exact go (s1.trans (q.trans t)) (L y x c a)
    ·exact go (q.trans t) (M y x c a)
    ·exact go t (N y x c a)
    ·exact O y x c a
  ·rename_i no;cases h;exact⟨⟨j,o.mono (qZ b.lt),fun d z=>⟨d,z,sL.refl d⟩⟩,fun y x c hi=>absurd (n b y x c hi) no⟩
theorem Good.isTidy{R:List Blk}(h:Good R):pN R.reverse:=⟨h.tidy,fun c a=>h.lev c (by simpa using a),h.ord⟩
def bX(meets inside:Blk->Bool)(level:Nat):Option (List Blk):=
 ((eN meets inside level ⟨0,0⟩ []).bind fun R=>eN meets inside level ⟨0,1⟩ R).bind fun R=>if R.length<=4000 then some R.reverse else none
theorem wK{meets inside:Blk->Bool}{P:Nat->Nat->Prop}(i:∀b y x,P y x->In b y x->meets b=true){level:Nat}(q:level<=16){L:List Blk}(h:bX meets inside level=some L):
  pN L/\iK L 8589934592/\∀y x,P y x->(In ⟨0,0⟩ y x\/In ⟨0,1⟩ y x)->∃e∈L,In e y x:=by
 unfold bX at h;obtain⟨R1,a,h⟩:=bE h;obtain⟨R0,l,a⟩:=bE a;split at h
 ·cases h;obtain⟨k,o⟩:=mG i level ⟨0,0⟩ [] R0 (by show 0+level<=16;omega) Good.nil (fun d g=>by cases g) l;obtain⟨s1,p⟩:=mG i level ⟨0,1⟩ R0 R1 (by show 0+level<=16;omega) k.good k.upto a;refine⟨s1.good.isTidy,fun d g=>s1.upto d (by simpa using g),fun y x j hi=>?_⟩;rcases hi with hi|hi
  ·obtain⟨e,a,c⟩:=o y x j hi;obtain⟨f,m,n⟩:=s1.above e a;exact⟨f,by simpa using m,c.subs n⟩
  ·obtain⟨e,a,c⟩:=p y x j hi;exact⟨e,by simpa using a,c⟩
 ·cases h
def dI(agrees sure:Blk->Bool)(level:Nat):Nat->Blk->Nat×List Blk->Option (Nat×List Blk)
 |k,b,(n,L)=>if 100000<n+1 then none else if agrees b then(if level<=b.l\/sure b=true then some (n+1,L++[b]) else
   match k with
   | 0=>none
   |k+1=>(dI agrees sure level k (b.kid 0) (n+1,L)).bind fun s=>(dI agrees sure level k (b.kid 1) s).bind fun s=>(dI agrees sure level k (b.kid 2) s).bind fun s=>dI agrees sure level k (b.kid 3) s)
  else some (n+1,L)
structure Added (L L':List Blk) (lo hi:Nat) (Q:Nat->Nat->Prop):Prop where
 ex:∃M,L'=L++M/\AN M/\(∀d∈M,d.l<=16/\lo<=d.lo/\d.hi<=hi)/\∀y x,Q y x->∃e∈M,In e y x
theorem tO{agrees sure:Blk->Bool}{P:Nat->Nat->Prop}{level:Nat}(q:∀b y x,P y x->In b y x->agrees b=true):∀(k:Nat) (b:Blk) (s v:Nat×List Blk),b.l+k<=16->dI agrees sure level k b s=some v->
  Added s.2 v.2 b.lo b.hi (fun y x=>P y x/\In b y x)
 | k,b,(n,L),v,hk,h=>by
  unfold dI at h;split at h
  ·cases h
  split at h
  ·split at h
   ·cases h;exact⟨[b],rfl,trivial,fun d hd=>by rw[qG.1 hd];exact⟨by omega,zC _,zC _⟩,fun y x f=>⟨b,by simp,f.2⟩⟩
   ·split at h
    ·cases h
    ·rename_i k;have p:b.l<16:=by omega
     obtain⟨z,K,h⟩:=bE h;obtain⟨A,M,h⟩:=bE h;obtain⟨B,N,O⟩:=bE h;have u:∀i,(b.kid i).l+k<=16:=fun i=>by show b.l+1+k<=16;omega
     obtain⟨E,e0,R,D,Y⟩:=(tO q k (b.kid 0) _ z (u 0) K).ex;obtain⟨G,e1,U,w,Z⟩:=(tO q k (b.kid 1) z A (u 1) M).ex;obtain⟨H,e2,V,r,p2⟩:=(tO q k (b.kid 2) A B (u 2) N).ex;obtain⟨I,J,X,t,p3⟩:=(tO q k (b.kid 3) B v (u 3) O).ex;have f0:=EH b p;have f1:(b.kid 0).hi=(b.kid 1).lo:=iS b p 0;have f2:(b.kid 1).hi=(b.kid 2).lo:=iS b p 1;have f3:(b.kid 2).hi=(b.kid 3).lo:=iS b p 2;have f4:=LL b p;have l0:=(b.kid 0).lt;have l1:=(b.kid 1).lt;have l2:=(b.kid 2).lt;have l3:=(b.kid 3).lt;refine⟨E++(G++(H++I)),by rw[J,e2,e1,e0];simp,?_,fun d hd=>?_,fun y x f=>?_⟩
     ·refine eO.2 ⟨R,eO.2 ⟨U,eO.2 ⟨V,X,fun a o c hc=>?_⟩,fun a o c hc=>?_⟩,fun a o c hc=>?_⟩
      ·have:=r a o;have:=t c hc;omega
      ·have:=w a o;rcases qR.1 hc with hc|hc
       ·have:=r c hc;omega
       ·have:=t c hc;omega
      ·have:=D a o;rcases qR.1 hc with hc|hc
       ·have:=w c hc;omega
       ·rcases qR.1 hc with hc|hc
        ·have:=r c hc;omega
        ·have:=t c hc;omega
     ·rcases qR.1 hd with hd|hd
      ·have:=D d hd;omega
      ·rcases qR.1 hd with hd|hd
       ·have:=w d hd;omega
       ·rcases qR.1 hd with hd|hd
        ·have:=r d hd;omega
        ·have:=t d hd;omega
     ·obtain⟨i,Q,g⟩:=In.down f.2;have:i=0\/i=1\/i=2\/i=3:=by omega
      rcases this with rfl|rfl|rfl|rfl
      ·obtain⟨e,j,m⟩:=Y y x ⟨f.1,g⟩;exact⟨e,by simp[j],m⟩
      ·obtain⟨e,j,m⟩:=Z y x ⟨f.1,g⟩;exact⟨e,by simp[j],m⟩
      ·obtain⟨e,j,m⟩:=p2 y x ⟨f.1,g⟩;exact⟨e,by simp[j],m⟩
      ·obtain⟨e,j,m⟩:=p3 y x ⟨f.1,g⟩;exact⟨e,by simp[j],m⟩
  ·rename_i no;cases h;exact⟨[],by simp,trivial,(fun d hd=>by cases hd),(fun y x f=>absurd (q b y x f.1 f.2) no)⟩
def looks(agrees sure:Blk->Bool)(level:Nat):List Blk->Nat×List Blk->Option (Nat×List Blk)
 | [],s=>some s
 |b::l,s=>(dI agrees sure level (16-b.l) b s).bind fun s=>looks agrees sure level l s
theorem YO{agrees sure:Blk->Bool}{P:Nat->Nat->Prop}{level:Nat}(q:∀b y x,P y x->In b y x->agrees b=true):∀(l:List Blk) (s g:Nat×List Blk) (lo hi:Nat),AN l->(∀d∈l,d.l<=16/\lo<=d.lo/\d.hi<=hi)->looks agrees sure level l s=some g->
  Added s.2 g.2 lo hi (fun y x=>P y x/\∃b∈l,In b y x)
 | [],s,g,lo,hi,_,_,h=>by
  cases h;exact⟨[],by simp,trivial,(fun d hd=>by cases hd),(fun y x j=>by obtain⟨_,b,p,_⟩:=j;cases p)⟩
 |b::l,s,g,lo,hi,r,i,h=>by
  obtain⟨a,w,z⟩:=bE h;have p:=i b zH;obtain⟨u,e0,B,n,E⟩:=(tO q (16-b.l) b s a (by omega) w).ex;obtain⟨v,e1,D,o,G⟩:=(YO q l a g b.hi hi r.tail (fun d hd=>⟨(i d (zF _ hd)).1,r.after d hd,(i d (zF _ hd)).2.2⟩) z).ex;have lt:=b.lt;refine⟨u++v,by rw[e1,e0];simp,eO.2 ⟨B,D,fun a A c hc=>by have:=n a A;have:=o c hc;omega⟩,(fun d hd=>?_),(fun y x j=>?_)⟩
  ·rcases qR.1 hd with hd|hd
   ·have:=n d hd;omega
   ·have:=o d hd;omega
  ·obtain⟨t,c,hc,f⟩:=j;rcases zI.1 hc with rfl|hc
   ·obtain⟨e,k,m⟩:=E y x ⟨t,f⟩;exact⟨e,by simp[k],m⟩
   ·obtain⟨e,k,m⟩:=G y x ⟨t,c,hc,f⟩;exact⟨e,by simp[k],m⟩
def AJ:List Blk->List Blk->List Blk
 | [],R=>R
 |b::l,R=>AJ l (push R b)
theorem I6:∀(l R:List Blk) (m:Nat),Good R->AN l->(∀d∈l,d.l<=16/\d.hi<=m)->(∀a∈R,∀d∈l,a.hi<=d.lo)->iK R m->Step R (AJ l R) m/\∀b∈l,∃e∈AJ l R,sL b e
 | [],R,m,i,_,_,_,n=>⟨⟨i,n,fun d g=>⟨d,g,sL.refl d⟩⟩,fun b h=>by cases h⟩
 |b::l,R,m,i,k,j,hR,n=>by
  have h:=j b zH;obtain⟨s,e,t,u⟩:=Step.push i h.1 (fun d g=>hR d g b zH);obtain⟨o,v⟩:=I6 l (push R b) m s.good k.tail (fun d g=>j d (zF _ g)) (fun a r d g=>zJ (s.upto a r) (k.after d g)) (s.upto.mono h.2);refine⟨s.trans o,fun c hc=>?_⟩;rcases zI.1 hc with rfl|hc
  ·obtain⟨f,p,q⟩:=o.above e t;exact⟨f,p,u.trans q⟩
  ·exact v c hc
def ofK(agrees sure:Blk->Bool)(level:Nat)(l:List Blk):Option (Nat×List Blk):=looks agrees sure level l (0,[])
theorem TO{agrees sure:Blk->Bool}{P:Nat->Nat->Prop}{level:Nat}(u:∀b y x,P y x->In b y x->agrees b=true){l:List Blk}(g:pN l)(w:iK l 8589934592){s:Nat×List Blk}(h:ofK agrees sure level l=some s):
  pN (AJ s.2 []).reverse/\iK (AJ s.2 []).reverse 8589934592/\∀y x,P y x->(∃b∈l,In b y x)->∃e∈(AJ s.2 []).reverse,In e y x:=by
 obtain⟨M,e,o,b,p⟩:=(YO u l (0,[]) s 0 8589934592 g.2.2 (fun d c=>⟨g.2.1 d c,Nat.zero_le _,w d c⟩) h).ex;have e:s.2=M:=by simpa using e
 rw[e];obtain⟨i,q⟩:=I6 M [] 8589934592 Good.nil o (fun d c=>⟨(b d c).1,(b d c).2.2⟩) (fun a r=>by cases r) (fun d c=>by cases c);refine⟨i.good.isTidy,fun d c=>i.upto d (by simpa using c),fun y x v t=>?_⟩;obtain⟨d,j,k⟩:=p y x ⟨v,t⟩;obtain⟨f,m,n⟩:=q d j;exact⟨f,by simpa using m,k.subs n⟩
end Rg
namespace Rg
def XZ(n:Nat):List Nat->List Nat
 | []=>[n]
 |a::l=>if n<a then n::a::l else if n=a then a::l else a::XZ n l
theorem BE(n:Nat):∀(l:List Nat) (x:Nat),x∈XZ n l↔x=n\/x∈l
 | [],x=>by simp[XZ]
 |a::l,x=>by
  unfold XZ;split
  ·simp
  ·split
   ·rename_i h;subst h;simp
   ·rw[zI,BE n l x,zI];constructor
    ·rintro(h|h|h)
     ·exact .inr (.inl h)
     ·exact .inl h
     ·exact .inr (.inr h)
    ·rintro(h|h|h)
     ·exact .inr (.inl h)
     ·exact .inl h
     ·exact .inr (.inr h)
theorem Xk{a:Nat}{l:List Nat}(h:FW l)(c:∀b∈l,a<b):FW (a::l):=by
 cases l with
 |nil=>trivial
 |cons b l=>exact⟨c b zH,h⟩
theorem LD(n:Nat):∀{l:List Nat},FW l->FW (XZ n l)
 | [],_=>trivial
 |a::l,h=>by
  unfold XZ;split
  ·rename_i q;exact⟨q,h⟩
  ·split
   ·exact h
   ·refine Xk (LD n h.tail) fun b hb=>?_;rcases(BE n l b).1 hb with rfl|hb
    ·omega
    ·exact h.after b hb
def eds:List (Nat×Nat)->List Nat
 | []=>[]
 |s::l=>XZ s.1 (XZ s.2 (eds l))
theorem BC:∀l,FW (eds l)
 | []=>trivial
 |_::l=>LD _ (LD _ (BC l))
theorem nW:∀(l:List (Nat×Nat)) (x:Nat),x∈eds l↔∃s∈l,x=s.1\/x=s.2
 | [],x=>by simp[eds]
 |s::l,x=>by
  unfold eds;rw[BE,BE,nW l x];simp only[zI,exists_eq_or_imp];constructor
  ·rintro(h|h|h)
   ·exact .inl (.inl h)
   ·exact .inl (.inr h)
   ·exact .inr h
  ·rintro((h|h)|h)
   ·exact .inl h
   ·exact .inr (.inl h)
   ·exact .inr (.inr h)
theorem XY:∀{l m:List Nat},FW l->FW m->(∀x,x∈l↔x∈m)->l=m
 | [],[],_,_,_=>rfl
 | [],b::m,_,_,h=>by have:=(h b).2 zH;cases this
 |a::l,[],_,_,h=>by have:=(h a).1 zH;cases this
 |a::l,b::m,d,f,h=>by
  have e:a=b:=by
   have g:=(h a).1 zH;have i:=(h b).2 zH;rcases zI.1 g with r|r
   ·exact r
   rcases zI.1 i with s|s
   ·exact s.symm
   have:=f.after a r;have:=d.after b s;omega
  subst e;congr 1;refine XY d.tail f.tail fun x=>?_;constructor
  ·intro c;rcases zI.1 ((h x).1 (zF _ c))with r|r
   ·have:=d.after x c;omega
   ·exact r
  ·intro c;rcases zI.1 ((h x).2 (zF _ c))with r|r
   ·have:=f.after x c;omega
   ·exact r
theorem mQ(a:Nat->Bool)(m:Nat):∀(E:List Nat) (R:List (Nat×Nat)),(∀x∈E,x<=m)->(∀s∈R,s.2<=m)->∀s∈dX a E R,s.2<=m
 | [],R,_,hR=>by unfold dX;exact hR
 | [_],R,_,hR=>by unfold dX;exact hR
 |e::c::E,R,h,hR=>by
  have d:c<=m:=h c (by simp);have b:∀x∈c::E,x<=m:=fun x j=>h x (zF _ j);rw[fU];split
  ·split
   ·rename_i f t i;have g:∀s∈i,s.2<=m:=fun s hs=>hR s (zF _ hs);split
    ·refine mQ a m (c::E) _ b fun s hs=>?_;rcases zI.1 hs with rfl|hs
     ·exact d
     ·exact g s hs
    ·refine mQ a m (c::E) _ b fun s hs=>?_;rcases zI.1 hs with rfl|hs
     ·exact d
     ·exact hR s hs
   ·refine mQ a m (c::E) _ b fun s hs=>?_;rw[qG.1 hs];exact d
  ·exact mQ a m (c::E) R b hR
theorem DR(m:Nat):∀(L:List Blk) (f t:Nat),t<=m->iK L m->∀s∈gJ f t L,s.2<=m
 | [],f,t,b,_=>by
  unfold gJ;intro s hs;rw[qG.1 hs];exact b
 |a::L,f,t,b,e=>by
  have g:=e a zH;have c:iK L m:=fun d h=>e d (zF _ h);unfold gJ;split
  ·exact DR m L f _ (by omega) c
  ·intro s hs;rcases zI.1 hs with rfl|hs
   ·exact b
   ·exact DR m L a.lo a.hi g c s hs
theorem JV{m:Nat}{L:List Blk}(b:iK L m):∀s∈iZ L,s.2<=m:=by
 cases L with
 |nil=>intro s e;cases e
 |cons a L=>exact DR m L a.lo a.hi (b a zH) (fun d c=>b d (zF _ c))
theorem Aq:∀(k f t:Nat),t-f<=k->iK (wH k f t) t
 | 0,f,t,_=>fun d hd=>by cases hd
 |k+1,f,t,a=>by
  unfold wH;split
  ·rename_i q;have o:=LO f t 16 (by rw[Ak];omega) (by rw[Ak];omega);have p:=nN (lev f t 16);have lo:(first f t).lo=f:=Nat.div_mul_cancel (yV o.1);intro d hd;rcases zI.1 hd with rfl|hd
   ·rw[Blk.hi_eq,lo];exact o.2
   ·exact Aq k _ t (by omega) d hd
  ·intro d hd;cases hd
theorem Ro{S:List (Nat×Nat)}{m:Nat}(h:∀s∈S,s.2<=m):iK (gB S) m:=fun d a=>by
 unfold gB at a;obtain⟨s,b,c⟩:=xP.1 a;exact zJ (Aq _ _ _ (zC _) d c) (h s b)
def iH(A B:List Blk):List Blk:=gB (dX (fun n=>gY n (iZ A)||gY n (iZ B)) (eds (iZ A++iZ B)) []).reverse
theorem QR{A B:List Blk}(g:pN A)(i:pN B){m:Nat}(n:iK A m)(o:iK B m):pN (iH A B)/\iK (iH A B) m/\∀c∈A++B,∃d∈iH A B,sL c d:=by
 obtain⟨b,f⟩:=Hx g i (BC (iZ A++iZ B)) (fun s hs=>⟨(nW _ _).2 ⟨s,hs,.inl rfl⟩,(nW _ _).2 ⟨s,hs,.inr rfl⟩⟩);refine⟨b,Ro fun s hs=>?_,f⟩;have e:∀s∈iZ A++iZ B,s.1<=m/\s.2<=m:=by
  have one:∀S:List (Nat×Nat),fL S->(∀s∈S,s.2<=m)->∀s∈S,s.1<=m/\s.2<=m:=by
   intro S;induction S with
   |nil=>intro _ _ s hs;cases hs
   |cons a S l=>
    intro j h s hs;rcases zI.1 hs with rfl|hs
    ·have:=j.one;have:=h s zH;exact⟨by omega,by omega⟩
    ·exact l j.tail (fun s hs=>h s (zF _ hs)) s hs
  intro s hs;rcases qR.1 hs with hs|hs
  ·exact one _ (JW g.2.2).1 (JV n) s hs
  ·exact one _ (JW i.2.2).1 (JV o) s hs
 refine mQ _ m _ [] (fun x k=>?_) (fun s hs=>by cases hs) s (by simpa using hs);obtain⟨s,b,f⟩:=(nW _ _).1 k;have:=e s b;omega
theorem pN.nil:pN []:=⟨rfl,(fun c a=>by cases a),trivial⟩
def iM(f:Blk->Int ⊕ List Blk):List Blk->Option (List Blk)->Int ⊕ List Blk
 | [],some L=>.inr L
 | [],none=>.inl 4
 |c::l,s=>match f c with
  | .inl e=>.inl e
  | .inr A=>match s with
   |none=>iM f l none
   |some L=>iM f l (if (iH L A).length<=4000 then some (iH L A) else none)
theorem EP(f:Blk->Int ⊕ List Blk):∀(l L:List Blk),iM f l none≠.inr L
 | [],L,h=>by cases h
 |c::l,L,h=>by
  unfold iM at h;split at h
  ·cases h
  ·exact EP f l L h
theorem CE{f:Blk->Int ⊕ List Blk}{p:Int->Prop}(a:p 4):∀(l:List Blk) (s:Option (List Blk)) (e:Int),(∀c∈l,∀e,f c=.inl e->p e)->iM f l s=.inl e->p e
 | [],some L,e,_,h=>by cases h
 | [],none,e,_,h=>by cases h;exact a
 |c::l,s,e,b,h=>by
  unfold iM at h;have g:=fun d i=>b d (zF c i);split at h
  ·rename_i k j;cases h;exact b c zH _ j
  ·split at h
   ·exact CE a l _ e g h
   ·exact CE a l _ e g h
theorem Mu{f:Blk->Int ⊕ List Blk}(m:Nat)(n:∀c A,f c=.inr A->pN A/\iK A m):∀(l S L:List Blk),pN S->iK S m->iM f l (some S)=.inr L->
  pN L/\iK L m/\(∀d∈S,∃e∈L,sL d e)/\∀c∈l,∃A,f c=.inr A/\∀d∈A,∃e∈L,sL d e
 | [],S,L,i,j,h=>by
  cases h;exact⟨i,j,fun d a=>⟨d,a,sL.refl d⟩,fun c s=>by cases s⟩
 |c::l,S,L,i,j,h=>by
  unfold iM at h;split at h
  ·cases h
  ·rename_i A k;dsimp only at h;obtain⟨y,B⟩:=n c A k;obtain⟨z,D,x⟩:=QR i y j B;split at h
   ·obtain⟨t,u,v,w⟩:=Mu m n l _ L z D h;have go:∀d∈S++A,∃e∈L,sL d e:=fun d a=>by
     obtain⟨e,o,p⟩:=x d a;obtain⟨g,q,r⟩:=v e o;exact⟨g,q,p.trans r⟩
    refine⟨t,u,fun d a=>go d (List.mem_append_left _ a),fun b hb=>?_⟩;rcases zI.1 hb with rfl|hb
    ·exact⟨A,k,fun d a=>go d (List.mem_append_right _ a)⟩
    ·exact w b hb
   ·exact absurd h (EP f l L)
theorem rows{n:Nat}{lo hi:Nat->Int}(h:∀i,i<n->lo i<=hi (i+1)/\lo (i+1)<=hi i){z:Int}(c:∃i,i<=n/\lo i<=z)(d:∃i,i<=n/\z<=hi i):∃i,i<=n/\lo i<=z/\z<=hi i:=by
 refine Classical.byContradiction fun no=>?_;have one:∀i,i<=n->lo i<=z->hi i<z:=fun i hi h=>by
  refine Int.not_le.1 fun q=>no ⟨i,hi,h,q⟩
 obtain⟨i,hi,b⟩:=c;obtain⟨j,e,g⟩:=d;have up:∀k,i+k<=n->lo (i+k)<=z:=by
  intro k;induction k with
  |zero=>intro _;exact b
  |succ k a=>
   intro f;have:=one (i+k) (by omega) (a (by omega));have:=(h (i+k) (by omega)).2;rw[show i+(k+1)=i+k+1 by omega];omega
 have down:∀k,k<=i->lo (i-k)<=z:=by
  intro k;induction k with
  |zero=>intro _;exact b
  |succ k a=>
   intro f;have:=one (i-k) (by omega) (a (by omega));have:=(h (i-(k+1)) (by omega)).1;rw[show i-(k+1)+1=i-k by omega]at this;omega
 have:lo j<=z:=by
  rcases Nat.le_total i j with q|q
  ·have:=up (j-i) (by omega);rwa[show i+(j-i)=j by omega]at this
  ·have:=down (i-j) (by omega);rwa[show i-(i-j)=j by omega]at this
 have:=one j e this;omega
end Rg
namespace Rg
def Lv(R:List Blk)(m:Nat):Prop:=∀d∈R,d.l<=m
theorem QB{m:Nat}(a:m<=16):∀(k:Nat) (R:List Blk),Lv R m->Lv (eF k R) m
 | 0,R,h=>by unfold eF;exact h
 |k+1,R,h=>by
  unfold eF;split
  ·rename_i b hR;refine QB a k b fun e i=>?_;obtain⟨d,g,j⟩:=YV hR (fun c f=>zJ (h c f) a) e i;exact zJ j.1 (h d g)
  ·exact h
theorem CC{m:Nat}(b:m<=16){R:List Blk}{c:Blk}(h:Lv R m)(a:c.l<=m):Lv (push R c) m:=QB b _ _ fun d hd=>by
 rcases zI.1 hd with rfl|hd
 ·exact a
 ·exact h d hd
theorem oW{meets inside:Blk->Bool}{m:Nat}(a:m<=16):∀(k:Nat) (b:Blk) (R c:List Blk),b.l+k<=m->Lv R m->eN meets inside k b R=some c->Lv c m
 | 0,b,R,c,n,hR,h=>by
  unfold eN at h;split at h
  ·have:=oZ h;subst this;exact CC a hR (by omega)
  ·cases h;exact hR
 |k+1,b,R,c,n,hR,h=>by
  unfold eN at h;split at h
  ·split at h
   ·have:=oZ h;subst this;exact CC a hR (by omega)
   ·obtain⟨R0,e,h⟩:=bE h;obtain⟨R1,f,h⟩:=bE h;obtain⟨R2,g,j⟩:=bE h;have d:∀i,(b.kid i).l+k<=m:=fun i=>by show b.l+1+k<=m;omega
    exact oW a k _ _ _ (d 3) (oW a k _ _ _ (d 2) (oW a k _ _ _ (d 1) (oW a k _ _ _ (d 0) hR e) f) g) j
  ·cases h;exact hR
theorem UY{meets inside:Blk->Bool}{level:Nat}(c:level<=16){L:List Blk}(h:bX meets inside level=some L):Lv L level:=by
 unfold bX at h;obtain⟨R1,a,h⟩:=bE h;obtain⟨R0,e,a⟩:=bE a;split at h
 ·cases h;have:=oW c level ⟨0,1⟩ R0 R1 (by show 0+level<=level;omega) (oW c level ⟨0,0⟩ [] R0 (by show 0+level<=level;omega) (fun d b=>by cases b) e) a;exact fun d b=>this d (by simpa using b)
 ·cases h
theorem pE{agrees sure:Blk->Bool}{level m:Nat}(a:level<=m):∀(k:Nat) (b:Blk) (s f:Nat×List Blk),b.l<=m->Lv s.2 m->dI agrees sure level k b s=some f->Lv f.2 m
 |k,b,(n,L),f,r,e,h=>by
  unfold dI at h;split at h
  ·cases h
  split at h
  ·split at h
   ·cases h;intro d hd;rcases qR.1 hd with hd|hd
    ·exact e d hd
    ·rw[qG.1 hd];exact r
   ·rename_i t;split at h
    ·cases h
    ·rename_i k;obtain⟨u,g,h⟩:=bE h;obtain⟨v,j,h⟩:=bE h;obtain⟨w,o,p⟩:=bE h;have c:∀i,(b.kid i).l<=m:=fun i=>by
      show b.l+1<=m;have:¬level<=b.l:=fun q=>t (.inl q);omega
     exact pE a k _ _ _ (c 3) (pE a k _ _ _ (c 2) (pE a k _ _ _ (c 1) (pE a k _ (n+1,L) _ (c 0) e g) j) o) p
  ·cases h;exact e
theorem PW{agrees sure:Blk->Bool}{level m:Nat}(g:level<=m):∀(l:List Blk) (s c:Nat×List Blk),Lv l m->Lv s.2 m->looks agrees sure level l s=some c->Lv c.2 m
 | [],s,c,_,e,h=>by cases h;exact e
 |b::l,s,c,f,e,h=>by
  obtain⟨a,i,j⟩:=bE h;exact PW g l a c (fun d k=>f d (zF _ k)) (pE g _ b s a (f b zH) e i) j
theorem Np{m:Nat}(c:m<=16):∀(l R:List Blk),Lv l m->Lv R m->Lv (AJ l R) m
 | [],_,_,h=>h
 |b::l,R,a,h=>Np c l (push R b) (fun d e=>a d (zF _ e)) (CC c h (a b zH))
theorem Mk{agrees sure:Blk->Bool}{level m:Nat}(e:level<=m)(b:m<=16){l:List Blk}(c:Lv l m){s:Nat×List Blk}(h:ofK agrees sure level l=some s):Lv (AJ s.2 []).reverse m:=fun d a=>
 Np b s.2 [] (PW e l (0,[]) s c (fun d a=>by cases a) h) (fun d a=>by cases a) d (by simpa using a)
def Al(m:Nat)(S:List (Nat×Nat)):Prop:=∀s∈S,sz m∣s.1/\sz m∣s.2
theorem Tz{c:Blk}{m:Nat}(h:c.l<=m)(a:m<=16):sz m∣c.lo/\sz m∣c.hi:=
 ⟨ahZ (rN h a) (Nat.dvd_mul_left _ _),ahZ (rN h a) (Nat.dvd_mul_left _ _)⟩
theorem aDq{m a b:Nat}(h:m∣a)(k:m∣b):m∣max a b:=by
 rcases Nat.le_total a b with q|q
 ·rw[Nat.max_eq_right q];exact k
 ·rw[Nat.max_eq_left q];exact h
theorem SC{m:Nat}(h:m<=16):∀(L:List Blk) (f t:Nat),sz m∣f->sz m∣t->Lv L m->Al m (gJ f t L)
 | [],f,t,c,e,_=>fun s hs=>by
  unfold gJ at hs;rw[qG.1 hs];exact⟨c,e⟩
 |a::L,f,t,c,e,i=>by
  have g:=Tz (i a zH) h;have b:Lv L m:=fun d j=>i d (zF _ j);unfold gJ;split
  ·exact SC h L f _ c (aDq e g.2) b
  ·intro s hs;rcases zI.1 hs with rfl|hs
   ·exact⟨c,e⟩
   ·exact SC h L a.lo a.hi g.1 g.2 b s hs
theorem Dt{m:Nat}(e:m<=16){L:List Blk}(b:Lv L m):Al m (iZ L):=by
 cases L with
 |nil=>intro s g;cases g
 |cons a L=>
  have c:=Tz (b a zH) e;exact SC e L a.lo a.hi c.1 c.2 (fun d f=>b d (zF _ f))
theorem uI(a:Nat->Bool)(m:Nat):∀(E:List Nat) (R:List (Nat×Nat)),(∀x∈E,sz m∣x)->Al m R->Al m (dX a E R)
 | [],R,_,hR=>by unfold dX;exact hR
 | [_],R,_,hR=>by unfold dX;exact hR
 |e::c::E,R,g,hR=>by
  have i:sz m∣e:=g e (by simp);have d:sz m∣c:=g c (by simp);have b:∀x∈c::E,sz m∣x:=fun x l=>g x (zF _ l);rw[fU];split
  ·split
   ·rename_i f t j;have k:=hR (f,t) zH;have h:Al m j:=fun s hs=>hR s (zF _ hs);split
    ·refine uI a m (c::E) _ b fun s hs=>?_;rcases zI.1 hs with rfl|hs
     ·exact⟨k.1,d⟩
     ·exact h s hs
    ·refine uI a m (c::E) _ b fun s hs=>?_;rcases zI.1 hs with rfl|hs
     ·exact⟨i,d⟩
     ·exact hR s hs
   ·refine uI a m (c::E) _ b fun s hs=>?_;rw[qG.1 hs];exact⟨i,d⟩
  ·exact uI a m (c::E) R b hR
theorem Fm{f t m:Nat}(a:sz m∣f)(c:f+sz m<=t):∀l,l<=16->lev f t l<=max m l/\(m<=l->lev f t l<=m)
 | 0,_=>⟨by unfold lev;omega,fun h=>by unfold lev;omega⟩
 |l+1,b=>by
  have d:=Fm a c l (by omega);refine⟨zJ (wX f t (l+1)) (Nat.le_max_right _ _),fun e=>?_⟩;rcases qJ l m with q|q
  ·have:=wX f t (l+1);omega
  ·have d1:f%sz l=0:=Nat.mod_eq_zero_of_dvd (ahZ (rN q (by omega)) a);have d2:=Ni q;unfold lev;rw[if_pos ⟨d1,by omega⟩];exact d.2 q
theorem Nr{m:Nat}(b:m<=16):∀(k f t:Nat),sz m∣f->sz m∣t->Lv (wH k f t) m
 | 0,f,t,_,_=>fun d hd=>by cases hd
 |k+1,f,t,a,e=>by
  unfold wH;split
  ·rename_i q;have g:f+sz m<=t:=by
    obtain⟨x,rfl⟩:=a;obtain⟨y,rfl⟩:=e;have h:x<y:=Nat.lt_of_mul_lt_mul_left q;have:=Nat.mul_le_mul_left (sz m) (show x+1<=y from h);rw[Nat.mul_add,Nat.mul_one]at this;exact this
   have c:=(Fm a g 16 (zC _)).2 b;intro d hd;rcases zI.1 hd with rfl|hd
   ·exact c
   ·exact Nr b k _ t (Nat.dvd_add a (rN c b)) e d hd
  ·intro d hd;cases hd
theorem aBs{m:Nat}(e:m<=16){S:List (Nat×Nat)}(h:Al m S):Lv (gB S) m:=fun d b=>by
 unfold gB at b;obtain⟨s,a,c⟩:=xP.1 b;exact Nr e _ _ _ (h s a).1 (h s a).2 d c
theorem Hw{m:Nat}(a:m<=16){A B:List Blk}(f:Lv A m)(g:Lv B m):Lv (iH A B) m:=by
 refine aBs a fun s b=>?_;refine uI _ m _ [] (fun x i=>?_) (fun s b=>by cases b) s (by simpa using b);obtain⟨s,d,e⟩:=(nW _ _).1 i;have c:sz m∣s.1/\sz m∣s.2:=by
  rcases qR.1 d with h|h
  ·exact Dt a f s h
  ·exact Dt a g s h
 rcases e with rfl|rfl
 ·exact c.1
 ·exact c.2
end Rg
section
open Go.RowKit Rg
attribute [local go_sem] Oper.semAt_some
structure Elem (α:Type) where
 enc:α->List Value
 k:Nat
 len:∀x,(enc x).length=k
 one:∀x,∀v∈enc x,v.oneCell'=true
def fW(b:Blk):List Value:=[jI jJ (b.l:Int),jI jJ (aM b.l b.n:Int),jI jJ (aN b.l b.n:Int)]
def sJ(s:Nat×Nat):List Value:=[jI jJ (s.1:Int),jI jJ (s.2:Int)]
def aDh(n:Nat):List Value:=[jI jJ (n:Int)]
def AH:Elem Blk:=⟨fW,3,fun _=>rfl,fun x v h=>by simp[fW]at h;rcases h with rfl|rfl|rfl<;>rfl⟩
def SJ:Elem (Nat×Nat):=⟨sJ,2,fun _=>rfl,fun x v h=>by simp[sJ]at h;rcases h with rfl|rfl<;>rfl⟩
def Ps:Elem Nat:=⟨aDh,1,fun _=>rfl,fun x v h=>by simp[aDh]at h;rw[h];rfl⟩
def bN{α:Type}(E:Elem α)(l:List α):List Value:=l.flatMap E.enc
theorem eW{α:Type}(E:Elem α)(l:List α):(bN E l).length=l.length*E.k:=by
 induction l with
 |nil=>simp[bN]
 |cons x l a=>rw[bN,List.flatMap_cons,zU,E.len];rw[bN]at a;rw[a,List.length_cons,xI,afX,Nat.add_comm]
theorem KV{α:Type}(E:Elem α)(l:List α)(x:α):bN E (l++[x])=bN E l++E.enc x:=by simp[bN]
theorem mH{α:Type}(E:Elem α)(l m:List α):bN E (l++m)=bN E l++bN E m:=by simp[bN]
theorem XN{α:Type}(E:Elem α):∀(l:List α) (i j:Nat) (x:α),l[i]? =some x->j<E.k->(bN E l)[i*E.k+j]? =(E.enc x)[j]?
 | [],i,j,x,h,_=>by simp at h
 |y::l,i,j,x,h,a=>by
  have e:bN E (y::l)=E.enc y++bN E l:=by simp[bN]
  rw[e];cases i with
  |zero=>
   simp only[List.getElem?_cons_zero,zL.injEq]at h;subst h;rw[Nat.zero_mul,Nat.zero_add,List.getElem?_append_left (by rw[E.len];exact a)]
  |succ i=>
   have b:=E.len y;rw[List.getElem?_append_right (by rw[b,xI,afX];omega),b,show(i+1)*E.k+j-E.k=i*E.k+j by rw[xI,afX];omega];exact XN E l i j x (by simpa using h) a
theorem Below.grows{w w':World}(a:Below w.heap.size w w'):w.grownBy w' none:=⟨a.os,a.tape,a.output,a.size,fun k b _=>a.block k b⟩
def bT{α:Type}(E:Elem α)(e:TypeId)(w:World)(B:Nat)(v:Value)(l:List α):Prop:=w.ownsRow B e E.k v l.length (bN E l)
section
variable {α : Type} {E : Elem α} {e : TypeId} {w w' : World} {B : Nat} {v : Value} {l : List α}
theorem bT.nil:bT E e w B (.slice none 0 0) []:=by unfold bT;exact World.ownsRow_nil w B e E.k
theorem bT.kept{row:Option Nat}(h:bT E e w B v l)(b:w.grownBy w' row)(a:v.ownBlock=none\/v.ownBlock≠row):bT E e w' B v l:=agQ.kept h b a
theorem bT.next(h:bT E e w B v l)(a:Below w.heap.size w w'):bT E e w' B v l:=h.kept (Below.grows a) (by cases v.ownBlock<;>simp)
theorem bT.mono{c:Nat}(h:bT E e w B v l)(j:c<=B):bT E e w c v l:=by
 refine⟨h.1,?_⟩;rcases h.2 with k|⟨g,a,b,d,f,i⟩
 ·exact .inl k
 ·exact .inr ⟨g,a,b,d,zJ j f,i⟩
theorem bT.form(h:bT E e w B v l):(v=.slice none 0 0/\l=[])\/∃g cap,v=.slice (some ⟨g,0,none⟩) l.length cap/\B<=g/\g<w.heap.size:=by
 rcases h.2 with⟨a,b⟩|⟨g,cap,c,a,b,d,_⟩
 ·exact .inl ⟨a,List.eq_nil_of_length_eq_zero b⟩
 ·exact .inr ⟨g,cap,a,b,(Array.getElem?_eq_some_iff.1 d).1⟩
theorem bT.slice(h:bT E e w B v l):∃A c,v=.slice A l.length c:=by
 rcases h.form with⟨b,rfl⟩|⟨g,a,b,_⟩
 ·exact⟨none,0,b⟩
 ·exact⟨_,a,b⟩
theorem bT.lt(h:bT E e w B v l):∀k,v.ownBlock=some k->B<=k/\k<w.heap.size:=agQ.lt h
theorem bT.at_(h:bT E e w B v l){i:Nat}{x:α}(b:l[i]? =some x):∃g cap,v=.slice (some ⟨g,0,none⟩) l.length cap/\B<=g/\g<w.heap.size/\∀j,j<E.k->w.cell? ⟨g,i*E.k+j,none⟩=(E.enc x)[j]? :=by
 have hi:i<l.length:=(List.getElem?_eq_some_iff.1 b).1;rcases h.form with⟨_,rfl⟩|⟨g,cap,a,d,f⟩
 ·simp at hi
 ·refine⟨g,cap,a,d,f,fun j m=>?_⟩;subst a;have c:(i+1)*E.k<=l.length*E.k:=zR _ hi;rw[xI,afX]at c;rw[agQ.cellAt h (i*E.k+j) (by omega)];exact XN E l i j x b m
theorem bT.new(w:World)(x:α)(a:B<=w.heap.size):bT E e (w.alloc (.cells ⟨E.enc x⟩ e)) B (.slice (some ⟨w.heap.size,0,none⟩) 1 1) [x]:=by
 have h:=World.ownsRow_lit (base:=B) (e:=e) (size:=E.k) w ⟨E.enc x⟩ 1 a (by decide) (by simpa using E.len x);unfold bT;have e1:bN E [x]=E.enc x:=by simp[bN]
 rw[e1];exact h
end
theorem bT.cel{e:TypeId}{w:World}{B:Nat}{v:Value}{l:List Blk}(h:bT AH e w B v l){i:Nat}{b:Blk}(j:l[i]? =some b):∃g cap,v=.slice (some ⟨g,0,none⟩) l.length cap/\B<=g/\g<w.heap.size/\
  w.cell? ⟨g,i*3,none⟩=some (jI jJ (b.l:Int))/\w.cell? ⟨g,i*3+1,none⟩=some (jI jJ (aM b.l b.n:Int))/\w.cell? ⟨g,i*3+2,none⟩=some (jI jJ (aN b.l b.n:Int)):=by
 obtain⟨g,cap,c,d,f,a⟩:=h.at_ j;exact⟨g,cap,c,d,f,a 0 (by decide),a 1 (by decide),a 2 (by decide)⟩
theorem bT.spa{e:TypeId}{w:World}{B:Nat}{v:Value}{l:List (Nat×Nat)}(h:bT SJ e w B v l){i:Nat}{s:Nat×Nat}(f:l[i]? =some s):∃g cap,v=.slice (some ⟨g,0,none⟩) l.length cap/\B<=g/\g<w.heap.size/\
  w.cell? ⟨g,i*2,none⟩=some (jI jJ (s.1:Int))/\w.cell? ⟨g,i*2+1,none⟩=some (jI jJ (s.2:Int)):=by
 obtain⟨g,cap,b,c,d,a⟩:=h.at_ f;exact⟨g,cap,b,c,d,a 0 (by decide),a 1 (by decide)⟩
theorem bT.num{e:TypeId}{w:World}{B:Nat}{v:Value}{l:List Nat}(h:bT Ps e w B v l){i:Nat}{n:Nat}(f:l[i]? =some n):∃g cap,v=.slice (some ⟨g,0,none⟩) l.length cap/\B<=g/\g<w.heap.size/\
  w.cell? ⟨g,i,none⟩=some (jI jJ (n:Int)):=by
 obtain⟨g,cap,a,b,c,d⟩:=h.at_ f;have:=d 0 (by decide);rw[show i*Ps.k+0=i from by show i*1+0=i;omega]at this;exact⟨g,cap,a,b,c,this⟩
theorem fH{P:Program}{e:TypeId}{z:Option Value}{s b:Nat}(h:(P.info? e).map (fun i=>(i.zero,i.size,i.bytes))=some (z,s,b)):∃i,P.info? e=some i/\i.zero=z/\i.size=s/\i.bytes=b:=by
 cases hi:P.info? e with
 |none=>rw[hi]at h;cases h
 |some i=>
  rw[hi]at h;simp only[Option.map_some,zL.injEq,Prod.mk.injEq]at h;exact⟨i,rfl,h.1,h.2.1,h.2.2⟩
theorem gW:(zB.info? 63).map (fun i=>(i.zero,i.size,i.bytes))=some (some (.agg #[jI jJ 0,jI jJ 0,jI jJ 0]),3,24):=by kernel_rfl
theorem uC:(zB.info? 252).map (fun i=>(i.zero,i.size,i.bytes))=some (some (.agg #[jI jJ 0,jI jJ 0]),2,16):=by kernel_rfl
theorem Xm:(zB.info? 3).map (fun i=>(i.zero,i.size,i.bytes))=some (some (jI jJ 0),1,8):=by kernel_rfl
theorem iW{α:Type}{E:Elem α}{ops:Array Oper}{rest:List Oper}{o:Oper}{a:Act}{Q:Exit->Act->World->Prop}{w:World}(m:o.guard=none)(s x:Operand)(t:TypeId)
  (J:o.op=.call {callee:=.builtin .append,args:= #[s,x],argTypes:= #[t,t]})(e:TypeId)(z:Value)(b:Nat)(L:zB.underlying t=some (.slice e))(hi:(zB.info? e).map (fun i=>(i.zero,i.size,i.bytes))=some (some z,E.k,b))
  (n:z.cells.size=E.k)(I:0<E.k)(f:b<=100)(B:Nat)(v:Value)(l:List α)(K:a.eval s=v)(d:bT E e w B v l)(g:Nat)(y:α)(c:Nat)(M:a.eval x=.slice (some ⟨g,0,none⟩) 1 c)
  (j:∃r p,w.heap[g]? =some (.cells ⟨E.enc y⟩ r p))(q:l.length<=1000000000)(H:B<=w.heap.size)
  (h:∀g cap w',bT E e w' B (.slice (some ⟨g,0,none⟩) (l.length+1) cap) (l++[y])->w.grownBy w' v.ownBlock->(v.ownBlock=some g\/g=w.heap.size)->g<w'.heap.size->wpList zB ops Q rest (a.put o.dst (.slice (some ⟨g,0,none⟩) (l.length+1) cap)) w'):wpList zB ops Q (o::rest) a w:=by
 obtain⟨i,N,O,R,U⟩:=fH hi;obtain⟨r,p,j⟩:=j;refine wpList_append_lies w m s x t J B e i z E.k b L N O R U n I v l.length (bN E l) K d ⟨g,0,none⟩ 1 c (E.enc y) M (by rw[E.len];omega) (World.news_of_block j) (E.one y) (by omega) (by unfold maxLen;omega) ?_ H w.heap.size rfl ?_
 ·have:(l.length+1)*b<=1000000001*100:=Nat.mul_le_mul (by omega) f;omega
 ·intro g cap w' u A D G;refine h g cap w' ?_ A D G;unfold bT;rw[KV,zU];exact u
end
end Go.Proofs.YtlbklncoihhfcaaGreatDoor
