/-
  cells.tidy: the walk.
-/
import Derived.Test.YtlbklncoihhfcaaGreatDoorU7
import Derived.Deep.CutBlock
set_option maxRecDepth 100000
set_option maxHeartbeats 4000000
open Go.RowKit.Below renaming refl→zD
open Go.Lib renaming hid→zA
open _root_.List renaming length_append→zU
open _root_.Nat renaming le_refl→zC,le_trans→zJ
open _root_.Option renaming some→zL
open Go.Proofs.Tryz renaming prog→zB
open Go.World renaming setCell→qK
open Go.Value renaming int→jI
open Go.IntKind renaming i64→jJ
namespace Go.Proofs.YtlbklncoihhfcaaGreatDoor
open Go.RowKit Rg
attribute [local go_sem] Oper.semAt_some
def dD(b:Blk):Value:=.agg ⟨fW b⟩
def GP(V:Value)(w:World)(e:Ending)(w':World):Prop:=e=.returned V/\Below w.heap.size w w'
abbrev RC(w:World)(B:Nat)(v:Value)(l:List Blk):Prop:=bT AH 63 w B v l
abbrev FX(w:World)(B:Nat)(v:Value)(l:List (Nat×Nat)):Prop:=bT SJ 252 w B v l
abbrev RI(w:World)(B:Nat)(v:Value)(l:List Nat):Prop:=bT Ps 3 w B v l
def Q8:Prop:=∀b:Blk,b.l<=5->b.n<2*4^b.l->∀w,Calls zB 245 #[jI jJ (b.n:Int),jI jJ (b.l:Int)] w (GP (dD b) w)
def JC(S:List (Nat×Nat))(w:World)(e:Ending)(w':World):Prop:=
 (((gB S).length<=4000/\∃v,e=.returned (.tuple #[v,.bool true])/\RC w' w.heap.size v (gB S))\/(4000<(gB S).length/\e=.returned (.tuple #[.slice none 0 0,.bool false])))/\Below w.heap.size w w'
theorem Xz{f t l:Nat}(h:lev f t (l+1)=lev f t 16)(a:f%sz l=0)(b:f+sz l<=t):lev f t l=lev f t 16:=by
 rw[<-h,lev,if_pos ⟨a,b⟩]
theorem YK{f t l:Nat}(h:lev f t (l+1)=lev f t 16)(a:¬(f%sz l=0/\f+sz l<=t)):l+1=lev f t 16:=by
 rw[<-h,lev,if_neg a]
theorem aAs{f t l:Nat}{F T:Int}(h:lev f t (l+1)=lev f t 16)(c:0<=F)(hF:F=(f:Int))(d:T=(t:Int)):
  Int.tmod F ((sz l:Nat):Int)=F%((sz l:Nat):Int)/\(F%((sz l:Nat):Int)=0/\F+((sz l:Nat):Int)<=T/\lev f t l=lev f t 16\/F%((sz l:Nat):Int)=0/\¬F+((sz l:Nat):Int)<=T/\l+1=lev f t 16\/¬F%((sz l:Nat):Int)=0/\l+1=lev f t 16):=by
 refine⟨Int.tmod_eq_emod_of_nonneg c,?_⟩;rw[hF,d,<-Int.natCast_emod];by_cases a:f%sz l=0
 ·by_cases b:f+sz l<=t
  ·exact .inl ⟨by rw[a];rfl,by omega,Xz h a b⟩
  ·exact .inr (.inl ⟨by rw[a];rfl,by omega,YK h fun k=>b k.2⟩)
 ·exact .inr (.inr ⟨by omega,YK h fun k=>a k.1⟩)
theorem X0(d:Q8){f t:Nat}{F:Int}(hF:F=(f:Int))(m Z:Nat)(M a:Int)(b:M=(m:Int))(j:a=(Z:Int))(g:sz m=Z)(e:lev f t 16=m)(p:m<=5)(k:f<8589934592):
  ∃r c:Int,fW (first f t)=[jI jJ M,jI jJ r,jI jJ c]/\∀w,Calls zB 245 #[jI jJ (F/a),jI jJ M] w (GP (.agg #[jI jJ M,jI jJ r,jI jJ c]) w):=by
 have e1:(first f t).l=m:=e;have e2:(first f t).n=f/Z:=by rw[<-g,<-e];rfl
 have o:(first f t).n<2*4^(first f t).l:=by
  rw[e1,e2,<-g];refine Nat.div_lt_of_lt_mul ?_;have:sz m*(2*4^m)=8589934592:=by
   unfold sz;rw[Nat.mul_comm 2,<-Nat.mul_assoc,<-Nat.pow_add,show 16-m+m=16 by omega]
  rw[this];exact k
 have h:=d (first f t) (by omega) o;refine⟨_,_,by unfold fW;rw[b,<-e1],fun w=>?_⟩;have:=h w;rw[e2]at this;have i:((f/Z:Nat):Int)=F/a:=by rw[hF,j];rfl
 rw[i,e1,<-b]at this;unfold dD fW at this;rw[e1,<-b,e2]at this;rw[e1,e2];exact this
theorem I9{F:Int}{f t m:Nat}{L R A:List Blk}(hF:F=(f:Int))(e:wH (t-f) f t=first f t::wH (t-(f+sz m)) (f+sz m) t)(b:f%sz m=0/\f+sz m<=t){Z:Nat}(g:sz m=Z)(c:L++(wH (t-f) f t++R)=A)(a:sz 5∣f)(d:m<=5:=by omega):
  F+(Z:Int)=((f+Z:Nat):Int)/\f+Z<=t/\(L++[first f t])++(wH (t-(f+Z)) (f+Z) t++R)=A/\sz 5∣f+Z:=by
 subst g;refine⟨by rw[hF];rfl,b.2,?_,Nat.dvd_add a (rN d (by omega))⟩;rw[<-c,e];simp
theorem aAB{F T Z:Int}(a:0<=F)(b:T<=8589934592)(c:F+Z<=T)(d:0<Z):(8589934592-intOf ((some (Value.int jJ (F+Z))).getD (jI jJ 0))).toNat<(8589934592-intOf ((some (Value.int jJ F)).getD (jI jJ 0))).toNat:=by
 simp only[Option.getD_some,intOf];omega
theorem J0{L R A X:List Blk}{a:Blk}(h:L++(a::X++R)=A)(b:¬L.length+1<=4000):4000<A.length:=by
 rw[<-h];simp only[zU,List.length_cons];omega
structure TdRel (w:World) (S:List (Nat×Nat)) (sv:Value) (v4 v12:Value) (wr:World) (i:Nat) (L:List Blk):Prop where
 le:i<=S.length
 num:v12=jI jJ (i:Int)
 own:RC wr w.heap.size v4 L
 all:L++gB (S.drop i)=gB S
 few:L.length<=4000
 arg:FX wr 0 sv S
 bel:Below w.heap.size w wr
def B2(w:World)(e:TypeId)(g:Nat)(x y:Int):Prop:=w.heap[g]? =some (.cells #[jI jJ x,jI jJ y] e (0,0))
theorem B2.lt{w:World}{e:TypeId}{g:Nat}{x y:Int}(h:B2 w e g x y):g<w.heap.size:=(Array.getElem?_eq_some_iff.1 h).1
theorem B2.next{w w':World}{e:TypeId}{g:Nat}{x y:Int}(h:B2 w e g x y)(a:Below w.heap.size w w'):B2 w' e g x y:=(a.block g h.lt).trans h
theorem B2.kept{w w':World}{e:TypeId}{g:Nat}{x y:Int}{row:Option Nat}(h:B2 w e g x y)(a:w.grownBy w' row)(b:some g≠row):B2 w' e g x y:=(a.block g h.lt b).trans h
theorem B2.keep{w:World}{e:TypeId}{g:Nat}{x y:Int}(h:B2 w e g x y):w.cell? ⟨g,0,none⟩=some (jI jJ x)/\w.cell? ⟨g,1,none⟩=some (jI jJ y)/\w.frozen? ⟨g,0,none⟩=false/\w.frozen? ⟨g,1,none⟩=false:=by
 unfold B2 at h;refine⟨?_,?_,?_,?_⟩<;>simp[World.cell?,World.frozen?,h]
theorem B2.new(w:World)(e:TypeId)(x y:Int):B2 (w.alloc (.cells #[jI jJ x,jI jJ y] e)) e w.heap.size x y:=heap_alloc_new w _
theorem B2.set0{w:World}{e:TypeId}{g:Nat}{x y:Int}(h:B2 w e g x y)(u:Int):B2 (w.setCell ⟨g,0,none⟩ (jI jJ u)) e g u y:=by
 unfold B2 at*;simp[qK,h,Array.getElem?_modify]
theorem Below.new{w:World}(o:Obj):Below w.heap.size w (w.alloc o):=(zD _ w).alloc (zC _) o
theorem gM(w:World)(a:Addr)(u:Value):w.grownBy (w.setCell a u) (some a.block):=⟨rfl,rfl,rfl,by simp,fun k c b=>by
 rw[qK];simp only[Array.getElem?_modify];have:a.block≠k:=fun e=>b (by rw[e]);simp[this]⟩
theorem Ap:∀(k m f t:Nat),t-f<=k->t-f<=m->wH k f t=wH m f t
 | 0,m,f,t,h,_=>by
  cases m with
  |zero=>rfl
  |succ m=>unfold wH;rw[if_neg (by omega)]
 |k+1,0,f,t,_,h=>by unfold wH;rw[if_neg (by omega)]
 |k+1,m+1,f,t,a,b=>by
  unfold wH;have:=nN (lev f t 16);by_cases q:f<t
  ·rw[if_pos q,if_pos q,Ap k m _ t (by omega) (by omega)]
  ·rw[if_neg q,if_neg q]
theorem J1{f t:Nat}(h:f<t):wH (t-f) f t=first f t::wH (t-(f+sz (lev f t 16))) (f+sz (lev f t 16)) t:=by
 obtain⟨k,a⟩:∃k,t-f=k+1:=⟨t-f-1,by omega⟩;have p:=nN (lev f t 16);rw[a];show(if f<t then first f t::wH k _ t else[])=_;rw[if_pos h,Ap k _ _ t (by omega) (zC _)]
theorem I8{f t:Nat}(h:¬f<t):wH (t-f) f t=[]:=by
 rw[show t-f=0 by omega];rfl
structure TiRel (w:World) (S:List (Nat×Nat)) (sv:Value) (i b6:Nat) (t:Nat) (v4:Value) (wr:World) (f:Nat) (L:List Blk):Prop where
 own:RC wr w.heap.size v4 L
 all:L++(wH (t-f) f t++gB (S.drop (i+1)))=gB S
 few:L.length<=4000
 arg:FX wr 0 sv S
 bel:Below w.heap.size w wr
 box:B2 wr 252 b6 (f:Int) (t:Int)
 al:sz 5∣f
 far:v4.ownBlock≠some b6
 low:f<=8589934592
theorem Au(d9:Q8)(S:List (Nat×Nat))(sv:Value)(hn:S.length<=100000000)(hs:∀s∈S,s.1<=8589934592/\s.2<=8589934592)(Y:Al 5 S)(w:World)(h:FX w 0 sv S)(v:∀k,sv.ownBlock=some k->k<w.heap.size):
  Calls zB 197 #[sv] w (JC S w):=by
 have f0:=zA d9;obtain⟨A,c,rfl⟩:=h.slice;have HR:=zA (show TdRel w S (.slice A S.length c) (.slice none 0 0) (jI jJ 0) w 0 []from⟨by omega,rfl,bT.nil,rfl,by simp,h,zD _ _⟩);have HS:=zA hs;have HA:=zA Y;have c7:=zA v;clear d9 h hs Y v;go_enter Tryz.func197,Tryz.ntmps197;go_wp2_with fail
 go_loopw [4,12] (fun v4 b8 wr=>∃i L,TdRel w S (.slice A S.length c) v4 b8 wr i L) (fun _ b8 _=>S.length-(intOf b8).toNat)
 case atStart=>exact⟨_,_,HR.out⟩
 case round=>
  clear HR;obtain⟨i,L,hi,rfl,b,j,o,d,a⟩:=hrel;by_cases b6:i<S.length
  ·obtain⟨s,hs⟩:∃s,S[i]? =some s:=⟨_,List.getElem?_eq_getElem b6⟩;obtain⟨g,g1,hv,hB,hg,c0,c1⟩:=d.spa hs;cases hv;have b1:s∈S:=List.mem_of_getElem? hs;have hd:S.drop i=s::S.drop (i+1):=by
    rw[List.drop_eq_getElem_cons b6];congr 1;have:=List.getElem?_eq_getElem b6;rw[hs]at this;exact(zL.inj this).symm
   obtain⟨b7,e4⟩:=HS.out s b1;obtain⟨d0,d5⟩:=HA.out s b1;have c5:=zA (show TiRel w S (.slice (some ⟨g,0,none⟩) S.length c) i wr.heap.size s.2 u4 (wr.alloc (.cells #[jI jJ (s.1:Int),jI jJ (s.2:Int)] 252)) s.1 L from
    ⟨b.next (Below.new _),by rw[<-j,hd,mT],o,d.next (Below.new _),a.trans ((Below.new _).mono a.size),B2.new _ _ _ _,d0,fun e=>by have:=(b.lt _ e).2;omega,b7⟩)
   have HB:=zA a;have e7:=zA d5;have HI:=zA hi;clear b d a j hs hd d0 d5;go_wp2_with fail
   go_loopw [4] (fun v4 K=>∃f L,TiRel w S (.slice (some ⟨g,0,none⟩) S.length c) i wr.heap.size s.2 v4 K f L) (fun _ K=>(8589934592-intOf ((K.cell? ⟨wr.heap.size,0,none⟩).getD (jI jJ 0))).toNat)
   case atStart=>exact⟨_,_,c5.out⟩
   case round=>
    clear c5;obtain⟨f,L',b,j,o,d,a,n,Y,b0,v⟩:=hrel;obtain⟨p0,p1,p2,p3⟩:=n.keep;obtain⟨F,hF⟩:∃F:Int,F=(f:Int):=⟨_,rfl⟩;obtain⟨T,hT⟩:∃T:Int,T=(s.2:Int):=⟨_,rfl⟩;have F0:0<=F:=by omega
    have F1:F<=8589934592:=by omega
    have T0:0<=T:=by omega
    have T1:T<=8589934592:=by omega
    have FT:F<T↔f<s.2:=by omega
    rw[<-hF]at p0;rw[<-hT]at p1;have HF:=zA hF;have HT:=zA hT;have N:=zA FT;have c8:=zA b;have Q:=zA j;have a7:=zA o;have a4:=zA d;have D:=zA a;have a5:=zA n;have O:=zA Y;have a6:=zA b0;have f8:=zA v;have g0:=zA b7;have c9:=zA e4;have c6:=zA hi;clear hF hT FT b j o d a n Y b0 v b7 e4 hi;by_cases a0:F<T
    ·go_upto_block 4 with fail
     go_cut [7]from 16 to 64 (fun v7 w3=>v7=jI jJ ((lev f s.2 16:Nat):Int)/\w3=wr)
     case first=>
      go_wp2_with fail
      go_loopw [7] (fun v7 w3=>∃l:Nat,l<=16/\v7=jI jJ (l:Int)/\lev f s.2 l=lev f s.2 16/\w3=wr) (fun v7 _=>(intOf v7).toNat)
      case atStart=>exact⟨16,by omega,rfl,rfl,rfl⟩
      case round=>
       obtain⟨l,hl,rfl,J,rfl⟩:=hrel;have f5:l=16\/l=15\/l=14\/l=13\/l=12\/l=11\/l=10\/l=9\/l=8\/l=7\/l=6\/l=5\/l=4\/l=3\/l=2\/l=1\/l=0:=by omega
       rcases f5 with rfl|rfl|rfl|rfl|rfl|rfl|rfl|rfl|rfl|rfl|rfl|rfl|rfl|rfl|rfl|rfl|rfl;rotate_left 16
       ·have HL:=zA (show 0=lev f s.2 16 from J);clear J;go_wp2_with fail
        go_meet
        exact⟨by rw[<-HL.out],rfl⟩
       all_goals (
        have h3:=aAs J F0 HF.out HT.out;clear J;simp only[sz,Nat.reduceSub,Nat.reducePow,Int.cast_ofNat_Int]at h3;obtain⟨ht,⟨hc,hd,hn⟩|⟨hc,hd,hn⟩|⟨hc,hn⟩⟩:=h3
        ·have HL:=zA hn;clear hn;go_wp2_with fail
         go_roundw
         case rel=>exact⟨_,by omega,by rfl,HL.out,trivial⟩
         case measure=>decide
        ·have HL:=zA hn;clear hn;go_wp2_with fail
         go_meet
         exact⟨by rw[<-HL.out];rfl,rfl⟩
        ·have HL:=zA hn;clear hn;go_wp2_with fail
         go_meet
         exact⟨by rw[<-HL.out];rfl,rfl⟩)
     case rest=>
      obtain⟨rfl,hwc⟩:=hcut;subst hwc;have h5:lev f s.2 16<=5:=(Fm O.out (by
       have h1:=N.out.1 a0;obtain⟨x,hx⟩:=O.out;obtain⟨y,hy⟩:=e7.out;rw[hx,hy]at h1;have h3:x<y:=Nat.lt_of_mul_lt_mul_left h1;have:=Nat.mul_le_mul_left (sz 5) (show x+1<=y from h3);rw[Nat.mul_add,Nat.mul_one]at this;rw[hx,hy];exact this) 16 (zC _)).2 (by omega)
      have f6:f<8589934592:=by have:=N.out.1 a0;have:=c9.out;omega
      obtain⟨m,hm⟩:∃m,m=lev f s.2 16:=⟨_,rfl⟩;rw[<-hm]at h5 ⊢;have B:=zA (J1 (N.out.1 a0));have b2:=zA (LO f s.2 16 (by rw[Ak];omega) (by rw[Ak];exact N.out.1 a0));rw[<-hm]at B b2;clear N;obtain⟨Z,M,H,b4,hM,hz,h6⟩:∃(Z:Nat) (M H:Int),H=(Z:Int)/\M=(m:Int)/\sz m=Z/\(m=0/\M=0/\Z=4294967296/\H=4294967296\/m=1/\M=1/\Z=1073741824/\H=1073741824\/m=2/\M=2/\Z=268435456/\H=268435456\/m=3/\M=3/\Z=67108864/\H=67108864\/m=4/\M=4/\Z=16777216/\H=16777216\/m=5/\M=5/\Z=4194304/\H=4194304):=by
       rcases(show m=0\/m=1\/m=2\/m=3\/m=4\/m=5 by omega)with rfl|rfl|rfl|rfl|rfl|rfl<;>exact⟨_,_,_,rfl,rfl,rfl,by simp[sz]⟩
      obtain⟨r,q,d8,d7⟩:=X0 f0.out HF.out m Z M H hM b4 hz hm.symm h5 f6;have e9:=zA d8;have c3:=zA d7;have X:=zA (I9 HF.out B.out b2.out hz Q.out O.out h5);have f1:=zA (fun(w1:World) (u:Below wc.heap.size wc w1)=>And.intro ((c8.out.next u).next (Below.new (.cells #[jI jJ M,jI jJ r,jI jJ q] 63))) (And.intro ((a5.out.next u).next (Below.new (.cells #[jI jJ M,jI jJ r,jI jJ q] 63))) (And.intro ((D.out.trans (u.mono D.out.size)).trans ((Below.new (w:=w1) (.cells #[jI jJ M,jI jJ r,jI jJ q] 63)).mono (zJ D.out.size u.size))) ((a4.out.next u).next (Below.new (.cells #[jI jJ M,jI jJ r,jI jJ q] 63))))));have f2:=zA (show ∀(K:World) (g2 t:Nat),RC K w.heap.size (.slice (some ⟨g2,0,none⟩) (L'.length+1) t) (L'++[first f s.2])->g2≠wr.heap.size->FX K 0 (.slice (some ⟨g,0,none⟩) S.length c) S->Below w.heap.size w K->B2 K 252 wr.heap.size (f:Int) (s.2:Int)->L'.length+1<=4000->
        TiRel w S (.slice (some ⟨g,0,none⟩) S.length c) i wr.heap.size s.2 (.slice (some ⟨g2,0,none⟩) (L'.length+1) t) (K.setCell ⟨wr.heap.size,0,none⟩ (jI jJ (F+H))) (f+Z) (L'++[first f s.2])/\
        (K.setCell ⟨wr.heap.size,0,none⟩ (jI jJ (F+H))).cell? ⟨wr.heap.size,0,none⟩=some (jI jJ (F+H))/\wc.cell? ⟨wr.heap.size,0,none⟩=some (jI jJ F)/\F+H<=T from fun K g2 t b a2 d a n p=>by
       have h1:=X.out.1;have h2:=X.out.2.1;have h3:=HT.out;rw[<-b4]at h1;exact⟨⟨b.kept (gM _ _ _) (.inr fun e=>a2 (zL.inj e)),X.out.2.2.1,by rw[zU];exact p,d.kept (gM _ _ _) (.inr fun e=>by
         have h1:g=wr.heap.size:=zL.inj e;have h2:=c7.out g rfl;have h3:=HB.out.size;omega),a.setCell HB.out.size _,by have:=n.set0 (F+H);rw[h1]at this ⊢;exact this,X.out.2.2.2,fun e=>a2 (zL.inj e),zJ h2 c9.out⟩,
        (n.set0 _).keep.1,by rw[HF.out];exact a5.out.keep.1,by rw[h1,h3];exact Int.ofNat_le.2 h2⟩)
      clear d8 d7 hm hz b4 hM X b2 h5;rcases h6 with⟨rfl,rfl,rfl,rfl⟩|⟨rfl,rfl,rfl,rfl⟩|⟨rfl,rfl,rfl,rfl⟩|⟨rfl,rfl,rfl,rfl⟩|⟨rfl,rfl,rfl,rfl⟩|⟨rfl,rfl,rfl,rfl⟩;all_goals (
       go_wp2_with fail
       refine(c3.out _).mono ?_;rintro e w1 ⟨rfl,u⟩;obtain⟨ho,hx,d6,ha⟩:=f1.out w1 u;have G:=zA ho;have R:=zA hx;have z:=zA d6;have a3:=zA ha;have o:=a7.out;have e6:w.heap.size<=w1.heap.size+1:=by have:=z.out.size;simpa using this
       clear p0 p1 p2 p3 u ho hx d6 ha;go_wp2_with (at_builtin;refine iW (E:=AH) rfl (.tmp 48) (.tmp 55) _ rfl 63 (.agg #[jI jJ 0,jI jJ 0,jI jJ 0]) 24 Tryz.underlying60 gW rfl (by decide) (by omega) w.heap.size u4 L' rfl G.out w1.heap.size (first f s.2) 1 rfl ⟨_,_,by rw[show AH.enc (first f s.2)=fW (first f s.2)from rfl,e9.out];exact heap_alloc_new w1 _⟩ (by omega) (by simpa using e6) ?_)
       intro g2 t K a1 I a9 f9;have U:=R.out.kept I (fun e=>a6.out e.symm);have a2:g2≠wr.heap.size:=fun e=>by
        rcases a9 with h|h
        ·exact a6.out (by rw[h,e])
        ·have:=R.out.lt;rw[World.size_alloc]at this;omega
       have b3:=zA a1;have c2:=zA (z.out.grown I (by simpa using e6) (fun k hk=>(G.out.lt k hk).1));have b9:=zA (a3.out.kept I (.inr (fun e=>by
        have h1:=G.out.lt g (by rw[<-e];rfl);have h2:=c7.out g rfl;omega)))
       obtain⟨p0,p1,p2,p3⟩:=U.keep;rw[<-HF.out]at p0;rw[<-HT.out]at p1;have e8:=zA U;clear a1 I a9 U G R z a3 c3;by_cases p:L'.length+1<=4000
       ·obtain⟨e5,e3⟩:=f2.out K g2 t b3.out a2 b9.out c2.out e8.out p;have f4:=zA e5;have f3:=zA e3;clear e5 e3;go_wp2_with fail
        refine⟨⟨_,_,f4.out⟩,?_⟩;obtain⟨m1,m2,m3⟩:=f3.out;rw[m1,m2];exact aAB F0 T1 m3 (by omega)
       ·have V:=zA (show JC S w (.returned (.tuple #[.slice none 0 0,.bool false])) K from⟨.inr ⟨by have h:=Q.out;rw[B.out]at h;exact J0 h p,rfl⟩,c2.out⟩);go_wp2_with fail
        go_ret2
        exact V.out)
    ·have c4:=zA (show TdRel w S (.slice (some ⟨g,0,none⟩) S.length c) u4 (jI jJ ((i:Int)+1)) wr (i+1) L' from⟨by have:=c6.out;omega,by go_num,c8.out,by rw[<-Q.out,I8 (by rw[<-N.out];exact a0)];rfl,a7.out,a4.out,D.out⟩);go_wp2_with fail
     refine⟨⟨_,_,c4.out⟩,?_⟩;simp only[intOf];omega
  ·have f7:i=S.length:=by omega
   subst f7;rw[List.drop_length]at j;have b5:L=gB S:=by rw[<-j];simp[gB]
   subst b5;have V:=zA (show JC S w (.returned (.tuple #[u4,.bool true])) wr from⟨.inl ⟨o,u4,rfl,b⟩,a⟩);clear b j d a;go_wp2_with fail
   go_ret2
   exact V.out
end Go.Proofs.YtlbklncoihhfcaaGreatDoor
