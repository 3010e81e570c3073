/-
  What sorting, cloning, compacting and comparing do to lists. cells.cover and cells.ValidRegion: the walks. cells.ValidRegion: a tidy region is valid. The walk. cells.combine: the spans that one of.
-/
import Derived.Test.YtlbklncoihhfcaaGreatDoorTd
import Derived.Test.YtlbklncoihhfcaaGreatDoorLy
import Derived.Sort.OwnSortedInts
set_option maxRecDepth 100000
set_option maxHeartbeats 4000000
open Go.RowKit.Below renaming refl→zD
open Go.Lib renaming hid→zA
open _root_.List renaming cons_append→xC,length_append→zU,length_cons→zM,length_map→qC,length_nil→xA,mem_cons_of_mem→zF,mem_flatMap→xP,nil_append→agZ,replicate→afQ,reverse_append→xU,reverse_cons→qY,size_toArray→abZ,take_length→qX
open _root_.Nat renaming add_mul→xI,le_refl→zC,le_trans→zJ,lt_of_lt_of_le→zT,mod_lt→yX,mul_comm→qH,mul_le_mul→qM,mul_one→xF,one_mul→afX,zero_add→qP
open _root_.Option renaming some→zL
open Go.Proofs.Tryz renaming prog→zB
open Go.World renaming drewN→qE,news_of_block→aaJ,ownsRow→agQ
open Go.IntKind (i64 u64)
open Go.Value renaming int→jI
open Go.IntKind renaming i64→jJ
open Go.Obj renaming cells→jC
namespace Go.Proofs.YtlbklncoihhfcaaGreatDoor
section
open Go.RowKit Rg Go.Shelf Go.Lib Go.Sort
attribute [local go_sem] Oper.semAt_some
def Uz(x y:Nat×Nat):Int:=if compareInt (x.1:Int) (y.1:Int)≠0 then compareInt (x.1:Int) (y.1:Int) else compareInt (y.2:Int) (x.2:Int)
theorem ltS(x y:Nat×Nat):ltOf Uz x y=decide (x.1<y.1\/(x.1=y.1/\y.2<x.2)):=by
 unfold ltOf Uz compareInt;by_cases b:x.1<y.1
 ·have:(x.1:Int)<y.1:=by omega
  simp[b,this]
 ·by_cases d:y.1<x.1
  ·have e1:¬(x.1:Int)<y.1:=by omega
   have e2:(x.1:Int)>y.1:=by omega
   have c:¬x.1=y.1:=by omega
   simp[b,e1,e2,c]
  ·have e0:x.1=y.1:=by omega
   by_cases a:y.2<x.2
   ·have:(y.2:Int)<x.2:=by omega
    simp[e0,a,this]
   ·by_cases e:x.2<y.2
    ·have e1:¬(y.2:Int)<x.2:=by omega
     have e2:(y.2:Int)>x.2:=by omega
     simp[e0,a,e1,e2]
    ·have e1:¬(y.2:Int)<x.2:=by omega
     have e2:¬(y.2:Int)>x.2:=by omega
     simp[e0,a,e1,e2]
theorem aGR:SWO (ltOf Uz) where
 irrefl x:=by rw[ltS];simp
 trans x y z h1 h2:=by rw[ltS]at*;simp only[decide_eq_true_eq]at*;omega
 ntrans x y z h1 h2:=by rw[ltS]at*;simp only[decide_eq_false_iff_not]at*;omega
theorem aGS(x y:Nat×Nat)(a:ltOf Uz x y=false)(b:ltOf Uz y x=false):x=y:=by
 rw[ltS]at a b;simp only[decide_eq_false_iff_not]at a b;exact Prod.ext (by omega) (by omega)
def Su(W w':World):Prop:=∃q os',w'=grow (W.drewN q) os'
theorem Su.refl(W:World):Su W W:=⟨0,#[],by simp[qE]⟩
theorem Su.alloc{W w':World}(h:Su W w')(o:Obj):Su W (w'.alloc o):=by
 obtain⟨q,a,rfl⟩:=h;exact⟨q,a++ #[o],by rw[alloc_eq_grow,grow_grow]⟩
theorem Su.drew{W w':World}(h:Su W w'):Su W w'.drew:=by
 obtain⟨q,a,rfl⟩:=h;exact⟨q+1,a,rfl⟩
theorem Jj(x y:Int)(w:World):Calls zB 250 #[jI jJ x,jI jJ y] w fun e w'=>e=.returned (jI jJ (compareInt x y))/\w'=w:=AnyG.cmp_Compare_int Tryz.cmpI x y w
def OrP(r:Int)(w:World)(e:Ending)(w':World):Prop:=e=.returned (jI jJ r)/\w'=w
theorem aGN(b:Nat)(x _:Int)(w:World)(a:w.cell? ⟨b,0,none⟩=some (jI jJ x))(c:(x != 0)=true):Calls zB 249 #[.slice (some ⟨b,0,none⟩) 2 2] w (OrP x w):=by
 go_enter Tryz.func249,Tryz.ntmps249;go_wp2_with fail
 refine wp_loop_rounds 3 ?_;rw[rounds_succ];go_wp2_with fail
 go_ret;exact⟨rfl,rfl⟩
theorem aGO(b:Nat)(y:Int)(w:World)(a:w.cell? ⟨b,0,none⟩=some (jI jJ 0))(c:w.cell? ⟨b,1,none⟩=some (jI jJ y))(d:(y != 0)=true):Calls zB 249 #[.slice (some ⟨b,0,none⟩) 2 2] w (OrP y w):=by
 go_enter Tryz.func249,Tryz.ntmps249;go_wp2_with fail
 refine wp_loop_rounds 3 ?_;rw[rounds_succ];go_wp2_with fail
 rw[rounds_succ];go_wp2_with fail
 go_ret;exact⟨rfl,rfl⟩
theorem aGP(b:Nat)(w:World)(a:w.cell? ⟨b,0,none⟩=some (jI jJ 0))(c:w.cell? ⟨b,1,none⟩=some (jI jJ 0)):Calls zB 249 #[.slice (some ⟨b,0,none⟩) 2 2] w (OrP 0 w):=by
 go_enter Tryz.func249,Tryz.ntmps249;go_wp2_with fail
 refine wp_loop_rounds 3 ?_;rw[rounds_succ];go_wp2_with fail
 rw[rounds_succ];go_wp2_with fail
 rw[rounds_succ];go_wp2_with fail
 go_ret;exact⟨rfl,rfl⟩
theorem aDA(b:Nat)(x y:Int)(w:World)(a:w.cell? ⟨b,0,none⟩=some (jI jJ x))(d:w.cell? ⟨b,1,none⟩=some (jI jJ y)):
  Calls zB 249 #[.slice (some ⟨b,0,none⟩) 2 2] w (OrP (if x≠0 then x else y) w):=by
 by_cases c:x=0
 ·subst c;rw[if_neg (by simp)];by_cases e:y=0
  ·subst e;exact aGP b w a d
  ·exact aGO b y w a d (by simpa using e)
 ·rw[if_pos c];exact aGN b x y w a (by simpa using c)
abbrev Bxs(w:World)(X1 X2 Y1 Y2:Int)(w':World):Prop:=(w'.cell? ⟨w.heap.size,0,none⟩=some (jI jJ X1)/\w'.cell? ⟨w.heap.size,1,none⟩=some (jI jJ X2)/\w'.cell? ⟨w.heap.size+1,0,none⟩=some (jI jJ Y1)/\w'.cell? ⟨w.heap.size+1,1,none⟩=some (jI jJ Y2))/\Su w w'
theorem Bxs.drew{w:World}{a b c d:Int}{w':World}(h:Bxs w a b c d w'):Bxs w a b c d w'.drew:=⟨h.1,h.2.drew⟩
theorem eU{W:World}{a:Addr}{v:Value}(o:Obj)(h:W.cell? a=some v):(W.alloc o).cell? a=some v:=World.grownBy.cell (World.grownBy_alloc W o none) h (by simp)
theorem Bxs.alloc{w:World}{a b c d:Int}{w':World}(h:Bxs w a b c d w')(o:Obj):Bxs w a b c d (w'.alloc o):=⟨⟨eU o h.1.1,eU o h.1.2.1,eU o h.1.2.2.1,eU o h.1.2.2.2⟩,h.2.alloc o⟩
theorem Oq (x y:Nat×Nat)(w:World):Calls zB 248 #[.agg (sJ x).toArray,.agg (sJ y).toArray] w fun e w'=>e=.returned (jI jJ (Uz x y))/\Su w w':=by
  obtain⟨a,f⟩:=x
  obtain⟨c,g⟩:=y
  have t:=zA (show Uz (a,f) (c,g)=if compareInt (a:Int) (c:Int)≠0 then compareInt (a:Int) (c:Int) else compareInt (g:Int) (f:Int)from rfl)
  have o:=zA (fun w=>Jj (a:Int) (c:Int) w)
  have p:=zA (fun w=>Jj (g:Int) (f:Int) w)
  generalize Uz (a,f) (c,g)=R at*
  generalize compareInt (a:Int) (c:Int)=C1 at*
  generalize compareInt (g:Int) (f:Int)=d at*
  simp only[sJ]
  generalize (a:Int)=h at*
  generalize (f:Int)=i at*
  generalize (c:Int)=j at*
  generalize (g:Int)=k at*
  have s:=zA (fun b w u v=>aDA b C1 d w u v)
  rw[<-t.out]at s
  obtain⟨W,n⟩:∃W,W=(w.alloc (jC #[jI jJ h,jI jJ i] 252)).alloc (jC #[jI jJ j,jI jJ k] 252):=⟨_,rfl⟩
  have l:=zA (show Bxs w h i j k W from by
    have q:=(B2.new w 252 h i).next (Below.new (jC #[jI jJ j,jI jJ k] 252))
    have m:=B2.new (w.alloc (jC #[jI jJ h,jI jJ i] 252)) 252 j k
    rw[World.size_alloc]at m
    rw[<-n]at q m
    exact⟨⟨q.keep.1,q.keep.2.1,m.keep.1,m.keep.2.1⟩,by rw[n];exact((Su.refl w).alloc _).alloc _⟩)
  go_enter Tryz.func248,Tryz.ntmps248
  go_wp2_with fail
  rw[<-n]
  clear n
  have r:=zA (show(W.alloc (jC #[jI jJ C1,jI jJ d] 3)).drew.cell? ⟨W.heap.size,0,none⟩=some (jI jJ C1)/\(W.alloc (jC #[jI jJ C1,jI jJ d] 3)).drew.cell? ⟨W.heap.size,1,none⟩=some (jI jJ d)from⟨(B2.new W 3 C1 d).keep.1,(B2.new W 3 C1 d).keep.2.1⟩)
  go_region_held3 (fun w'=>(w'.cell? ⟨w.heap.size,0,none⟩=some (jI jJ h)/\w'.cell? ⟨w.heap.size,1,none⟩=some (jI jJ i)/\w'.cell? ⟨w.heap.size+1,0,none⟩=some (jI jJ j)/\w'.cell? ⟨w.heap.size+1,1,none⟩=some (jI jJ k))/\Su w w')
    (first
      |(with_reducible exact l.out)
      |(with_reducible exact SS.out)
      |(with_reducible exact l.out.drew)
      |(with_reducible exact SS.out.drew)
      |(with_reducible exact(l.out.alloc _).drew)
      |fail)
    (first
      | (go_at_call 250
         first
           |(with_reducible refine(o.out _).mono ?_)
           |(with_reducible refine(p.out _).mono ?_)
           |fail
         rintro e z ⟨rfl,rfl⟩)
      | (go_at_call 249
         (with_reducible refine(s.out _ _ r.out.1 r.out.2).mono ?_)
         rintro e z ⟨rfl,rfl⟩)
      |fail)
  all_goals (
    go_wp2_with fail
    go_ret
    exact⟨rfl,(l.out.alloc _).drew.2⟩)
theorem bT.holds{α:Type}[Inhabited α]{E:Elem α}{e:TypeId}{w:World}{B g n cap:Nat}{l:List α}(h:bT E e w B (.slice (some ⟨g,0,none⟩) n cap) l)(i:0<E.k):HoldsK E.enc E.k w g 0 l.toArray:=by
 intro j a;rw[size_flatK]at a;simp only[abZ]at a;rw[get_flatK E.enc E.k l.toArray j (by simpa using a)];have p:n=l.length:=by
  obtain⟨A,c,b⟩:=h.slice;cases b;rfl
 subst p;have hi:j/E.k<l.length:=Nat.div_lt_of_lt_mul (by rw[qH];exact a);obtain⟨q,d,b,_,_,o⟩:=h.at_ (List.getElem?_eq_getElem hi);cases b;have f:=o (j%E.k) (yX _ i);have e1:j/E.k*E.k+j%E.k=j:=by rw[qH];exact Nat.div_add_mod j E.k
 rw[e1]at f;have m:j%E.k<(E.enc l[j/E.k]).length:=by rw[E.len];exact yX _ i
 refine⟨?_,?_⟩
 ·rw[qP,f];have e2:l.toArray[j/E.k]! =l[j/E.k]:=by simp[hi]
  rw[e2,List.getElem?_eq_getElem m];simp[m]
 ·rw[qP];exact agQ.frozenAt h j
theorem wW(w:World)(n:Nat)(os:Array Obj):Below w.heap.size w (grow (w.drewN n) os):=
 ⟨rfl,rfl,rfl,by simp[grow,qE],fun k a=>by
  simp only[grow,qE];rw[Array.getElem?_append_left a]⟩
def Asc(l:List (Nat×Nat)):Prop:=l.Pairwise fun a b=>a.1<b.1
theorem Ri{w:World}{B:Nat}{v:Value}{l:List (Nat×Nat)}(h:FX w B v l)(p:Asc l)(A:l.length<=1000000000):
  Calls zB 247 #[v,.func (.func 248) #[] #[]] w fun e w'=>e=.returned (.tuple #[])/\Below w.heap.size w w':=by
 have k:∀args w,(callFunc 248 args).run zB w=.ok (.enter 248 args) w:=enters_of Tryz.func248 (by kernel_rfl) rfl;rcases h.form with⟨rfl,rfl⟩|⟨g,f,rfl,z,r⟩
 ·exact(AnyF.slices_SortFunc_none Tryz.sortSp none 0 _ w).mono fun e w' ⟨i,o⟩=>⟨i,by rw[o];exact zD _ _⟩
 ·have c:CmpLays zB 248 #[] sJ 2 Uz g 0 l.toArray.size w:=fun m d u _ x y=>Oq x y _;have j:HoldsK sJ 2 w g 0 l.toArray:=bT.holds (E:=SJ) h (by decide);have s:=AnyQ.slices_SortFunc_total Tryz.sortSp 2 Tryz.isAgg252 Tryz.sizeOf252 sJ (fun _=>rfl) (fun x v t=>SJ.one x v t) Uz aGR 248 #[] g 0 f l.toArray w k c j r (by simpa using(by omega:l.length<4611686018427387904)) aGS;refine Calls.mono (show Calls zB 247 _ _ _ from s) ?_;rintro e w' ⟨i,n,d,rfl⟩;refine⟨i,?_⟩;have e1:(l.toArray.toList.mergeSort fun x y=> !(ltOf Uz) y x)=l:=by
   rw[List.toList_toArray];refine List.mergeSort_of_pairwise (List.Pairwise.imp ?_ p);intro a b q;rw[ltS];simp;omega
  rw[e1];have e2:sortWorldK sJ 2 w g 0 n l.toArray d=grow (w.drewN n) d:=by
   unfold sortWorldK;have:HoldsK sJ 2 (Sort.ahead w n) g 0 l.toArray:=holdsK_ahead sJ 2 w n g 0 l.toArray j;rw[putRowK_self sJ 2 _ g 0 _ this];rfl
  rw[e2];exact wW w n d
theorem Df{w:World}{B:Nat}{v:Value}{l:List (Nat×Nat)}(h:FX w B v l)(y:l.length<=1000000000):
  Calls zB 277 #[v] w fun e w'=>∃c,e=.returned c/\FX w' w.heap.size c l/\Below w.heap.size w w':=by
 rcases h.form with⟨rfl,rfl⟩|⟨g,d,rfl,s,t⟩
 ·exact(AnyE.slices_Clone_nil Tryz.cloneSp 0 0 w).mono fun e w' ⟨f,i⟩=>⟨_,f,bT.nil,by rw[i];exact zD _ _⟩
 ·obtain⟨r,hi,k,m,n⟩:=fH uC;have a:(bN SJ l).length=l.length*2:=eW SJ l;have p:=AnyE.slices_Clone Tryz.cloneSp r (.agg #[jI jJ 0,jI jJ 0]) 2 16 hi k m n rfl (by decide) Tryz.sizeOf252 g 0 l.length d (bN SJ l) w a (by unfold maxLen;omega) (by omega)
   (fun j u b=>by
    rw[qP,agQ.cellAt h j (by have:=(List.getElem?_eq_some_iff.1 b).1;rw[a]at this;exact this)];exact b) (fun u b=>by
    obtain⟨x,_,q⟩:=xP.1 b;exact SJ.one x u q)
  refine Calls.mono (show Calls zB 277 _ _ _ from p) ?_;rintro e w' ⟨c,f,i,_,o⟩;exact⟨c,f,i,o⟩
theorem Uy{b c:Blk}(h:fW b=fW c):b=c:=by
 simp only[fW,List.cons.injEq,Value.int.injEq,true_and,and_true]at h;obtain⟨f,g,i⟩:=h;have e1:b.l=c.l:=by omega
 have e2:aM b.l b.n=aM c.l c.n:=by omega
 have d:aN b.l b.n=aN c.l c.n:=by omega
 refine Cq e1 ?_;have a:=Fy b.l b.n;have e:=Fy c.l c.n;rw[e2,d]at a;rw[e1]at a;rw[<-a];have:=e;rw[<-e1]at this ⊢;exact this
theorem aBI:NeqAt zB 63 (fun x=>.agg (fW x).toArray) (fun x y:Blk=>decide (x=y)):=by
 refine⟨fun x y w=>?_,GuardAt.agg _ (by kernel_rfl)⟩;have u3:=Tryz.underlying3;have p:=Tryz.isAgg3;have r:=Tryz.sizeOf3;have m:zB.underlying 63=some (.struct (zB.fieldsOf 63)):=by kernel_rfl
 have o:zB.stoodInHeld 63=false:=by kernel_rfl
 have h:decide (x=y)=(((x.l:Int)==y.l)&&(((aM x.l x.n:Int)==aM y.l y.n)&&((aN x.l x.n:Int)==aN y.l y.n))):=by
  by_cases q:x=y
  ·subst q;simp
  ·rw[decide_eq_false q];symm;rw[Bool.eq_false_iff];intro g;simp only[Bool.and_eq_true,beq_iff_eq]at g;apply q;apply Uy;unfold fW;rw[g.1,g.2.1,g.2.2]
 show Sem.run zB (binOp .neq 63 (.agg (fW x).toArray) (.agg (fW y).toArray)) w=.ok (.bool (!decide (x=y))) w;rw[h];simp only[fW];generalize (x.l:Int)=a;generalize (y.l:Int)=b;generalize (aM x.l x.n:Int)=c;generalize (aM y.l y.n:Int)=d;generalize (aN x.l x.n:Int)=e;generalize (aN y.l y.n:Int)=f;clear h;rw[run_neq_struct,show(10000:Nat)=9999+1 from rfl,run_equalIn_agg w 9999 63 _ _ m o];simp only[Program.fieldsOf,Tryz.underlying63];go_simp
 by_cases i:a=b<;>by_cases j:c=d<;>by_cases k:e=f<;>simp[i,j,k]
theorem DN:∀(l m:List Blk),allEq (fun x y=>decide (x=y)) l m=decide (l=m)
 | [],[]=>rfl
 | [],b::m=>by simp[allEq]
 |a::l,[]=>by simp[allEq]
 |a::l,b::m=>by
  rw[allEq,DN l m];by_cases c:a=b<;>by_cases d:l=m<;>simp[c,d]
instance:Inhabited Blk:=⟨⟨0,0⟩⟩
theorem Ju{n m c d:Nat}{A B:Option Addr}(b:n=0\/m=0)(f:n<=1000000000)(g:m<=1000000000)(w:World):
  Calls zB 19 #[.slice A n c,.slice B m d] w (GP (.bool (decide (n=m))) w):=by
 have a:=zA (zD w.heap.size w);by_cases h:n=m
 ·have:n=0:=by omega
  subst h;subst this;rw[decide_eq_true rfl];go_enter Tryz.func19,Tryz.ntmps19;go_wp2_with fail
  refine wp_loop_rounds 1 ?_;rw[rounds_succ];go_wp2_with fail
  go_ret;exact⟨rfl,a.out⟩
 ·rw[decide_eq_false h];have e:((n:Int) != (m:Int))=true:=by simp;omega
  clear b;go_enter Tryz.func19,Tryz.ntmps19;go_wp2_with fail
  go_ret;exact⟨rfl,a.out⟩
theorem Jt{w:World}{z B2:Nat}{t u:Value}{l m:List Blk}(p:RC w z t l)(f:RC w B2 u m)(G:l.length<=1000000000)(H:m.length<=1000000000):
  Calls zB 19 #[t,u] w (GP (.bool (decide (l=m))) w):=by
 rcases p.form with⟨rfl,rfl⟩|⟨g,a,rfl,I,J⟩
 ·obtain⟨A,c,rfl⟩:=f.slice;have e:decide (([]:List Blk)=m)=decide (0=m.length):=by
   cases m<;>simp
  rw[e];exact Ju (.inl rfl) (by omega) H w
 ·rcases f.form with⟨rfl,rfl⟩|⟨o,b,rfl,D,E⟩
  ·have e:decide (l=[])=decide (l.length=0):=by
    cases l<;>simp
   rw[e];exact Ju (.inr rfl) G (by omega) w
  ·have d:∀{B g a:Nat} {l:List Blk},RC w B (.slice (some ⟨g,0,none⟩) l.length a) l->∀j,j<l.length->∀i v,(fW l[j]!)[i]? =some v->w.cell? ⟨g,0+j*3+i,none⟩=some v:=by
    intro B g a l h j s i v n;obtain⟨o,b,k,_,_,d⟩:=h.at_ (List.getElem?_eq_getElem s);cases k;have hi:i<3:=by have:=(List.getElem?_eq_some_iff.1 n).1;exact this
    have:=d i hi;rw[qP];rw[show l[j]! =l[j] by simp[s]]at n;exact this.trans n
   have k:=AnyQ.slices_Equal Tryz.eqCell 3 Tryz.isAgg63 Tryz.sizeOf63 fW (fun _=>rfl) (fun x y=>decide (x=y)) aBI g 0 l.length a o 0 m.length b l m w (zC _) (zC _) (by omega) (by omega) (d p) (d f);refine Calls.mono (show Calls zB 19 _ _ _ from k) ?_;rintro e K ⟨r,q,rfl⟩;rw[qX,qX,DN]at r;exact⟨r,by have:=wW w q #[];rwa[grow_empty]at this⟩
def zi(l:List Nat):List Int:=l.map fun n:Nat=>(n:Int)
theorem Im(l:List Nat):(zi l).length=l.length:=by simp[zi]
theorem Wu(l:List Nat):bN Ps l=(zi l).map (Value.int jJ):=by
 induction l with
 |nil=>rfl
 |cons x l a=>
  have:bN Ps (x::l)=jI jJ (x:Int)::bN Ps l:=by simp[bN,Ps,aDh]
  rw[this,a];rfl
def OP(l:List Nat):List Nat:=l.mergeSort fun a b=>decide (a<=b)
theorem aBj(l:List Nat):((zi l).mergeSort fun x y=>decide (x<=y))=zi (OP l):=by
 unfold OP zi;rw[List.map_mergeSort];intro a _ b _;simp
theorem Rf{w:World}{B g cap:Nat}{l:List Nat}(h:RI w B (.slice (some ⟨g,0,none⟩) l.length cap) l)(y:l.length<=1000000000):
  Calls zB 278 #[.slice (some ⟨g,0,none⟩) l.length cap] w fun e w'=>e=.returned (.tuple #[])/\RI w' B (.slice (some ⟨g,0,none⟩) l.length cap) (OP l)/\w.grownBy w' (some g):=by
 rcases h.2 with⟨c,_⟩|⟨x,p,b,c,u,d,m,f,i,v⟩
 ·cases c
 cases c;have j:=(Array.getElem?_eq_some_iff.1 d).1;have a:=Im l;have o:b.toList.take (zi l).length=(zi l).map (Value.int jJ):=by
  rw[a,<-Wu,<-v,show l.length*Ps.k=l.length from xF _]
 have q:=AnyM.slices_Sort_int Tryz.sortI g 0 cap (zi l) w (holds_of_blockI d o) j (by rw[a];omega);rw[a]at q;refine Calls.mono (show Calls zB 278 _ _ _ from q) ?_;rintro e w' ⟨t,n,s,rfl⟩;rw[aBj];refine⟨t,?_,grownBy_sortedI _⟩;have r:(OP l).length=l.length:=by unfold OP;rw[List.length_mergeSort]
 have:=ownsRow_sortedI (w:=w) (base:=B) (n:=n) (os:=s) (ss:=zi l) (ts:=zi (OP l)) (by rw[Im,Im,r]) u d (by rw[a];exact m) f i;rw[a]at this;show agQ _ B 3 1 _ (OP l).length (bN Ps (OP l));rw[Wu,r];exact this
def Sw(l:List Nat):List Nat:=compactUpTo l.toArray l.length
theorem Vp(d:Array Nat)(m:Nat):compactUpTo d (m+1)=compactUpTo d m++if keeps d m=true then[d[m]!] else[]:=by
 unfold compactUpTo;rw[List.range_succ,List.filter_append,List.map_append];congr 1;by_cases h:keeps d m=true
 ·rw[if_pos h,List.filter_cons_of_pos h];rfl
 ·rw[if_neg h,List.filter_cons_of_neg h];rfl
theorem XX:∀{l:List Nat} {a:Nat},FW l->(∀b∈l,b<a)->FW (l++[a])
 | [],_,_,_=>trivial
 | [b],a,_,h=>⟨h b (by simp),trivial⟩
 |b::c::l,a,hi,h=>⟨hi.1,XX (l:=c::l) hi.2 (fun x d=>h x (zF _ d))⟩
theorem Vo(d:Array Nat)(g:∀i j,i<=j->j<d.size->d[i]!<=d[j]!):∀m,m<=d.size->FW (compactUpTo d m)/\(∀x,x∈compactUpTo d m↔∃j,j<m/\x=d[j]!)
 | 0,_=>⟨trivial,fun x=>by simp[compactUpTo]⟩
 |m+1,p=>by
  obtain⟨k,h⟩:=Vo d g m (by omega);rw[Vp];by_cases c:keeps d m=true
  ·rw[if_pos c];refine⟨XX k fun b l=>?_,fun x=>?_⟩
   ·obtain⟨j,a,rfl⟩:=(h b).1 l;have f:m=0\/d[m]!≠d[m-1]! :=of_decide_eq_true c;have n:=g j (m-1) (by omega) (by omega);have o:=g (m-1) m (by omega) (by omega);omega
   ·rw[List.mem_append,h x,List.mem_singleton];constructor
    ·rintro(⟨j,a,e⟩|e)
     ·exact⟨j,by omega,e⟩
     ·exact⟨m,by omega,e⟩
    ·rintro⟨j,a,e⟩;by_cases q:j=m
     ·subst q;exact .inr e
     ·exact .inl ⟨j,by omega,e⟩
  ·rw[if_neg c,List.append_nil];refine⟨k,fun x=>?_⟩;rw[h x];have f:¬(m=0\/d[m]!≠d[m-1]!):=fun q=>c (decide_eq_true q);constructor
   ·rintro⟨j,a,e⟩;exact⟨j,by omega,e⟩
   ·rintro⟨j,a,e⟩;by_cases q:j=m
    ·subst q;exact⟨j-1,by omega,by rw[e];omega⟩
    ·exact⟨j,by omega,e⟩
theorem aBi(l:List Nat):FW (Sw (OP l))/\∀x,x∈Sw (OP l)↔x∈l:=by
 have k:(OP l).Pairwise fun a b=>decide (a<=b)=true:=List.pairwise_mergeSort (fun a b c o p=>by simp only[decide_eq_true_eq]at*;omega) (fun a b=>by simp only[Bool.or_eq_true,decide_eq_true_eq];omega) l;have h:∀x,x∈OP l↔x∈l:=fun x=>(List.mergeSort_perm l _).mem_iff;have m:∀i j,i<=j->j<(OP l).toArray.size->(OP l).toArray[i]!<=(OP l).toArray[j]! :=by
  intro i j g d;simp only[abZ]at d;by_cases q:i=j
  ·subst q;exact zC _
  ·have:=List.pairwise_iff_getElem.1 k i j (by omega) d (by omega);simp only[decide_eq_true_eq]at this;simp only[List.getElem!_toArray];rw[List.getElem!_eq_getElem?_getD,List.getElem!_eq_getElem?_getD,List.getElem?_eq_getElem (by omega),List.getElem?_eq_getElem d];exact this
 obtain⟨c1,f⟩:=Vo (OP l).toArray m (OP l).length (by simp);refine⟨c1,fun x=>?_⟩;show x∈compactUpTo _ _↔_;rw[f x,<-h x];constructor
 ·rintro⟨j,d,e⟩;rw[e];simp only[List.getElem!_toArray];rw[List.getElem!_eq_getElem?_getD,List.getElem?_eq_getElem d];exact List.getElem_mem d
 ·intro n;obtain⟨j,d,e⟩:=List.getElem_of_mem n;refine⟨j,d,?_⟩;simp only[List.getElem!_toArray];rw[List.getElem!_eq_getElem?_getD,List.getElem?_eq_getElem d];exact e.symm
def BK(n:Nat):Value:=jI jJ (n:Int)
theorem Mi(x y:Nat):((x:Int)==(y:Int))=decide (x=y):=by
 by_cases h:x=y
 ·simp[h]
 ·rw[decide_eq_false h,beq_eq_false_iff_ne];omega
theorem aGu:EqlAt zB 3 BK (fun x y=>decide (x=y)):=⟨fun x y w=>by simp[binOp,Op.intCmp,BK,Mi],fun c a b x y w=>by unfold BK;rw[eqGuard_at_int];rfl⟩
theorem aGM:NeqAt zB 3 BK (fun x y=>decide (x=y)):=⟨fun x y w=>by simp[binOp,Op.intCmp,bne,BK,Mi],fun c a b x y w=>by unfold BK;rw[eqGuard_at_int];rfl⟩
theorem aEO(l:List Nat):bN Ps l=l.map BK:=by
 rw[Wu];unfold zi;rw[List.map_map];rfl
theorem Rn(a:Array Value)(D:List Nat)(m:Nat)(h:D.length<=a.size)(c:m<=D.length):(putCells BK 0 D.toArray a).toList.take m=(D.take m).map BK:=by
 apply List.ext_getElem?;intro j;by_cases b:j<m
 ·rw[List.getElem?_take_of_lt b,Array.getElem?_toList,List.getElem?_map,List.getElem?_take_of_lt b];simp[putCells,show j<D.length by omega,show j<a.size by omega]
 ·rw[List.getElem?_take_eq_none (by omega),List.getElem?_eq_none (by simp;omega)]
theorem Du(l:List Nat):(Sw l).length<=l.length:=by
 unfold Sw compactUpTo;rw[qC];exact zJ (List.length_filter_le _ _) (by simp)
theorem Ot{w:World}{B g cap:Nat}{l:List Nat}(h:RI w B (.slice (some ⟨g,0,none⟩) l.length cap) l)(D:l.length<=1000000000):
  Calls zB 279 #[.slice (some ⟨g,0,none⟩) l.length cap] w fun e w'=>e=.returned (.slice (some ⟨g,0,none⟩) (Sw l).length cap)/\RI w' B (.slice (some ⟨g,0,none⟩) (Sw l).length cap) (Sw l)/\w.grownBy w' (some g):=by
 rcases h.2 with⟨f,_⟩|⟨u,a,b,f,x,i,r,o,c,E⟩
 ·cases f
 cases f;have z:=(Array.getElem?_eq_some_iff.1 i).1;have y:Holds BK w g 0 l.toArray:=by
  intro j p;simp only[abZ]at p;refine⟨?_,by simp[World.frozen?,i]⟩;obtain⟨u,a,d,_,_,n⟩:=bT.num h (List.getElem?_eq_getElem p);cases d;rw[qP,n];simp[BK,p]
 have d:=AnyE.slices_Compact Tryz.compI BK (fun _=>rfl) aGu aGM 0 Tryz.zeroValue3 g 0 cap l.toArray w y (by simp;omega) (by simpa using r);simp only[abZ]at d;refine Calls.mono (show Calls zB 279 _ _ _ from d) ?_;rintro e w' ⟨v,q,rfl⟩;refine⟨v,?_,?_⟩
 ·have m:(putRow BK (Sort.ahead w q) g 0 (compactUpTo l.toArray l.length++afQ (l.length-(compactUpTo l.toArray l.length).length) 0).toArray).heap[g]? =some (jC (putCells BK 0 (compactUpTo l.toArray l.length++afQ (l.length-(compactUpTo l.toArray l.length).length) 0).toArray b) 3 (0,0)):=by
   simp[putRow,mapBlock,Sort.ahead,Array.getElem?_modify,i,onCells]
  have n:=Du l;refine⟨by rw[eW],.inr ⟨g,cap,_,rfl,x,m,by omega,o,by simp[putCells,c],?_⟩⟩;have t:b.size=cap:=by rw[c];exact xF _
  rw[show(Sw l).length*Ps.k=(Sw l).length from xF _,Rn _ _ _ (by rw[zU,List.length_replicate];unfold Sw at n;omega) (by rw[zU];unfold Sw;omega),aEO];congr 1;exact List.take_left
 ·refine⟨rfl,rfl,rfl,by simp[putRow,mapBlock,Sort.ahead],fun k A s=>?_⟩;have:g≠k:=fun e=>s (by rw[e]);simp[putRow,mapBlock,Sort.ahead,Array.getElem?_modify,this]
end
section
open Go.RowKit Rg
attribute [local go_sem] Oper.semAt_some
theorem bT.frozen{α:Type}{E:Elem α}{e:TypeId}{w:World}{B g n cap:Nat}{l:List α}(h:bT E e w B (.slice (some ⟨g,0,none⟩) n cap) l)(j:Nat):w.frozen? ⟨g,j,none⟩=false:=by
 rcases h.2 with⟨b,_⟩|⟨f,c,a,b,_,d,_⟩
 ·cases b
 ·cases b;exact frozen_of_row w g j a e d
theorem PL{α:Type}(E:Elem α):∀(l:List α) (i j:Nat) (x y:α) (u:Value),l[i]? =some y->j<E.k->(E.enc x)[j]? =some u->(∀k,k<E.k->k≠j->(E.enc x)[k]? =(E.enc y)[k]?)->(bN E l).set (i*E.k+j) u=bN E (l.set i x)
 | [],i,j,x,y,u,h,_,_,_=>by simp at h
 |z::l,0,j,x,y,u,h,a,d,c=>by
  simp only[List.getElem?_cons_zero,zL.injEq]at h;subst h;have e:bN E (z::l)=E.enc z++bN E l:=by simp[bN]
  have b:bN E ((z::l).set 0 x)=E.enc x++bN E l:=by simp[bN]
  rw[e,b,Nat.zero_mul,qP,List.set_append_left _ _ (by rw[E.len];exact a)];congr 1;apply List.ext_getElem?;intro k;rw[List.getElem?_set];by_cases q:j=k
  ·subst q;rw[if_pos rfl,if_pos (by rw[E.len];exact a),d]
  ·rw[if_neg q];rcases Nat.lt_or_ge k E.k with r|r
   ·exact(c k r (fun e=>q e.symm)).symm
   ·rw[List.getElem?_eq_none (by rw[E.len];exact r),List.getElem?_eq_none (by rw[E.len];exact r)]
 |z::l,i+1,j,x,y,u,h,a,d,c=>by
  have e:bN E (z::l)=E.enc z++bN E l:=by simp[bN]
  have b:bN E ((z::l).set (i+1) x)=E.enc z++bN E (l.set i x):=by simp[bN]
  have f:=E.len z;rw[e,b,List.set_append_right _ _ (by rw[f,xI,afX];omega),f,show(i+1)*E.k+j-E.k=i*E.k+j by rw[xI,afX];omega];congr 1;exact PL E l i j x y u (by simpa using h) a d c
theorem bT.setTo{α:Type}{E:Elem α}{e:TypeId}{w:World}{B g n cap:Nat}{l:List α}(h:bT E e w B (.slice (some ⟨g,0,none⟩) n cap) l){i j:Nat}{y:α}(q:l[i]? =some y)(f:j<E.k)(x:α)(u:Value)(o:(E.enc x)[j]? =some u)(m:∀k,k<E.k->k≠j->(E.enc x)[k]? =(E.enc y)[k]?):
  bT E e (w.setCell ⟨g,i*E.k+j,none⟩ u) B (.slice (some ⟨g,0,none⟩) n cap) (l.set i x)/\w.grownBy (w.setCell ⟨g,i*E.k+j,none⟩ u) (some g):=by
 obtain⟨A,c,p⟩:=h.slice;injection p with s b d;subst b;subst d;obtain⟨a,r⟩:=agQ.stored h (i*E.k+j) u;refine⟨?_,r⟩;rw[PL E l i j x y u q f o m]at a;unfold bT;rw[List.length_set];exact a
def spa(b:Blk):Nat×Nat:=(b.lo,b.hi)
def aCo:Prop:=∀b:Blk,b.l<=5->b.n<2*4^b.l->∀w,Calls zB 246 #[dD b] w (GP (.agg ⟨sJ (spa b)⟩) w)
def DH(L:List Blk):Prop:=∀b∈L,b.l<=5/\b.n<2*4^b.l
def B3(w:World)(e:TypeId)(g:Nat)(x y z:Int):Prop:=w.heap[g]? =some (jC #[jI jJ x,jI jJ y,jI jJ z] e (0,0))
theorem B3.lt{w:World}{e:TypeId}{g:Nat}{x y z:Int}(h:B3 w e g x y z):g<w.heap.size:=(Array.getElem?_eq_some_iff.1 h).1
theorem B3.next{w w':World}{e:TypeId}{g:Nat}{x y z:Int}(h:B3 w e g x y z)(a:Below w.heap.size w w'):B3 w' e g x y z:=(a.block g h.lt).trans h
theorem B3.keep{w:World}{e:TypeId}{g:Nat}{x y z:Int}(h:B3 w e g x y z):w.cell? ⟨g,0,none⟩=some (jI jJ x)/\w.cell? ⟨g,1,none⟩=some (jI jJ y)/\w.cell? ⟨g,2,none⟩=some (jI jJ z):=by
 unfold B3 at h;refine⟨?_,?_,?_⟩<;>simp[World.cell?,h]
theorem B3.new(w:World)(e:TypeId)(x y z:Int):B3 (w.alloc (jC #[jI jJ x,jI jJ y,jI jJ z] e)) e w.heap.size x y z:=heap_alloc_new w _
structure CvRel (w:World) (L:List Blk) (v:Value) (v3 v12:Value) (wr:World) (i:Nat):Prop where
 le:i<=L.length
 num:v12=jI jJ (i:Int)
 own:FX wr w.heap.size v3 ((L.take i).map spa)
 arg:RC wr 0 v L
 bel:Below w.heap.size w wr
theorem Ja{b:Blk}(h:b.l<=5)(d:b.n<2*4^b.l):b.hi<=8589934592:=by
 unfold Blk.hi;have a:(b.n+1)*sz b.l<=(2*4^b.l)*sz b.l:=Nat.mul_le_mul_right _ d;have c:(2*4^b.l)*sz b.l=2*4^16:=by
  unfold sz;rw[Nat.mul_assoc,<-Nat.pow_add,show b.l+(16-b.l)=16 by omega]
 rw[c]at a;exact a
def nU(L:List Blk)(i:Nat)(O:List (Nat×Nat)):List (Nat×Nat):=match O.reverse with
 | []=>iZ (L.drop i)
 |s::D=>D.reverse++gJ s.1 s.2 (L.drop i)
structure C2Rel (w:World) (B1:Nat) (L:List Blk) (S:List (Nat×Nat)) (v:Value) (v6 v26:Value) (wr:World) (i:Nat) (O:List (Nat×Nat)):Prop where
 le:i<=S.length
 num:v26=jI jJ (i:Int)
 own:FX wr B1 v6 O
 all:nU L i O=iZ L
 arg:FX wr w.heap.size v S
 bel:Below w.heap.size w wr
 few:O.length<=i
 grown:B1<=wr.heap.size
theorem Below.drewN(w:World)(n:Nat):Below w.heap.size w (w.drewN n):=by
 have:=wW w n #[];rwa[Sort.grow_empty]at this
def mgB(O:List (Nat×Nat))(s:Nat×Nat):Bool:=match O.reverse with
 | []=>false
 |x::_=>decide (s.1<=x.2)
theorem Vn{L:List Blk}{i:Nat}{O:List (Nat×Nat)}{b:Blk}{A:List (Nat×Nat)}(h:nU L i O=A)(c:L.drop i=b::L.drop (i+1))(a:mgB O (spa b)=false):nU L (i+1) (O++[spa b])=A:=by
 rw[<-h];unfold nU;rw[c];rcases List.eq_nil_or_concat O with rfl|⟨M,⟨f,t⟩,rfl⟩
 ·rfl
 ·rw[List.concat_eq_append]at*;have d:¬b.lo<=t:=by
   unfold mgB at a;rw[xU]at a;exact of_decide_eq_false a
  simp only[xU,qY,List.reverse_nil,agZ,xC,List.reverse_reverse,spa];rw[gJ,if_neg d];simp
theorem Ox{L:List Blk}{i:Nat}{M:List (Nat×Nat)}{f t:Nat}{b:Blk}{A:List (Nat×Nat)}(h:nU L i (M++[(f,t)])=A)(c:L.drop i=b::L.drop (i+1))(a:mgB (M++[(f,t)]) (spa b)=true):nU L (i+1) (M++[(f,max t b.hi)])=A:=by
 rw[<-h];unfold nU;rw[c];have d:b.lo<=t:=by
  unfold mgB at a;rw[xU]at a;exact of_decide_eq_true a
 simp only[xU,qY,List.reverse_nil,agZ,xC,List.reverse_reverse];rw[gJ,if_pos d]
theorem cN{x:Int}(h:-9223372036854775808<=x/\x<=9223372036854775807):i64.wrap x=x:=by
 rw[IntKind.wrap_i64];omega
theorem DT(f6:aCo){L:List Blk}{v:Value}(hn:L.length<=100000000)(hk:DH L)(ho:AN L)(w:World)(h:RC w 0 v L)(b9:∀k,v.ownBlock=some k->k<w.heap.size):
  Calls zB 198 #[v] w fun e w'=>∃v',e=.returned v'/\FX w' w.heap.size v' (iZ L)/\Below w.heap.size w w':=by
 have g0:=zA f6;have HK:=zA hk;have HO:=zA ho;obtain⟨A,c,rfl⟩:=h.slice;have HR:=zA (show CvRel w L (.slice A L.length c) (.slice none 0 0) (jI jJ 0) w 0 from⟨by omega,rfl,bT.nil,h,zD _ _⟩);have f9:=zA b9;clear f6 hk ho h b9;go_enter Tryz.func198,Tryz.ntmps198;go_wp2_with fail
 go_loopw [3,12] (fun v3 d6 wr=>∃i,CvRel w L (.slice A L.length c) v3 d6 wr i) (fun _ d6 _=>L.length-(intOf d6).toNat)
 case atStart=>exact⟨_,HR.out⟩
 case round=>
  clear HR;obtain⟨i,hi,rfl,d,r,o⟩:=hrel;by_cases J:i<L.length
  ·obtain⟨b,hb⟩:∃b,L[i]? =some b:=⟨_,List.getElem?_eq_getElem J⟩;obtain⟨g,g1,hv,hB,hg,c0,c1,c2⟩:=r.cel hb;cases hv;obtain⟨e9,f0⟩:=HK.out b (List.mem_of_getElem? hb);have HC:=zA (fun w=>g0.out b e9 f0 w);have e4:=zA (show(L.take (i+1)).map spa=(L.take i).map spa++[spa b] by rw[List.take_add_one,hb];simp);unfold dD fW sJ at HC;obtain⟨X,hX⟩:∃X:Int,X=(b.l:Int):=⟨_,rfl⟩;obtain⟨Y,hY⟩:∃Y:Int,Y=(aM b.l b.n:Int):=⟨_,rfl⟩;obtain⟨Z,hZ⟩:∃Z:Int,Z=(aN b.l b.n:Int):=⟨_,rfl⟩;obtain⟨P,hP⟩:∃P:Int,P=((spa b).1:Int):=⟨_,rfl⟩;obtain⟨Q,hQ⟩:∃Q:Int,Q=((spa b).2:Int):=⟨_,rfl⟩;rw[<-hX,<-hY,<-hZ,<-hP,<-hQ]at HC;rw[<-hX]at c0;rw[<-hY]at c1;rw[<-hZ]at c2;have c7:=zA (show sJ (spa b)=[jI jJ P,jI jJ Q] by rw[hP,hQ];rfl);obtain⟨M,hM⟩:∃M,M=(L.take i).map spa:=⟨_,rfl⟩;have H:M.length<=1000000000:=by rw[hM,qC,List.length_take];omega
   rw[<-hM]at d e4;have B:=zA (d.next (Below.new (jC #[jI jJ X,jI jJ Y,jI jJ Z] 63)));have a0:=zA (r.next (Below.new (jC #[jI jJ X,jI jJ Y,jI jJ Z] 63)));have s:=zA (o.trans ((Below.new (w:=wr) (jC #[jI jJ X,jI jJ Y,jI jJ Z] 63)).mono o.size));clear hX hY hZ hP hQ d r o hb f0 e9 hM;go_wp2_with fail
   refine(HC.out _).mono ?_;rintro e w1 ⟨rfl,G⟩;have p:=zA ((B.out.next G).next (Below.new (jC #[jI jJ P,jI jJ Q] 252)));have b7:=zA ((a0.out.next G).next (Below.new (jC #[jI jJ P,jI jJ Q] 252)));have D:=zA ((s.out.trans (G.mono s.out.size)).trans ((Below.new (w:=w1) (jC #[jI jJ P,jI jJ Q] 252)).mono (zJ s.out.size G.size)));have b3:w.heap.size<=w1.heap.size+1:=by have:=D.out.size;simpa using this
   have HI:=zA (show i+1<=L.length from J);clear c0 c1 c2 G HC B a0 s;go_wp2_with (at_builtin;refine iW (E:=SJ) rfl (.tmp 16) (.tmp 19) _ rfl 252 (.agg #[jI jJ 0,jI jJ 0]) 16 Tryz.underlying222 uC rfl (by decide) (by omega) w.heap.size u3 M rfl p.out w1.heap.size (spa b) 1 rfl ⟨_,_,by rw[show SJ.enc (spa b)=sJ (spa b)from rfl,c7.out];exact heap_alloc_new w1 _⟩ H (by simpa using b3) ?_)
   intro g2 a5 w2 z u a6 b0;have a3:=zA (show CvRel w L (.slice (some ⟨g,0,none⟩) L.length c) (.slice (some ⟨g2,0,none⟩) (M.length+1) a5) (jI jJ ((i:Int)+1)) w2 (i+1)from
    ⟨HI.out,by go_num,by rw[e4.out];exact z,b7.out.kept u (.inr (fun e=>by
     have h1:=p.out.lt g (by rw[<-e];rfl);have h2:=f9.out g rfl;omega)),D.out.grown u (by simpa using b3) (fun k hk=>(p.out.lt k hk).1)⟩)
   clear z u a6 b0 p b7 D;go_wp2_with fail
   refine⟨⟨_,a3.out⟩,?_⟩;simp only[intOf];omega
  ·have d5:i=L.length:=by omega
   subst d5;rw[qX]at d;have B:=zA d;have s:=zA o;have I:=zA (Ri d (by
    have:=EM.1 HO.out;refine List.Pairwise.map _ (fun a b i6=>?_) this;have:=a.lt;show a.lo<b.lo;omega) (by rw[qC];omega))
   clear d r o;go_wp2_with fail
   refine I.out.mono ?_;rintro e w1 ⟨rfl,G⟩;have p:=zA (B.out.next G);have D:=zA (s.out.trans (G.mono s.out.size));obtain⟨S,hS⟩:∃S,S=L.map spa:=⟨_,rfl⟩;have i5:S.length<=100000000:=by rw[hS,qC];exact hn
   rw[<-hS]at p;obtain⟨A2,c2,rfl⟩:=p.out.slice;have HS:=zA hS;have b6:w.heap.size<=w1.heap.size:=D.out.size;have f8:=zA (fun k (hk:(Value.slice A2 S.length c2).ownBlock=some k)=>(p.out.lt k hk).2);clear G B s I hS;go_wp2_with fail
   go_loopw [6,26] (fun v6 d7 wr=>∃i O,C2Rel w w1.heap.size L S (.slice A2 S.length c2) v6 d7 wr i O) (fun _ d7 _=>S.length-(intOf d7).toNat)
   case atStart=>exact⟨0,[],by omega,rfl,bT.nil,rfl,p.out,D.out,by simp,zC _⟩
   case round=>
    obtain⟨i,O,hi,rfl,d,U,r,o,a7,V⟩:=hrel;by_cases J:i<S.length
    ·obtain⟨b,hb⟩:∃b,L[i]? =some b:=⟨_,List.getElem?_eq_getElem (by have:=HS.out;rw[this,qC]at J;exact J)⟩;have f5:S[i]? =some (spa b):=by rw[HS.out,List.getElem?_map,hb];rfl
     obtain⟨g,g1,hv,hB,hg,c0,c1⟩:=r.spa f5;cases hv;have g7:g<w1.heap.size:=f8.out g rfl;have e6:w1.heap.size<=wr.heap.size:=V;obtain⟨P,hP⟩:∃P:Int,P=((spa b).1:Int):=⟨_,rfl⟩;obtain⟨Q,hQ⟩:∃Q:Int,Q=((spa b).2:Int):=⟨_,rfl⟩;rw[<-hP]at c0;rw[<-hQ]at c1;have f3:L.drop i=b::L.drop (i+1):=by
      have hl:=(List.getElem?_eq_some_iff.1 hb).1;rw[List.drop_eq_getElem_cons hl];congr 1;have:=List.getElem?_eq_getElem hl;rw[hb]at this;exact(zL.inj this).symm
     have c7:=zA (show sJ (spa b)=[jI jJ P,jI jJ Q] by rw[hP,hQ];rfl);have HP:=zA hP;have HQ:=zA hQ;have i1:0<=P/\P<=9000000000/\0<=Q/\Q<=9000000000:=by
      have h1:=HK.out b (List.mem_of_getElem? hb);have h2:=Ja h1.1 h1.2;have h3:=b.lt;have e1:(spa b).1=b.lo:=rfl;have e2:(spa b).2=b.hi:=rfl;rw[e1]at hP;rw[e2]at hQ;omega
     obtain⟨q1,q2,q3,q4⟩:=i1;have a0:=zA (r.next (Below.new (jC #[jI jJ P,jI jJ Q] 252)));have s:=zA (o.trans ((Below.new (w:=wr) (jC #[jI jJ P,jI jJ Q] 252)).mono o.size));have c9:=B2.new wr 252 P Q;obtain⟨p0,p1,_,_⟩:=c9.keep;have c4:=zA c9;have b5:=zA f3;have K:=zA U;clear hP hQ r o c9 f3 U hb f5;obtain⟨Ao,co,rfl⟩:=d.slice;obtain⟨N,hN⟩:∃N,N=O.length:=⟨_,rfl⟩;rw[<-hN]at d;have e7:N<=100000000:=by omega
     have HN:=zA hN;rw[<-hN];have c6:=zA a7;have B:=zA (d.next (Below.new (jC #[jI jJ P,jI jJ Q] 252)));clear d a7 hN;obtain⟨W,hW⟩:∃W,W=wr.alloc (jC #[jI jJ P,jI jJ Q] 252):=⟨_,rfl⟩;have f1:wr.heap.size<W.heap.size:=by rw[hW];simp
     rw[<-hW]at p0 p1 B a0 s c4;go_upto_region 13 with fail
     rw[<-hW];go_cut [44]from 27 to 63 (fun i3 wx=>i3=.bool (mgB O (spa b))/\∃n,wx=W.drewN n)
     case first=>
      rcases List.eq_nil_or_concat O with rfl|⟨M,ft,rfl⟩
      ·have g6:N=0:=HN.out;subst g6;go_quiet (fail)
       go_wp2_with fail
       go_meet
       exact⟨rfl,_,rfl⟩
      ·rw [List.concat_eq_append]at*;obtain⟨f,t⟩:=ft;have a1:(M++[(f,t)])[M.length]? =some (f,t):=by simp
       obtain⟨m,hm⟩:∃m,m=M.length:=⟨_,rfl⟩;have c8:N=m+1:=by rw[HN.out,hm];simp
       subst c8;rw[<-hm]at a1;obtain⟨y,g3,hv,_,_,d0,d1⟩:=B.out.spa a1;injection hv with hA H hc;subst hA;subst hc;clear H c0 c1;obtain⟨T,hT⟩:∃T:Int,T=(t:Int):=⟨_,rfl⟩;change _=some (Value.int jJ (t:Int))at d1;rw[<-hT]at d1;have d9:=zA (show mgB (M++[(f,t)]) (spa b)=decide (P<=T) by
        unfold mgB;rw[xU];have:=HP.out;by_cases q:P<=T
        ·rw[decide_eq_true q];exact decide_eq_true (by show(spa b).1<=t;omega)
        ·rw[decide_eq_false q];exact decide_eq_false (by show ¬(spa b).1<=t;omega))
       have g5:m<=100000000:=by omega
       clear e7;have g4:(0:Int)<=(m:Int):=by omega
       have g9:(m:Int)<(m:Int)+1:=by omega
       have i0:m<m+1:=by omega
       have f4:(m:Int)<=100000000:=by omega
       have f7:i64.wrap (m:Int)=(m:Int):=cN (by omega);have i2:i64.wrap ((m:Int)+1-1)=(m:Int):=by rw[cN (by omega)];omega
       clear a1 d0 hT hm;have HX:=zA (show(W.cell? ⟨wr.heap.size,0,none⟩=some (jI jJ P)/\W.cell? ⟨y,m*2+1,none⟩=some (jI jJ T))/\Below W.heap.size W W from⟨⟨p0,d1⟩,zD _ _⟩);have e5:=zA (show(W.drew.cell? ⟨wr.heap.size,0,none⟩=some (jI jJ P)/\W.drew.cell? ⟨y,m*2+1,none⟩=some (jI jJ T))/\Below W.heap.size W W.drew from⟨⟨p0,d1⟩,(zD _ _).drew⟩);clear p0 p1 d1;by_cases q:P<=T
       ·go_region_held3 (fun w'=>(w'.cell? ⟨wr.heap.size,0,none⟩=some (jI jJ P)/\w'.cell? ⟨y,m*2+1,none⟩=some (jI jJ T))/\Below W.heap.size W w')
         (first
          |(with_reducible exact HX.out)
          |(with_reducible exact e5.out)
          |fail)
         (fail)
        go_wp2_with fail
        go_meet
        exact⟨by rw[d9.out,decide_eq_true (by omega)],1,by rw[hW];rfl⟩
       ·go_region_held3 (fun w'=>(w'.cell? ⟨wr.heap.size,0,none⟩=some (jI jJ P)/\w'.cell? ⟨y,m*2+1,none⟩=some (jI jJ T))/\Below W.heap.size W w')
         (first
          |(with_reducible exact HX.out)
          |(with_reducible exact e5.out)
          |fail)
         (fail)
        go_wp2_with fail
        go_meet
        exact⟨by rw[d9.out,decide_eq_false (by omega)],1,by rw[hW];rfl⟩
     case rest=>
      obtain⟨rfl,nq,hwc⟩:=hcut;have hq:=Below.drewN W nq;rw[<-hwc]at hq;have x:=zA (B.out.next hq);have a2:=zA (a0.out.next hq);have R:=zA (s.out.trans (hq.mono s.out.size));have b8:=zA (c4.out.next hq);have f2:wr.heap.size<wc.heap.size:=zT f1 hq.size;clear B a0 s c4 hq p0 p1 hwc f1;obtain⟨p0,p1,p2,p3⟩:=b8.out.keep;have HI:=zA (show i+1<=S.length from J);cases b1:mgB O (spa b)with
      |false=>
       have b4:=zA (Vn K.out b5.out b1);have b3:w1.heap.size<=wc.heap.size+1:=by omega
       have e8:O.length<=1000000000:=by have:=HN.out;omega
       have c5:=zA (Below.new (w:=wc) (jC #[jI jJ P,jI jJ Q] 252));have a4:=zA (x.out.next c5.out);clear b1 b5 K;go_wp2_with (at_builtin;refine iW (E:=SJ) rfl (.tmp 59) (.tmp 61) _ rfl 252 (.agg #[jI jJ 0,jI jJ 0]) 16 Tryz.underlying222 uC rfl (by decide) (by omega) w1.heap.size (.slice Ao N co) O rfl a4.out wc.heap.size (spa b) 1 rfl ⟨_,_,by rw[show SJ.enc (spa b)=sJ (spa b)from rfl,c7.out];exact heap_alloc_new wc _⟩ e8 (by simpa using b3) ?_)
       intro g2 a5 w2 z u a6 b0;have j0:w.heap.size<=g:=hB;have a3:=zA (show C2Rel w w1.heap.size L S (.slice (some ⟨g,0,none⟩) S.length c2) (.slice (some ⟨g2,0,none⟩) (O.length+1) a5) (jI jJ ((i:Int)+1)) w2 (i+1) (O++[spa b])from
        ⟨HI.out,by go_num,z,b4.out,(a2.out.next c5.out).kept u (.inr (fun e=>by
         have:=(a4.out.lt g (by rw[<-e];rfl)).1;omega)),(R.out.trans (c5.out.mono R.out.size)).grown u (by simp;omega) (fun k hk=>zJ b6 (a4.out.lt k hk).1),by rw[zU];have:=c6.out;simp only[zM,xA];omega,zJ (by simpa using b3) u.size⟩)
       clear z u a6 b0;go_wp2_with fail
       refine⟨⟨_,_,a3.out⟩,?_⟩;simp only[intOf];omega
      |true=>
       rcases List.eq_nil_or_concat O with rfl|⟨M,ft,rfl⟩
       ·cases b1
       ·rw[List.concat_eq_append]at*;obtain⟨f,t⟩:=ft;obtain⟨m,hm⟩:∃m,m=M.length:=⟨_,rfl⟩;have c8:N=m+1:=by rw[HN.out,hm];simp
        subst c8;have a1:(M++[(f,t)])[m]? =some (f,t):=by rw[hm];simp
        obtain⟨y,g3,hv,_,g8,d0,d1⟩:=x.out.spa a1;injection hv with hA H hc;subst hA;subst hc;have i4:=zA g8;clear H c0 c1 d0 a1;have i7:=x.out.frozen (m*2+1);obtain⟨T,hT⟩:∃T:Int,T=(t:Int):=⟨_,rfl⟩;change _=some (Value.int jJ (t:Int))at d1;rw[<-hT]at d1;have g5:m<=100000000:=by omega
        have b4:=zA (Ox K.out b5.out b1);have e3:=zA (show max T Q=((max t b.hi:Nat):Int) by
         have:=HQ.out;have e:(spa b).2=b.hi:=rfl;rw[e]at this;omega)
        have I:=zA (bT.setTo (E:=SJ) (i:=m) (j:=1) x.out (by rw[hm];simp:(M++[(f,t)])[m]? =some (f,t)) (by decide) (f,max t b.hi) (jI jJ (max T Q)) (by rw[e3.out];rfl) (by
         intro k hk j1;have h2:SJ.k=2:=rfl;have:k=0:=by omega
         subst this;rfl))
        have HM:=zA hm;clear e7 hT b1 b5 K hm;have g4:(0:Int)<=(m:Int):=by omega
        have g9:(m:Int)<(m:Int)+1:=by omega
        have i0:m<m+1:=by omega
        have f4:(m:Int)<=100000000:=by omega
        have f7:i64.wrap (m:Int)=(m:Int):=cN (by omega);have i2:i64.wrap ((m:Int)+1-1)=(m:Int):=by rw[cN (by omega)];omega
        have c3:(M++[(f,t)]).set m (f,max t b.hi)=M++[(f,max t b.hi)]:=by rw[HM.out];simp
        have b2:=I.out.1;rw[c3]at b2;have a9:(M++[(f,max t b.hi)]).length=m+1:=by rw[HM.out];simp
        have a3:=zA (show C2Rel w w1.heap.size L S (.slice (some ⟨g,0,none⟩) S.length c2) (.slice (some ⟨y,0,none⟩) (m+1) co) (jI jJ ((i:Int)+1)) (wc.setCell ⟨y,m*2+1,none⟩ (jI jJ (max T Q))).drew (i+1) (M++[(f,max t b.hi)])from
         ⟨HI.out,by go_num,b2,b4.out,(show FX (wc.setCell ⟨y,m*2+1,none⟩ (jI jJ (max T Q))) w.heap.size (.slice (some ⟨g,0,none⟩) S.length c2) S from a2.out.kept I.out.2 (.inr (fun e=>by
          have h1:=(x.out.lt y rfl).1;have h2:g=y:=zL.inj e;omega))),((R.out.setCell (zJ b6 (x.out.lt y rfl).1) _)).drew,by have:=c6.out;rw[a9];have:=HN.out;omega,by have:=I.out.2.size;exact zJ (by omega) this⟩)
        clear x a2 R b8 e3 b4 HN c6 J hB g7 e6 f2 b6 c3 b2 a9 I;go_wp2_with fail
        go_region_with fail
        all_goals (
         go_wp2_with fail
         refine⟨⟨_,_,a3.out⟩,?_⟩;have:=HI.out;simp only[intOf];omega)
    ·have d5:i=S.length:=by omega
     subst d5;have d8:=zA (show ∃v',Ending.returned u6=.returned v'/\FX wr w.heap.size v' (iZ L)/\Below w.heap.size w wr from⟨u6,rfl,by
      have hL:L.drop S.length=[]:=by rw[HS.out,qC,List.drop_length]
      have hO:O=iZ L:=by
       rw[<-U];unfold nU;rw[hL];rcases List.eq_nil_or_concat O with rfl|⟨M,ft,rfl⟩
       ·rfl
       ·rw[List.concat_eq_append,xU];simp[gJ]
      rw[<-hO];exact d.mono b6,o⟩)
     clear d U r o a7 V;go_wp2_with fail
     go_ret;exact d8.out
end
section
open Go.RowKit Rg
attribute [local go_sem] Oper.semAt_some
theorem bT.cex{e:TypeId}{w:World}{B:Nat}{v:Value}{l:List Blk}(h:bT AH e w B v l){i:Nat}{b:Blk}(m:l[i]? =some b):∃g cap,v=.slice (some ⟨g,0,none⟩) l.length cap/\B<=g/\g<w.heap.size/\∃x y z:Int,fW b=[jI jJ x,jI jJ y,jI jJ z]/\
  w.cell? ⟨g,i*3,none⟩=some (jI jJ x)/\w.cell? ⟨g,i*3+1,none⟩=some (jI jJ y)/\w.cell? ⟨g,i*3+2,none⟩=some (jI jJ z):=by
 obtain⟨g,cap,a,c,d,f,j,k⟩:=h.cel m;exact⟨g,cap,a,c,d,_,_,_,rfl,f,j,k⟩
def Bv:Prop:=∀b:Blk,b.l<=5->b.n<2*4^b.l->∀w,Calls zB 193 #[dD b] w (GP (.bool true) w)
theorem aAl(j:Bv){b:Blk}(h:b.l<=5)(i:b.n<2*4^b.l){x y z:Int}(g:fW b=[jI jJ x,jI jJ y,jI jJ z])(w:World):
  Calls zB 196 #[.agg #[jI jJ x,jI jJ y,jI jJ z]] w (GP (.bool false) w):=by
 have c:=zA (j b h i);unfold dD at c;rw[g]at c;have d:=zA (Below.new (w:=w) (jC #[jI jJ x,jI jJ y,jI jJ z] 63));clear g;go_enter Tryz.func196,Tryz.ntmps196;go_wp2_with fail
 refine(c.out _).mono ?_;rintro e k ⟨rfl,f⟩;have a:=zA (d.out.trans (f.mono d.out.size));clear f;go_wp2_with fail
 go_ret;exact⟨rfl,a.out⟩
theorem aAf(s:Bv){L:List Blk}{v:Value}(K:L.length<=100000000)(r:DH L)(w:World)(h:RC w 0 v L):
  Calls zB 34 #[v,.func (.func 196) #[] #[]] w (GP (jI jJ (-1)) w):=by
 have D:=zA s;have u:=zA r;obtain⟨A,c,rfl⟩:=h.slice;have B:=zA h;have m:=zA (zD w.heap.size w);clear s r h;go_enter Tryz.func34,Tryz.ntmps34;go_wp2_with fail
 go_loopw [8] (fun p wr=>∃i:Nat,i<=L.length/\p=jI jJ (i:Int)/\Below w.heap.size w wr) (fun p _=>L.length-(intOf p).toNat)
 case atStart=>exact⟨0,by omega,rfl,m.out⟩
 case round=>
  obtain⟨i,hi,rfl,d⟩:=hrel;by_cases j:i<L.length
  ·obtain⟨b,o⟩:∃b,L[i]? =some b:=⟨_,List.getElem?_eq_getElem j⟩;obtain⟨g,H,I,_,J,x,y,z,a,E,c1,G⟩:=(B.out.next d).cex o;cases I;obtain⟨q,k⟩:=u.out b (List.mem_of_getElem? o);have t:=zA (aAl D.out q k a);have l:=zA d;clear d o a q k;go_wp2_with fail
   refine(t.out _).mono ?_;rintro e M ⟨rfl,f⟩;have n:=zA (l.out.trans (f.mono l.out.size));clear f E c1 G;go_wp2_with fail
   refine⟨⟨i+1,j,by go_num,n.out⟩,?_⟩;simp only[intOf];omega
  ·have l:=zA d;clear d;go_wp2_with fail
   go_ret;exact⟨rfl,l.out⟩
theorem Y0(d:Bv){L:List Blk}{v:Value}(i:L.length<=100000000)(b:DH L)(w:World)(h:RC w 0 v L):
  Calls zB 14 #[v,.func (.func 196) #[] #[]] w (GP (.bool false) w):=by
 have g:=zA (aAf d i b w h);obtain⟨A,c,rfl⟩:=h.slice;clear d b h;go_enter Tryz.func14,Tryz.ntmps14;go_wp2_with fail
 refine g.out.mono ?_;rintro e j ⟨rfl,a⟩;have f:=zA a;clear a;go_wp2_with fail
 go_ret;exact⟨rfl,f.out⟩
structure CelH:Prop where
 cof:Q8
 spo:aCo
 cva:Bv
structure Reg (L:List Blk):Prop where
 tidy:pN L
 okc:DH L
 few:L.length<=4000
theorem Reg.al{L:List Blk}(h:Reg L):Al 5 (iZ L):=Dt (by omega) fun d a=>(h.okc d a).1
theorem Reg.top{L:List Blk}(h:Reg L):iK L 8589934592:=fun d a=>Ja (h.okc d a).1 (h.okc d a).2
theorem oX{L:List Blk}{m:Nat}(c:AN L)(h:iK L m):∀s∈iZ L,s.1<=m/\s.2<=m:=by
 have one:∀S:List (Nat×Nat),fL S->(∀s∈S,s.2<=m)->∀s∈S,s.1<=m/\s.2<=m:=by
  intro S;induction S with
  |nil=>intro _ _ s hs;cases hs
  |cons a S d=>
   intro b h s hs;rcases List.mem_cons.1 hs with rfl|hs
   ·have:=b.one;have:=h s List.mem_cons_self;exact⟨by omega,by omega⟩
   ·exact d b.tail (fun s hs=>h s (zF _ hs)) s hs
 exact one _ (JW c).1 (JV h)
theorem JU:∀(L:List Blk) (f t:Nat),(gJ f t L).length<=L.length+1
 | [],f,t=>zC _
 |a::L,f,t=>by
  unfold gJ;split
  ·have:=JU L f (max t a.hi);simp only[zM];omega
  ·have:=JU L a.lo a.hi;simp only[zM];omega
theorem AY(L:List Blk):(iZ L).length<=L.length:=by
 cases L with
 |nil=>exact zC _
 |cons a L=>exact JU L a.lo a.hi
theorem DB(t:CelH){L:List Blk}{v:Value}(b:Reg L)(w:World)(h:RC w 0 v L)(d:∀k,v.ownBlock=some k->k<w.heap.size):
  Calls zB 136 #[v] w (GP (.bool true) w):=by
 have K:=b.few;have I:=zA (Y0 t.cva (by omega) b.okc w h);have x:=zA (fun(w:World) (h:RC w 0 v L) G=>DT t.spo (by omega) b.okc b.tidy.2.2 w h G);have D:=zA (fun(w:World) (M:Value) (h:FX w 0 M (iZ L)) G=>Au t.cof (iZ L) M (by have:=AY L;omega) (oX b.tidy.2.2 b.top) b.al w h G);have N:=zA b.tidy.1;have J:=zA h;have y:=zA d;obtain⟨A,c,rfl⟩:=h.slice;clear t b h d;have X:(L.length:Int)<=4000:=by omega
 go_enter Tryz.func136,Tryz.ntmps136;go_wp2_with fail
 refine I.out.mono ?_;rintro e w1 ⟨rfl,i⟩;have g:=zA (J.out.next i);have a:=zA i;clear i I J;go_wp2_with fail
 refine(x.out _ g.out (fun k E=>zT (y.out k E) a.out.size)).mono ?_;rintro e w2 ⟨Y,rfl,n,j⟩;have p:=zA (g.out.next j);have f:=zA (a.out.trans (j.mono a.out.size));have q:=zA n;obtain⟨Q,U,rfl⟩:=n.slice;clear j n g a;go_wp2_with fail
 refine(D.out _ _ (q.out.mono (Nat.zero_le _)) (fun k E=>(q.out.lt k E).2)).mono ?_;rintro e w3 ⟨s,l⟩;rw[N.out]at s;rcases s with⟨_,Z,rfl,m⟩|⟨O,_⟩
 ·have z:=zA m;have B:=zA (p.out.next l);have o:=zA (f.out.trans (l.mono f.out.size));obtain⟨R,V,rfl⟩:=m.slice;clear l m p f;have H:=zA (Jt z.out B.out (by omega) (by omega));rw[decide_eq_true rfl]at H;go_wp2_with fail
  refine H.out.mono ?_;rintro e w4 ⟨rfl,r⟩;have u:=zA (o.out.trans (r.mono o.out.size));clear r;go_wp2_with fail
  go_ret;exact⟨rfl,u.out⟩
 ·omega
end
section
open Go.RowKit Rg
attribute [local go_sem] Oper.semAt_some
structure Sub2 (w:World) (v:Value) (l:List (Nat×Nat)):Prop where
 form:∃A c,v=.slice A l.length c
 at_:∀i s,l[i]? =some s->∃g o c,v=.slice (some ⟨g,o,none⟩) l.length c/\g<w.heap.size/\l.length<=c/\w.cell? ⟨g,o+i*2,none⟩=some (jI jJ (s.1:Int))/\w.cell? ⟨g,o+i*2+1,none⟩=some (jI jJ (s.2:Int))
def IV(w:World)(g:Nat)(v:Value):Prop:=w.heap[g]? =some (jC #[v] 222 (0,0))
theorem IV.lt{w:World}{g:Nat}{v:Value}(h:IV w g v):g<w.heap.size:=(Array.getElem?_eq_some_iff.1 h).1
theorem IV.next{w w':World}{g:Nat}{v:Value}(h:IV w g v)(a:Below w.heap.size w w'):IV w' g v:=(a.block g h.lt).trans h
theorem IV.kept{w w':World}{g:Nat}{v:Value}{row:Option Nat}(h:IV w g v)(a:w.grownBy w' row)(b:some g≠row):IV w' g v:=(a.block g h.lt b).trans h
theorem IV.keep{w:World}{g:Nat}{v:Value}(h:IV w g v):w.cell? ⟨g,0,none⟩=some v/\w.frozen? ⟨g,0,none⟩=false:=by
 unfold IV at h;refine⟨?_,?_⟩<;>simp[World.cell?,World.frozen?,h]
theorem IV.set{w:World}{g:Nat}{v:Value}(h:IV w g v)(u:Value):IV (w.setCell ⟨g,0,none⟩ u) g u:=by
 unfold IV at*;simp[World.setCell,h,Array.getElem?_modify]
theorem Sub2.kept{w w':World}{v:Value}{l:List (Nat×Nat)}{row:Option Nat}(h:Sub2 w v l)(d:w.grownBy w' row)(m:∀g,v.ownBlock=some g->some g≠row):Sub2 w' v l:=
 ⟨h.form,fun i s n=>by
  obtain⟨g,o,c,e,b,f,j,k⟩:=h.at_ i s n;have a:=m g (by rw[e];rfl);exact⟨g,o,c,e,zT b d.size,f,(d.cell_far ⟨g,o+i*2,none⟩ b a).trans j,(d.cell_far ⟨g,o+i*2+1,none⟩ b a).trans k⟩⟩
def NI:Value->Nat
 | .slice _ n _=>n
 |_=>0
structure HasRel (w:World) (b0:Nat) (N:Nat) (l:List (Nat×Nat)) (ob:Option Nat) (wr:World) (v:Value) (m:List (Nat×Nat)):Prop where
 box:IV wr b0 v
 sub:Sub2 wr v m
 same:eQ N m=eQ N l
 len:m.length<=l.length
 gr:w.grownBy wr (some b0)
 far:v.ownBlock≠some b0
 obl:v.ownBlock=ob
def RD(w:World)(b0:Nat)(N:Nat)(l:List (Nat×Nat))(ob:Option Nat)(e:Ending)(w':World):Prop:=
 e=.returned (.bool (gY N l))/\∃v',IV w' b0 v'/\Sub2 w' v' (eQ N l)/\w.grownBy w' (some b0)/\v'.ownBlock=ob
theorem Xi{w wr:World}{d N g o c k:Nat}{l m:List (Nat×Nat)}{s:Nat×Nat}(r:Sub2 wr (.slice (some ⟨g,o,none⟩) (s::m).length c) (s::m))(h:IV wr d (.slice (some ⟨g,o,none⟩) (s::m).length c))(n:(Value.slice (some ⟨g,o,none⟩) (s::m).length c).ownBlock≠some d)
  (f:eQ N (s::m)=eQ N l)(p:(s::m).length<=l.length)(b:w.grownBy wr (some d))(A:k=m.length)(Q:k+1<=c)(K:s.2<=N){D:Option Nat}(y:(Value.slice (some ⟨g,o,none⟩) (s::m).length c).ownBlock=D):
  HasRel w d N l D (wr.setCell ⟨d,0,none⟩ (.slice (if c=1 then some ⟨g,o,none⟩ else some ⟨g,o+2,none⟩) k (c-1))) (.slice (if c=1 then some ⟨g,o,none⟩ else some ⟨g,o+2,none⟩) k (c-1)) m:=by
 have t:g≠d:=fun e=>n (by rw[e];rfl);have a:=gM wr ⟨d,0,none⟩ (.slice (if c=1 then some ⟨g,o,none⟩ else some ⟨g,o+2,none⟩) k (c-1));refine⟨h.set _,⟨⟨_,_,by rw[A]⟩,fun i x B=>?_⟩,?_,by simp only[zM]at p;omega,⟨a.os.trans b.os,a.tape.trans b.tape,a.output.trans b.output,zJ b.size a.size,fun j z q=>(a.block j (zT z b.size) q).trans (b.block j z q)⟩,?_,?_⟩
 ·have hi:=(List.getElem?_eq_some_iff.1 B).1;obtain⟨M,U,L,E,G,O,H,I⟩:=r.at_ (i+1) x (by simpa using B);injection E with u R J;injection u with u;injection u with e1 e2;subst e1;subst e2;have v:¬c=1:=by omega
  rw[if_neg v];refine⟨g,o+2,c-1,by rw[A],by simpa using G,by omega,?_,?_⟩
  ·rw[World.cell?_setCell_far _ _ _ _ (Ne.symm t)];rw[show o+2+i*2=o+(i+1)*2 by omega];exact H
  ·rw[World.cell?_setCell_far _ _ _ _ (Ne.symm t)];rw[show o+2+i*2+1=o+(i+1)*2+1 by omega];exact I
 ·rw[<-f];exact(if_pos K).symm
 ·intro e;split at e
  ·exact t (zL.inj e)
  ·exact t (zL.inj e)
 ·rw[<-y];split<;>rfl
theorem Jz{w:World}{n:Nat}{v:Value}{l:List (Nat×Nat)}{N:Nat}(hb:IV w n v)(h:Sub2 w v l)(hf:v.ownBlock≠some n)(hl:l.length<=100000000)(hN:N<=9000000000)(hs:∀s∈l,s.1<=9000000000/\s.2<=9000000000):
  Calls zB 280 #[.pointer (some ⟨n,0,none⟩),jI jJ (N:Int)] w (RD w n N l v.ownBlock):=by
 obtain⟨D,B⟩:∃D,D=v.ownBlock:=⟨_,rfl⟩;rw[<-B];have Y:=zA (show HasRel w n N l D w v l from⟨hb,h,rfl,zC _,⟨rfl,rfl,rfl,zC _,fun _ _ _=>rfl⟩,hf,B.symm⟩);clear B;have HS:=zA hs;obtain⟨X,O⟩:∃X:Int,X=(N:Int):=⟨_,rfl⟩;rw[<-O];have x0:0<=X:=by omega
 have x1:X<=9000000000:=by omega
 have K:=zA O;clear hb h hf hs O hN;go_enter Tryz.func280,Tryz.ntmps280;go_wp2_with fail
 go_loopw [] (fun wr=>∃v m,HasRel w n N l D wr v m) (fun wr=>NI ((wr.cell? ⟨n,0,none⟩).getD (.slice none 0 0)))
 case atStart=>exact⟨_,_,Y.out⟩
 case round=>
  clear Y;obtain⟨v,m,d,a,b,e,p,j,f⟩:=hrel;obtain⟨A,c,rfl⟩:=a.form;obtain⟨Z,d1⟩:=d.keep;cases m with
  |nil=>
   have y:eQ N l=[]:=by rw[<-b];rfl
   have J:=zA (show RD w n N l D (.returned (.bool false)) wr from⟨by unfold gY;rw[y],_,d,by rw[y];exact a,p,f⟩);clear d a b e p j y f;go_wp2_with fail
   go_ret;exact J.out
  |cons s m=>
   obtain⟨g,o,c',hv,hg,hc,e0,e1⟩:=a.at_ 0 s rfl;injection hv with hA hn R;subst hA;subst R;clear hn;rw[Nat.zero_mul,Nat.add_zero]at e0 e1;obtain⟨P,L⟩:∃P:Int,P=(s.1:Int):=⟨_,rfl⟩;obtain⟨Q,M⟩:∃Q:Int,Q=(s.2:Int):=⟨_,rfl⟩;rw[<-L]at e0;rw[<-M]at e1;have HP:=zA L;have V:=zA M;clear L M;obtain⟨k,U⟩:∃k,k=m.length:=⟨_,rfl⟩;have z:(s::m).length=k+1:=by rw[zM,U]
   rw[z]at Z hc;have a0:k<=100000000:=by rw[z]at e;omega
   have x:=zA a;have t:=zA d;have i:=zA b;have H:=zA e;have G:=zA p;have E:=zA j;have u:=zA f;have HK:=zA U;clear a d b e p j U z f;by_cases q:Q<=X
   ·have I:=zA (Xi x.out t.out E.out i.out H.out G.out HK.out hc (by have:=V.out;have:=K.out;omega) u.out);go_wp2_with fail
    refine⟨⟨_,_,I.out⟩,?_⟩;rw[(I.out.box).keep.1,Z];show k<k+1;omega
   ·have y:eQ N l=s::m:=by rw[<-i.out];exact if_neg (by have:=V.out;have:=K.out;omega)
    have J:=zA (show RD w n N l D (.returned (.bool (decide (P<=X)))) wr from⟨by
     unfold gY;rw[y];have h1:=HP.out;have h2:=K.out;by_cases r:P<=X
     ·rw[decide_eq_true r];show _=Ending.returned (.bool (decide (s.1<=N)));rw[decide_eq_true (by omega)]
     ·rw[decide_eq_false r];show _=Ending.returned (.bool (decide (s.1<=N)));rw[decide_eq_false (by omega)],_,t.out,by rw[y];exact x.out,G.out,u.out⟩)
    clear y;go_wp2_with fail
    go_ret;exact J.out
end
section
open Go.RowKit Rg
attribute [local go_sem] Oper.semAt_some
theorem EF{α:Type}(E:Elem α)(l:List α):∀u∈bN E l,u.oneCell'=true:=fun u a=>by
 obtain⟨x,_,b⟩:=xP.1 a;exact E.one x u b
theorem O1{α:Type}{E:Elem α}{ops:Array Oper}{rest:List Oper}{o:Oper}{a:Act}{Q:Exit->Act->World->Prop}{w:World}(p:o.guard=none)(s x:Operand)(t:TypeId)
  (K:o.op=.call {callee:=.builtin .append,args:= #[s,x],argTypes:= #[t,t]})(e:TypeId)(z:Value)(b:Nat)(M:zB.underlying t=some (.slice e))(hi:(zB.info? e).map (fun i=>(i.zero,i.size,i.bytes))=some (some z,E.k,b))
  (q:z.cells.size=E.k)(J:0<E.k)(m:b<=100)(B:Nat)(v:Value)(l:List α)(L:a.eval s=v)(j:bT E e w B v l)(g:Nat)(d:List α)(c:Nat)(N:a.eval x=.slice (some ⟨g,0,none⟩) d.length c)
  (n:∃u r,w.heap[g]? =some (jC ⟨bN E d⟩ u r))(y:0<d.length)(f:l.length+d.length<=1000000000)(I:B<=w.heap.size)
  (h:∀g cap w',bT E e w' B (.slice (some ⟨g,0,none⟩) (l.length+d.length) cap) (l++d)->w.grownBy w' v.ownBlock->(v.ownBlock=some g\/g=w.heap.size)->g<w'.heap.size->wpList zB ops Q rest (a.put o.dst (.slice (some ⟨g,0,none⟩) (l.length+d.length) cap)) w'):wpList zB ops Q (o::rest) a w:=by
 obtain⟨i,O,R,U,V⟩:=fH hi;obtain⟨u,r,n⟩:=n;refine wpList_append_lies w p s x t K B e i z E.k b M O R U V q J v l.length (bN E l) L j ⟨g,0,none⟩ d.length c (bN E d) N (eW E d) (aaJ n) (EF E d) y (by unfold maxLen;omega) ?_ I w.heap.size rfl ?_
 ·have:(l.length+d.length)*b<=1000000000*100:=qM f m;omega
 ·intro g cap w' A D G H;refine h g cap w' ?_ D G H;unfold bT;rw[mH,zU];exact A
theorem Hj{α:Type}{E:Elem α}{ops:Array Oper}{o:Oper}{a:Act}{K:Act->World->Prop}{Q:Exit->Act->World->Prop}{Ex:Prop}{w:World}(q:o.guard=none)(s x:Operand)(t:TypeId)
  (V:o.op=.call {callee:=.builtin .append,args:= #[s,x],argTypes:= #[t,t]})(e:TypeId)(z:Value)(b:Nat)(Y:zB.underlying t=some (.slice e))(hi:(zB.info? e).map (fun i=>(i.zero,i.size,i.bytes))=some (some z,E.k,b))
  (r:z.cells.size=E.k)(U:0<E.k)(p:b<=100)(B:Nat)(v:Value)(l:List α)(X:a.eval s=v)(m:bT E e w B v l)(I:Nat)(H:Value)(c:List α)(Z:a.eval x=H)(A:bT E e w I H c)
  (y:0<c.length)(f:l.length+c.length<=1000000000)(R:B<=w.heap.size)
  (h:∀g cap w',bT E e w' B (.slice (some ⟨g,0,none⟩) (l.length+c.length) cap) (l++c)->w.grownBy w' v.ownBlock->(v.ownBlock=some g\/g=w.heap.size)->g<w'.heap.size->K (a.put o.dst (.slice (some ⟨g,0,none⟩) (l.length+c.length) cap)) w'):
  if Region.wanted o (yielded ops a.tmps)=true then Oper.wp zB o a w K Q else Ex:=by
 obtain⟨i,i1,i2,i3,i4⟩:=fH hi;rcases A.form with⟨_,rfl⟩|⟨n,J,rfl,_,_⟩
 ·simp at y
 refine step_append_lies w q s x t V B e i z E.k b Y i1 i2 i3 i4 r U v l.length (bN E l) X m ⟨n,0,none⟩ c.length J (bN E c) Z (eW E c) ?_ (EF E c) y (by unfold maxLen;omega) ?_ R w.heap.size rfl ?_
 ·intro j u G;have D:=(List.getElem?_eq_some_iff.1 G).1;rw[eW]at D;have d:(⟨n,0,none⟩:Addr).add j=⟨n,j,none⟩:=by unfold Addr.add;split<;>simp_all
  rw[d,agQ.cellAt A j D];exact G
 ·have:(l.length+c.length)*b<=1000000000*100:=qM f p;omega
 ·intro g cap w' L M N O;refine h g cap w' ?_ M N O;unfold bT;rw[mH,zU];exact L
theorem NK{α:Type}{E:Elem α}{ops:Array Oper}{o:Oper}{a:Act}{K:Act->World->Prop}{Q:Exit->Act->World->Prop}{Ex:Prop}{w:World}(n:o.guard=none)(s x:Operand)(t:TypeId)
  (L:o.op=.call {callee:=.builtin .append,args:= #[s,x],argTypes:= #[t,t]})(e:TypeId)(z:Value)(b:Nat)(N:zB.underlying t=some (.slice e))(hi:(zB.info? e).map (fun i=>(i.zero,i.size,i.bytes))=some (some z,E.k,b))
  (p:z.cells.size=E.k)(J:0<E.k)(f:b<=100)(B:Nat)(v:Value)(l:List α)(M:a.eval s=v)(d:bT E e w B v l)(g:Nat)(y:α)(cs:Array Value)(c:Nat)(O:a.eval x=.slice (some ⟨g,0,none⟩) 1 c)
  (j:∃u q,w.heap[g]? =some (jC cs u q))(m:E.enc y=cs.toList)(r:l.length<=1000000000)(I:B<=w.heap.size)
  (h:∀g cap w',bT E e w' B (.slice (some ⟨g,0,none⟩) (l.length+1) cap) (l++[y])->w.grownBy w' v.ownBlock->(v.ownBlock=some g\/g=w.heap.size)->g<w'.heap.size->K (a.put o.dst (.slice (some ⟨g,0,none⟩) (l.length+1) cap)) w'):
  if Region.wanted o (yielded ops a.tmps)=true then Oper.wp zB o a w K Q else Ex:=by
 obtain⟨i,R,U,V,X⟩:=fH hi;obtain⟨u,q,j⟩:=j;refine step_append_lies w n s x t L B e i z E.k b N R U V X p J v l.length (bN E l) M d ⟨g,0,none⟩ 1 c (E.enc y) O (by rw[E.len];omega) (by rw[m];exact aaJ j) (E.one y) (by omega) (by unfold maxLen;omega) ?_ I w.heap.size rfl ?_
 ·have:(l.length+1)*b<=1000000001*100:=qM (by omega) f;omega
 ·intro g cap w' A D G H;refine h g cap w' ?_ D G H;unfold bT;rw[KV,zU];exact A
def EG(A B:List (Nat×Nat))(n:Nat):Bool:=gY n A||gY n B
def Ei(l:List (Nat×Nat)):List Nat:=l.flatMap fun s=>[s.1,s.2]
theorem GW(l:List (Nat×Nat)):(Ei l).length=l.length*2:=by
 induction l with
 |nil=>rfl
 |cons a l b=>unfold Ei at*;rw[List.flatMap_cons,zU,b,zM];simp only[zM,xA];omega
theorem q8(l:List (Nat×Nat))(x:Nat):x∈Ei l↔∃s∈l,x=s.1\/x=s.2:=by
 unfold Ei;rw[xP];simp
theorem SI(l:List (Nat×Nat)):Sw (OP (Ei l))=eds l:=by
 obtain⟨a,b⟩:=aBi (Ei l);refine XY a (BC l) fun x=>?_;rw[b,q8,nW]
theorem aE7(p q:Bool)(w:World):Calls zB 203 #[.bool p,.bool q] w (GP (.bool (p||q)) w):=by
 have a:=zA (zD w.heap.size w);cases p<;>cases q<;>
 ·go_enter Tryz.func203,Tryz.ntmps203;go_wp2_with fail
  go_ret;exact⟨rfl,a.out⟩
structure Two (w5 w':World) (x y:Nat):Prop where
 os:w'.os=w5.os
 tape:w'.tape=w5.tape
 output:w'.output=w5.output
 size:w5.heap.size<=w'.heap.size
 block:∀k,k<w5.heap.size->k≠x->k≠y->w'.heap[k]? =w5.heap[k]?
theorem Two.refl(w:World)(x y:Nat):Two w w x y:=⟨rfl,rfl,rfl,zC _,fun _ _ _ _=>rfl⟩
theorem Two.grown{b w1 g:World}{x y:Nat}{row:Option Nat}(h:Two b w1 x y)(a:w1.grownBy g row)(i:∀k,row=some k->k=x\/k=y\/b.heap.size<=k):Two b g x y:=
 ⟨a.os.trans h.os,a.tape.trans h.tape,a.output.trans h.output,zJ h.size a.size,fun k c d f=>(a.block k (zT c h.size) (fun e=>by
  rcases i k e.symm with h4|h4|h4
  ·exact d h4
  ·exact f h4
  ·omega)).trans (h.block k c d f)⟩
theorem Two.below{w c w':World}{x y:Nat}(h:Two c w' x y)(a:Below w.heap.size w c)(d:w.heap.size<=x)(e:w.heap.size<=y):Below w.heap.size w w':=
 ⟨h.os.trans a.os,h.tape.trans a.tape,h.output.trans a.output,zJ a.size h.size,fun k b=>(h.block k (zT b a.size) (by omega) (by omega)).trans (a.block k b)⟩
theorem Vj(a:Nat->Bool)(R:List (Nat×Nat)):∀E:List Nat,E.length<=1->dX a E R=R
 | [],_=>rfl
 | [_],_=>rfl
 |_::_::_,h=>by simp at h
def BxS(w:World)(b:Nat)(A:List (Nat×Nat))(N:Nat)(wr:World):Prop:=
 ∃u l,IV wr b u/\Sub2 wr u l/\(∀M,N<=M->eQ M l=eQ M A)/\l.length<=A.length/\(∀s∈l,s∈A)/\(∀k,u.ownBlock=some k->k<w.heap.size)
theorem BxS.mono{w wr:World}{b N a:Nat}{A:List (Nat×Nat)}(h:BxS w b A N wr)(hN:N<=a):BxS w b A a wr:=by
 obtain⟨u,l,c,d,e,f⟩:=h;exact⟨u,l,c,d,fun M g=>e M (zJ hN g),f⟩
theorem BxS.grown{w wr w':World}{b N:Nat}{A:List (Nat×Nat)}{row:Option Nat}(h:BxS w b A N wr)(c:wr.grownBy w' row)(m:some b≠row)(n:∀k,row=some k->w.heap.size<=k):BxS w b A N w':=by
 obtain⟨u,l,d,f,g,i,j,a⟩:=h;exact⟨u,l,d.kept c m,f.kept c (fun k o e=>by have:=n k e.symm;have:=a k o;omega),g,i,j,a⟩
theorem ED{n:Nat}:∀{l:List (Nat×Nat)},∀s∈eQ n l,s∈l
 | [],s,h=>h
 |a::l,s,h=>by
  unfold eQ at h;split at h
  ·exact zF _ (ED s h)
  ·exact h
theorem EA(n:Nat):∀l:List (Nat×Nat),(eQ n l).length<=l.length
 | []=>zC _
 |a::l=>by
  unfold eQ;split
  ·have:=EA n l;simp only[zM];omega
  ·exact zC _
theorem PQ{n:Nat}{l m:List (Nat×Nat)}(h:eQ n l=eQ n m):gY n l=gY n m:=by
 unfold gY;rw[h]
structure CbS (w w5:World) (A B O:List (Nat×Nat)) (E:List Nat) (v7 v10:Value) (N:Nat) (wr:World):Prop where
 xa:BxS w w.heap.size A N wr
 xb:BxS w (w.heap.size+1) B N wr
 gr:Two w5 wr w.heap.size (w.heap.size+1)
 own:FX wr w5.heap.size v10 O
 eds:RI wr (w.heap.size+2) v7 E
 l7:∀k,v7.ownBlock=some k->k<w5.heap.size
 l5:w.heap.size+2<=w5.heap.size
theorem CbS.mono{w b wr:World}{A B O:List (Nat×Nat)}{E:List Nat}{v7 v10:Value}{N a:Nat}(h:CbS w b A B O E v7 v10 N wr)(hN:N<=a):CbS w b A B O E v7 v10 a wr:=
 ⟨h.xa.mono hN,h.xb.mono hN,h.gr,h.own,h.eds,h.l7,h.l5⟩
theorem Ed(w:World):w.grownBy w.drew none:=⟨rfl,rfl,rfl,zC _,fun _ _ _=>rfl⟩
theorem CbS.grown{w f wr w':World}{A B O g:List (Nat×Nat)}{E:List Nat}{v7 v10 a:Value}{N:Nat}{row:Option Nat}(h:CbS w f A B O E v7 v10 N wr)(d:wr.grownBy w' row)(b:∀k,row=some k->f.heap.size<=k)(i:FX w' f.heap.size a g):CbS w f A B g E v7 a N w':=by
 have j:=h.l5;exact⟨h.xa.grown d (fun e=>by have:=b _ e.symm;omega) (fun k c=>by have:=b _ c;omega),h.xb.grown d (fun e=>by have:=b _ e.symm;omega) (fun k c=>by have:=b _ c;omega),h.gr.grown d (fun k c=>.inr (.inr (b k c))),i,
  h.eds.kept d (by
   rcases hq:v7.ownBlock with _|k
   ·exact .inl rfl
   ·refine .inr fun e=>?_;have:=b k e.symm;have:=h.l7 k hq;omega),h.l7,h.l5⟩
theorem CbS.drew{w a wr:World}{A B O:List (Nat×Nat)}{E:List Nat}{v7 v10:Value}{N:Nat}(h:CbS w a A B O E v7 v10 N wr):CbS w a A B O E v7 v10 N wr.drew:=h.grown (Ed wr) (fun k b=>by cases b) h.own
theorem CbS.alloc{w a wr:World}{A B O:List (Nat×Nat)}{E:List Nat}{v7 v10:Value}{N:Nat}(h:CbS w a A B O E v7 v10 N wr)(o:Obj):CbS w a A B O E v7 v10 N (wr.alloc o):=
 h.grown (World.grownBy_alloc wr o none) (fun k b=>by cases b) (h.own.next (Below.new o))
theorem CbS.cellE{w l wr:World}{A B O:List (Nat×Nat)}{E:List Nat}{v10:Value}{N c k a j x:Nat}(h:CbS w l A B O E (.slice (some ⟨c,0,none⟩) k a) v10 N wr)(i:E[j]? =some x):wr.cell? ⟨c,j,none⟩=some (jI jJ (x:Int)):=by
 obtain⟨g,d,f,_,_,e⟩:=h.eds.num i;injection f with b;injection b with b;injection b with b;subst b;exact e
theorem CbS.next{w b wr w':World}{A B O:List (Nat×Nat)}{E:List Nat}{v7 v10:Value}{N:Nat}(h:CbS w b A B O E v7 v10 N wr)(a:Below wr.heap.size wr w'):CbS w b A B O E v7 v10 N w':=
 h.grown (Below.grows a) (fun k c=>by cases c) (h.own.next a)
theorem Jf{w d W w':World}{A B O:List (Nat×Nat)}{E:List Nat}{v7 v10:Value}{N:Nat}{a b:Addr}{X Y:Value}(h:(W.cell? a=some X/\W.cell? b=some Y)/\CbS w d A B O E v7 v10 N W)(c:Below W.heap.size W w'):(w'.cell? a=some X/\w'.cell? b=some Y)/\CbS w d A B O E v7 v10 N w':=
 ⟨⟨(c.cell (World.block_lt_of_cell? W _ h.1.1)).trans h.1.1,(c.cell (World.block_lt_of_cell? W _ h.1.2)).trans h.1.2⟩,h.2.next c⟩
theorem Je{w c W:World}{A B O:List (Nat×Nat)}{E:List Nat}{v7 v10:Value}{N:Nat}{a b:Addr}{X Y:Value}(h:(W.cell? a=some X/\W.cell? b=some Y)/\CbS w c A B O E v7 v10 N W):(W.drew.cell? a=some X/\W.drew.cell? b=some Y)/\CbS w c A B O E v7 v10 N W.drew:=Jf h (zD _ _).drew
theorem Uq{w c W:World}{A B O:List (Nat×Nat)}{E:List Nat}{v7 v10:Value}{N:Nat}{a b:Addr}{X Y:Value}(h:(W.cell? a=some X/\W.cell? b=some Y)/\CbS w c A B O E v7 v10 N W)(o:Obj):((W.alloc o).cell? a=some X/\(W.alloc o).cell? b=some Y)/\CbS w c A B O E v7 v10 N (W.alloc o):=Jf h (Below.new o)
theorem XW:∀(j:Nat) {l:List Nat},FW l->FW (l.drop j)
 | 0,_,h=>h
 |_+1,[],h=>h
 |j+1,_::_,h=>XW j h.tail
def mgE:List (Nat×Nat)->Nat->Bool
 | [],_=>false
 |s::_,x=>decide (s.2=x)
theorem Sub2.of{w:World}{v:Value}{l:List (Nat×Nat)}{B:Nat}(h:FX w B v l):Sub2 w v l:=
 ⟨h.slice,fun i s d=>by
  obtain⟨g,a,e,_,m,f,c1⟩:=h.spa d;have k:l.length<=a:=by
   rcases h.2 with⟨_,o⟩|⟨n,c,j,b,_,_,p,_⟩
   ·have:=(List.getElem?_eq_some_iff.1 d).1;omega
   ·rw[e]at b;injection b with _ _ b;omega
  exact⟨g,0,a,e,m,k,by rw[qP];exact f,by rw[qP];exact c1⟩⟩
theorem aAc{w y wr:World}{A B O:List (Nat×Nat)}{E:List Nat}{v7 v10:Value}{N:Nat}(h:CbS w y A B O E v7 v10 N wr)(G:∀s∈A,s.1<=8589934592/\s.2<=8589934592)(L:A.length<=4000)(H:∀s∈B,s.1<=8589934592/\s.2<=8589934592)(Q:B.length<=4000)(hN:N<=8589934592):
  (Calls zB 280 #[.pointer (some ⟨w.heap.size,0,none⟩),jI jJ (N:Int)] wr fun e w'=>e=.returned (.bool (gY N A))/\CbS w y A B O E v7 v10 N w')/\
  (Calls zB 280 #[.pointer (some ⟨w.heap.size+1,0,none⟩),jI jJ (N:Int)] wr fun e w'=>e=.returned (.bool (gY N B))/\CbS w y A B O E v7 v10 N w'):=by
 have D:=h.l5;have keep:∀{b:Nat} {w':World},wr.grownBy w' (some b)->b<w.heap.size+2->(∀{e:TypeId} {α:Type} {m:Elem α} {C:Nat} {v:Value} {l:List α},bT m e wr C v l->w.heap.size+2<=C->bT m e w' C v l):=by
  intro b w' I K e α m C v l z J;refine z.kept I ?_;rcases hq:v.ownBlock with _|k
  ·exact .inl rfl
  ·refine .inr fun e=>?_;have:=(z.lt k hq).1;have:k=b:=zL.inj e;omega
 constructor
 ·obtain⟨u,l,n,o,f,p,g,i⟩:=h.xa;refine(Jz n o (fun e=>by have:=i _ e;omega) (by omega) (by omega) (fun s d=>by have:=G s (g s d);omega)).mono ?_;rintro e w' ⟨rfl,x,q,r,a,t⟩;refine⟨by rw[PQ (f N (zC _))],⟨⟨x,_,q,r,fun M j=>by rw[drop_drop j];exact f M j,zJ (EA _ _) p,fun s d=>g s (ED s d),by rw[t];exact i⟩,h.xb.grown a (by simp) (fun k c=>by cases c;exact zC _),h.gr.grown a (fun k c=>by cases c;exact .inl rfl),keep a (by omega) h.own D,keep a (by omega) h.eds (zC _),h.l7,h.l5⟩⟩
 ·obtain⟨u,l,n,o,f,p,g,i⟩:=h.xb;refine(Jz n o (fun e=>by have:=i _ e;omega) (by omega) (by omega) (fun s d=>by have:=H s (g s d);omega)).mono ?_;rintro e w' ⟨rfl,x,q,r,a,t⟩;refine⟨by rw[PQ (f N (zC _))],⟨h.xa.grown a (by simp) (fun k c=>by cases c;omega),⟨x,_,q,r,fun M j=>by rw[drop_drop j];exact f M j,zJ (EA _ _) p,fun s d=>g s (ED s d),by rw[t];exact i⟩,h.gr.grown a (fun k c=>by cases c;exact .inr (.inl rfl)),keep a (by omega) h.own D,keep a (by omega) h.eds (zC _),h.l7,h.l5⟩⟩
end
end Go.Proofs.YtlbklncoihhfcaaGreatDoor
