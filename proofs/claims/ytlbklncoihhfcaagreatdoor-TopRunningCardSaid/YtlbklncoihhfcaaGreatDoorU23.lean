/-
  TopRunning: what its walk needs. slices.ContainsFunc over cells with TopRunning's closure. TopRunning behind its first loop: what running.Steps and running.Fix are given. TopRunning. The walk..
-/
import Derived.Test.YtlbklncoihhfcaaGreatDoorU19
import Derived.Test.YtlbklncoihhfcaaGreatDoorU22
import Derived.Test.YtlbklncoihhfcaaGreatDoorU18
import Derived.Test.YtlbklncoihhfcaaGreatDoorU5
set_option maxRecDepth 100000
set_option maxHeartbeats 4000000
open Go.RowKit.Below renaming drew→xO,heap_alloc→zW,refl→zD
open _root_.Int renaming le_refl→zV
open Go.Lib renaming hid→zA
open _root_.List renaming drop_succ_cons→yE,drop_zero→xK,map_append→acJ,mem_cons→zI,mem_map→adQ,mem_range→xW,not_mem_nil→abQ,range→qL
open _root_.Nat renaming le_refl→zC,le_trans→zJ,zero_le→zO
open _root_.Option renaming some→zL
open Go.Proofs.Tryz renaming prog→zB
open Go.World renaming setCell→qK,size_alloc→qF
open Go.IntKind (i64 u64)
open Go.Value renaming int→jI
open Go.IntKind renaming i64→jJ
open Go.Obj renaming cells→jC
namespace Go.Proofs.YtlbklncoihhfcaaGreatDoor
section
open Go.RowKit Go.Sort Go.Shelf Rg
open Ev (aF)
attribute [local instance] nP
attribute [local go_sem] Oper.semAt_some
attribute [local go_sem] FS
structure SigAt (w:World) (bS off:Nat) (i:Nat) (s:Sig):Prop where
 d0:w.cell? ⟨bS,off+i*7,none⟩=some (jI jJ s.dec)
 d1:w.cell? ⟨bS,off+i*7+1,none⟩=some (jI jJ s.gha)
 d2:w.cell? ⟨bS,off+i*7+2,none⟩=some (jI jJ s.noi)
 d3:w.cell? ⟨bS,off+i*7+3,none⟩=some (jI jJ s.leg.1)
 d4:w.cell? ⟨bS,off+i*7+4,none⟩=some (jI jJ s.leg.2.1)
 d5:w.cell? ⟨bS,off+i*7+5,none⟩=some (jI jJ s.leg.2.2.1)
 d6:w.cell? ⟨bS,off+i*7+6,none⟩=some (jI jJ s.leg.2.2.2)
theorem SigAt.next{w w':World}{b off i:Nat}{s:Sig}(k:SigAt w b off i s)(c:Below w.heap.size w w'):SigAt w' b off i s:=by
 have h:∀{a:Addr} {v:Value},w.cell? a=some v->w'.cell? a=some v:=fun {a v} h=>(c.cell (p:=a) (World.block_lt_of_cell? w _ h)).trans h;exact⟨h k.d0,h k.d1,h k.d2,h k.d3,h k.d4,h k.d5,h k.d6⟩
structure LoI (w:World) (b11 b12 n:Nat) (a c:Int) (s:Nat->Sig) (i:Nat) (v9 v10:Value) (wr:World):Prop where
 le:i<n
 cir:bT oS 49 wr w.heap.size v9 ((qL i).map (Oo s (a,a,c,c)))
 run:∃S,bT SK 56 wr w.heap.size v10 S/\S.length=i/\∀j sl,S[j]? =some sl->bT pK 37 wr w.heap.size (.slice sl.1 sl.2.1 sl.2.2) [(s j).leg]
 here:wr.heap[b11]? =some (Obj.cells #[jI jJ (oP s (a,a,c,c) i).1,jI jJ (oP s (a,a,c,c) i).2.1,jI jJ (oP s (a,a,c,c) i).2.2.1,jI jJ (oP s (a,a,c,c) i).2.2.2] 33 (0,0))
 pls:∃v12,wr.heap[b12]? =some (Obj.cells #[v12] 35 (0,0))/\bT pK 33 wr w.heap.size v12 ((qL (i+1)).map (oP s (a,a,c,c)))/\v12.ownBlock≠some b11
 pt:wr.heap[w.heap.size]? =some (Obj.cells #[jI jJ a,jI jJ c] 23 (0,0))
 bel:Below w.heap.size w wr
 sig:∀j,j<i->SgOk (s j).dec (s j).gha (s j).noi/\lX (s j).leg
 way:∀j,j<i->(OI (oP s (a,a,c,c) j) (s j).leg).2.2.2.2=0
theorem LoI.next{w wr w':World}{d f n:Nat}{a c:Int}{s:Nat->Sig}{i:Nat}{l v10:Value}(h:LoI w d f n a c s i l v10 wr)(b:Below wr.heap.size wr w'):LoI w d f n a c s i l v10 w':=by
 have k:∀{x:Nat} {o:Obj},wr.heap[x]? =some o->w'.heap[x]? =some o:=fun {x o} e=>(b.block x (Array.getElem?_eq_some_iff.1 e).1).trans e;obtain⟨S,m,p,q⟩:=h.run;obtain⟨g,r,t,u⟩:=h.pls;exact⟨h.le,h.cir.next b,⟨S,m.next b,p,fun j v e=>(q j v e).next b⟩,k h.here,⟨g,k r,t.next b,u⟩,k h.pt,h.bel.trans (b.mono h.bel.size),h.sig,h.way⟩
def B7(w:World)(b:Nat)(x0 x1 x2 x3 x4 x5 x6:Int):Prop:=w.heap[b]? =some (Obj.cells #[jI jJ x0,jI jJ x1,jI jJ x2,jI jJ x3,jI jJ x4,jI jJ x5,jI jJ x6] 39 (0,0))
theorem B7.next{w w':World}{b:Nat}{a x1 x2 c d e f:Int}(h:B7 w b a x1 x2 c d e f)(g:Below w.heap.size w w'):B7 w' b a x1 x2 c d e f:=(g.block b (Array.getElem?_eq_some_iff.1 h).1).trans h
theorem B7.keep{w:World}{b:Nat}{a x1 x2 c d e f:Int}(h:B7 w b a x1 x2 c d e f):w.cell? ⟨b,0,none⟩=some (jI jJ a)/\w.cell? ⟨b,1,none⟩=some (jI jJ x1)/\w.cell? ⟨b,2,none⟩=some (jI jJ x2)/\w.cell? ⟨b,3,none⟩=some (jI jJ c)/\w.cell? ⟨b,4,none⟩=some (jI jJ d)/\w.cell? ⟨b,5,none⟩=some (jI jJ e)/\w.cell? ⟨b,6,none⟩=some (jI jJ f):=by
 unfold B7 at h;simp[World.cell?,h]
theorem aDI{a b c d:Int}(h:E5 a b c d=true)(e:d<=300000):lX (a,b,c,d):=by
 unfold E5 at h;simp only[Bool.cond_false_right,Bool.and_eq_true,decide_eq_true_eq]at h;exact⟨aW (a:=a) (b:=b) (by omega) (by omega) (by omega),by show 0<=c;omega,by show c<=d;omega,e⟩
theorem S4{a b G:Int}(d:-100000000<=a)(c:a<=b)(e:b<=100000000)(g:0<=G/\G<21600000):UN a b G G=(a+G,b+G,0):=by
 unfold UN MS sC;rw[if_pos ⟨aW (by omega) c (by omega),aW (by omega) (zV G) (by omega)⟩,if_pos ⟨decide_eq_true (by omega),decide_eq_true (by omega)⟩]
theorem V9{q:cF}{D G n:Int}(c:PlOk q)(d:SgOk D G n):Jb q.1 q.2.1 D D (q.2.2.1+G) (q.2.2.2+G)=sF q D G:=by
 have i:=iC c.lon;have a:=c.lat;have b:=d.dec;have h:=d.gha;have e:=oO a.1 a.2.1 a.2.2;have f:=oO b.1 (zV D) b.2;have g:aB (q.2.2.1+G) (q.2.2.2+G)=true:=aW (by omega) (by omega) (by omega);unfold Jb RT Ax sF;rw[e,f,g,V8 e f g];rfl
theorem aCP{q:cF}{D G n:Int}(d:PlOk q)(a:SgOk D G n):W8 (Bq q D G n) (Bp q D G n) G G D D 0 0 0 0=((EV q D G n).1,(EV q D G n).2.1,(EV q D G n).2.2.1,(EV q D G n).2.2.2.1,(EV q D G n).2.2.2.2.1,(EV q D G n).2.2.2.2.2,0):=by
 obtain⟨_,e,f,h⟩:=RO d a;have c:=a.dec;have k:=a.gha;have l:=a.noi;have i:Bq q D G n<=(sF q D G).1/\-5400000<=Bq q D G n:=by unfold Bq;omega
 have j:(sF q D G).2.1<=Bp q D G n/\Bp q D G n<=5400000:=by unfold Bp;omega
 unfold EV;generalize Bq q D G n=lo at*;generalize Bp q D G n=hi at*;have m:=rI (-G);have b:FF (-G) (-G)=(AE (-G),AE (-G)):=by
  unfold FF RW;rw[bZ (x:=-G- -G) (by omega),CO (by omega)];generalize AE (-G)=g at*;rw[decide_eq_false (show ¬(-G- -G:Int)>=21600000 by omega),cond_false,bZ (x:=g+-G) (by omega),bZ (x:=g+-G- -G) (by omega),show g+-G- -G=g by omega]
 unfold W8 Jh Ji;rw[aW (show -1099511627776<=lo by omega) (show lo<=hi by omega) (by omega),aW (show -1099511627776<=G by omega) (zV G) (by omega),mL c.1 (zV D) c.2 (.inr ⟨by omega,by omega,by omega,by omega⟩),decide_eq_false (show ¬lo< -5400000 by omega),decide_eq_false (show ¬hi>5400000 by omega),bZ (x:=0-G) (by omega),show(0-G:Int)=-G by omega,b,bZ (x:=5400000-hi) (by omega),bZ (x:=5400000-lo) (by omega)];rfl
theorem aDM{a c:Int}(h:F8 a c=true):-10800000<=c/\c<10800000:=by
 unfold F8 Rv at h;simp only[Bool.cond_false_right,Bool.and_eq_true,decide_eq_true_eq]at h;omega
def JA(F:Nat->Act)(C:Nat->World->Prop)(e:Exit)(a:Act)(W:World):Prop:=∃b,e=.normal/\a=F b/\C b W
theorem JA.no{F:Nat->Act}{C:Nat->World->Prop}{x:List PanicEntry}{a:Act}{W:World}{p:Prop}(h:JA F C (.panic x) a W):p:=by
 obtain⟨_,b,_⟩:=h;cases b
theorem cY{P:Program}{md:Region.Mode}{ops:Array Oper}{F:Nat->Act}{C:Nat->World->Prop}{i:Nat}{c:Oper}{v:Value}{fuel:Nat}{b:Array Bool}{a:Act}{w:World}(hi:ops[i]? =some c)
  (g:Yields P ops c v a)(h:wpAny P md ops (JA F C) fuel (b.setIfInBounds i true) (a.put c.dst v) w)(f:Region.noSelect ops=true:=by kernel_rfl)(d:Region.free md ops b i=true:=by kernel_rfl)(e:(Region.ready md ops b).contains i=true:=by kernel_rfl):wpAny P md ops (JA F C) (fuel+1) b a w:=
 wpAny_take hi f d e (fun _ _ _ h=>h.no) g h
theorem AC{e:Nat}{P:Program}{l:Array Oper}{d:Bool}{F:Nat->Act}{Q:Exit->Act->World->Prop}{a:Act}{w:World}(C:Nat->World->Prop)(h:(Code.region e l d).wp P (JA F C) a w)
  (k:∀b c,C b c->Q .normal (F b) c):(Code.region e l d).wp P Q a w:=
 wp_mono h fun _ _ _ ⟨b,i,f,g⟩=>by
  subst i f;exact k b _ g
theorem nH{P:Program}{f:FuncId}{args:Array Value}{V:Value}(h:∀w,Calls P f args w (GP V w))(W:World):∀d os,Calls P f args (grow (redrawn W d) os) (fun e a=>e=.returned V/\Gro (grow (redrawn W d) os) a):=fun _ _=>h _
theorem B2.set2{w:World}{t:TypeId}{g:Nat}{a b:Int}(h:B2 w t g a b)(x y:Int):B2 ((w.setCell ⟨g,0,none⟩ (jI jJ x)).setCell ⟨g,1,none⟩ (jI jJ y)) t g x y:=by
 unfold B2 at*;simp[qK,Array.getElem?_modify,h]
def B6(w:World)(t:TypeId)(g:Nat)(a b c d e f:Int):Prop:=w.heap[g]? =some (Obj.cells #[jI jJ a,jI jJ b,jI jJ c,jI jJ d,jI jJ e,jI jJ f] t (0,0))
theorem B6.set6{w:World}{t:TypeId}{g:Nat}{a b c d e f:Int}(h:B6 w t g a b c d e f)(i x1 x2 j k l:Int):B6 ((((((w.setCell ⟨g,0,none⟩ (jI jJ i)).setCell ⟨g,1,none⟩ (jI jJ x1)).setCell ⟨g,2,none⟩ (jI jJ x2)).setCell ⟨g,3,none⟩ (jI jJ j)).setCell ⟨g,4,none⟩ (jI jJ k)).setCell ⟨g,5,none⟩ (jI jJ l)) t g i x1 x2 j k l:=by
 unfold B6 at*;simp[qK,Array.getElem?_modify,h]
theorem B6.keep{w:World}{t:TypeId}{g:Nat}{a x1 x2 b c d:Int}(h:B6 w t g a x1 x2 b c d):(w.cell? ⟨g,0,none⟩=some (jI jJ a)/\w.cell? ⟨g,1,none⟩=some (jI jJ x1)/\w.cell? ⟨g,2,none⟩=some (jI jJ x2)/\w.cell? ⟨g,3,none⟩=some (jI jJ b)/\w.cell? ⟨g,4,none⟩=some (jI jJ c)/\w.cell? ⟨g,5,none⟩=some (jI jJ d))/\
  w.frozen? ⟨g,0,none⟩=false/\w.frozen? ⟨g,1,none⟩=false/\w.frozen? ⟨g,2,none⟩=false/\w.frozen? ⟨g,3,none⟩=false/\w.frozen? ⟨g,4,none⟩=false/\w.frozen? ⟨g,5,none⟩=false:=by
 unfold B6 at h;refine⟨⟨?_,?_,?_,?_,?_,?_⟩,?_,?_,?_,?_,?_,?_⟩<;>simp[World.cell?,World.frozen?,h]
def OB(w:World)(x y:Int)(b:Nat)(W':World):Prop:=Below w.heap.size w W'/\w.heap.size<=b/\B2 W' 31 b x y
def Br(w:World)(c:fT)(b:Nat)(W':World):Prop:=Below w.heap.size w W'/\w.heap.size<=b/\B6 W' 49 b c.1 c.2.1 c.2.2.1 c.2.2.2.1 c.2.2.2.2.1 c.2.2.2.2.2
theorem OB.old{w W:World}{b:Nat}(x y:Int)(h:Below w.heap.size w W)(a:w.heap.size<=b)(c:W.heap[b]? =some (Obj.cells #[jI jJ 0,jI jJ 0] 31 (0,0))):OB w x y b ((W.setCell ⟨b,0,none⟩ (jI jJ x)).setCell ⟨b,1,none⟩ (jI jJ y)):=
 ⟨(h.setCell (p:=⟨b,0,none⟩) a _).setCell (p:=⟨b,1,none⟩) a _,a,B2.set2 (show B2 W 31 b 0 0 from c) x y⟩
theorem OB.new{w W:World}(x y:Int)(h:Below w.heap.size w W):OB w x y W.heap.size (W.alloc (jC #[jI jJ x,jI jJ y] 31)):=⟨h.alloc h.size _,h.size,heap_alloc_new W _⟩
theorem Br.old{w W:World}{b:Nat}(c:fT)(h:Below w.heap.size w W)(a:w.heap.size<=b)(d:W.heap[b]? =some (Obj.cells #[jI jJ 0,jI jJ 0,jI jJ 0,jI jJ 0,jI jJ 0,jI jJ 0] 49 (0,0))):
  Br w c b ((((((W.setCell ⟨b,0,none⟩ (jI jJ c.1)).setCell ⟨b,1,none⟩ (jI jJ c.2.1)).setCell ⟨b,2,none⟩ (jI jJ c.2.2.1)).setCell ⟨b,3,none⟩ (jI jJ c.2.2.2.1)).setCell ⟨b,4,none⟩ (jI jJ c.2.2.2.2.1)).setCell ⟨b,5,none⟩ (jI jJ c.2.2.2.2.2)):=
 ⟨(((((h.setCell (p:=⟨b,0,none⟩) a _).setCell (p:=⟨b,1,none⟩) a _).setCell (p:=⟨b,2,none⟩) a _).setCell (p:=⟨b,3,none⟩) a _).setCell (p:=⟨b,4,none⟩) a _).setCell (p:=⟨b,5,none⟩) a _,a,B6.set6 (show B6 W 49 b 0 0 0 0 0 0 from d) _ _ _ _ _ _⟩
theorem Br.new{w W:World}(c:fT)(h:Below w.heap.size w W):Br w c W.heap.size (W.alloc (jC #[jI jJ c.1,jI jJ c.2.1,jI jJ c.2.2.1,jI jJ c.2.2.2.1,jI jJ c.2.2.2.2.1,jI jJ c.2.2.2.2.2] 49)):=⟨h.alloc h.size _,h.size,heap_alloc_new W _⟩
structure KpE (e:TypeId) (W W':World):Prop where
 size:W.heap.size<=W'.heap.size
 same:∀(k:Nat) (vs:Array Value) (t:TypeId) (r:Nat×Nat),W.heap[k]? =some (Obj.cells vs t r)->t≠e->W'.heap[k]? =some (Obj.cells vs t r)
theorem KpE.below{e:TypeId}{W a:World}(h:Below W.heap.size W a):KpE e W a:=⟨h.size,fun k _ _ _ b _=>(h.block k (Array.getElem?_eq_some_iff.1 b).1).trans b⟩
theorem KpE.row{α:Type}{E:Elem α}{e:TypeId}{W d:World}{B:Nat}{v:Value}{l:List α}(m:bT E e W B v l)(h:W.grownBy d v.ownBlock):KpE e W d:=
 ⟨h.size,fun k o t r c n=>(h.block k (Array.getElem?_eq_some_iff.1 c).1 (fun a=>by
  rcases m.2 with⟨b,_⟩|⟨g,i,j,b,_,f,_⟩
  ·rw[b]at a;cases a
  ·rw[b]at a;simp only[Value.ownBlock,zL.injEq]at a;subst a;rw[c]at f;cases f;exact n rfl)).trans c⟩
theorem bT.kpe{α:Type}{E:Elem α}{e e':TypeId}{w w':World}{B:Nat}{v:Value}{l:List α}(h:bT E e w B v l)(i:e≠e')(k:KpE e' w w'):bT E e w' B v l:=by
 obtain⟨a,b⟩:=h;refine⟨a,?_⟩;rcases b with b|⟨g,c,d,m,f,j,r⟩
 ·exact .inl b
 ·exact .inr ⟨g,c,d,m,f,k.same g _ _ _ j i,r⟩
theorem Vd:(zB.info? 49).map (fun i=>(i.zero,i.size,i.bytes))=some (some (.agg #[jI jJ 0,jI jJ 0,jI jJ 0,jI jJ 0,jI jJ 0,jI jJ 0]),6,48):=by kernel_rfl
theorem Qd:(zB.info? 56).map (fun i=>(i.zero,i.size,i.bytes))=some (some (.slice none 0 0),1,24):=by kernel_rfl
structure LoC (w:World) (b11 b12 n:Nat) (a c:Int) (s:Nat->Sig) (i:Nat) (v9 v10:Value) (wr:World):Prop where
 le:i<n
 cir:bT oS 49 wr w.heap.size v9 ((qL (i+1)).map (Oo s (a,a,c,c)))
 run:∃S,bT SK 56 wr w.heap.size v10 S/\S.length=i/\∀j sl,S[j]? =some sl->bT pK 37 wr w.heap.size (.slice sl.1 sl.2.1 sl.2.2) [(s j).leg]
 here:wr.heap[b11]? =some (Obj.cells #[jI jJ (oP s (a,a,c,c) i).1,jI jJ (oP s (a,a,c,c) i).2.1,jI jJ (oP s (a,a,c,c) i).2.2.1,jI jJ (oP s (a,a,c,c) i).2.2.2] 33 (0,0))
 pls:∃v12,wr.heap[b12]? =some (Obj.cells #[v12] 35 (0,0))/\bT pK 33 wr w.heap.size v12 ((qL (i+1)).map (oP s (a,a,c,c)))/\v12.ownBlock≠some b11
 pt:wr.heap[w.heap.size]? =some (Obj.cells #[jI jJ a,jI jJ c] 23 (0,0))
 bel:Below w.heap.size w wr
 sig:SigOk s a c (i+1)
theorem LoC.of{w W w':World}{b d n:Nat}{a c:Int}{s:Nat->Sig}{i:Nat}{l v9' v10:Value}(h:LoI w b d n a c s i l v10 W)(t:SigOk s a c (i+1))(r:bT oS 49 w' w.heap.size v9' ((qL i).map (Oo s (a,a,c,c))++[Oo s (a,a,c,c) i]))(g:W.grownBy w' l.ownBlock):LoC w b d n a c s i v9' v10 w':=by
 have k:=KpE.row h.cir g;obtain⟨S,m,o,p⟩:=h.run;obtain⟨f,u,v,x⟩:=h.pls;exact⟨h.le,by rw[List.range_succ,acJ];exact r,⟨S,m.kpe (by decide) k,o,fun j y e=>(p j y e).kpe (by decide) k⟩,k.same _ _ _ _ h.here (by decide),⟨f,k.same _ _ _ _ u (by decide),v.kpe (by decide) k,x⟩,k.same _ _ _ _ h.pt (by decide),
  h.bel.grown g h.bel.size (fun k q=>(h.cir.lt k q).1),t⟩
theorem LoC.next{w wr w':World}{d f n:Nat}{a c:Int}{s:Nat->Sig}{i:Nat}{l v10:Value}(h:LoC w d f n a c s i l v10 wr)(b:Below wr.heap.size wr w'):LoC w d f n a c s i l v10 w':=by
 have k:∀{x:Nat} {o:Obj},wr.heap[x]? =some o->w'.heap[x]? =some o:=fun {x o} e=>(b.block x (Array.getElem?_eq_some_iff.1 e).1).trans e;obtain⟨S,m,p,q⟩:=h.run;obtain⟨g,r,t,u⟩:=h.pls;exact⟨h.le,h.cir.next b,⟨S,m.next b,p,fun j v e=>(q j v e).next b⟩,k h.here,⟨g,k r,t.next b,u⟩,k h.pt,h.bel.trans (b.mono h.bel.size),h.sig⟩
theorem aEb{g:cF}(h:lX g):NA g.1 g.2.1 g.2.2.1 g.2.2.2=false:=by
 obtain⟨v,a,b,c⟩:=h;unfold NA;rw[v,decide_eq_false (show ¬g.2.2.1<0 by omega),decide_eq_false (show ¬g.2.2.1>g.2.2.2 by omega),decide_eq_false (show ¬g.2.2.2>21600000 by omega)];rfl
theorem aEI{q g:cF}(h:lX g)(a:PlOk q)(near:-5340000<=q.1/\q.2.1<=5340000):Ph q.1 q.2.1 q.2.2.1 q.2.2.2 g.1 g.2.1 g.2.2.1 g.2.2.2=true:=by
 obtain⟨v,b,c,d⟩:=h;unfold Ph nJ;rw[nZ a,v,decide_eq_true (show 0<=g.2.2.1/\g.2.2.1<=g.2.2.2/\g.2.2.2<=21600000 by omega)];simp[near.1,near.2]
theorem LoI.step{w W:World}{e f n:Nat}{a c:Int}{s:Nat->Sig}{i:Nat}{r d b:Value}{S:List sK}{sl:sK}(t:i+1<n)(q:SigOk s a c (i+1))(cir:bT oS 49 W w.heap.size r ((qL (i+1)).map (Oo s (a,a,c,c))))(run:bT SK 56 W w.heap.size d (S++[sl]))(p:S.length=i)
  (old:∀j sl,S[j]? =some sl->bT pK 37 W w.heap.size (.slice sl.1 sl.2.1 sl.2.2) [(s j).leg])(new:bT pK 37 W w.heap.size (.slice sl.1 sl.2.1 sl.2.2) [(s i).leg])
  (here:W.heap[e]? =some (Obj.cells #[jI jJ (oP s (a,a,c,c) (i+1)).1,jI jJ (oP s (a,a,c,c) (i+1)).2.1,jI jJ (oP s (a,a,c,c) (i+1)).2.2.1,jI jJ (oP s (a,a,c,c) (i+1)).2.2.2] 33 (0,0)))
  (pls:W.heap[f]? =some (Obj.cells #[b] 35 (0,0)))(m:bT pK 33 W w.heap.size b ((qL (i+1)).map (oP s (a,a,c,c))++[oP s (a,a,c,c) (i+1)]))(o:b.ownBlock≠some e)
  (u:W.heap[w.heap.size]? =some (Obj.cells #[jI jJ a,jI jJ c] 23 (0,0)))(bel:Below w.heap.size w W)(way:(OI (oP s (a,a,c,c) i) (s i).leg).2.2.2.2=0):LoI w e f n a c s (i+1) r d W:=
 ⟨t,cir,⟨S++[sl],run,by simp[p],fun j x g=>by
  by_cases k:j<S.length
  ·rw[List.getElem?_append_left k]at g;exact old j x g
  ·have l:j=S.length:=by
    have:=(List.getElem?_eq_some_iff.1 g).1;simp at this;omega
   subst l;rw[List.getElem?_concat_length]at g;cases g;rw[p];exact new⟩,here,⟨b,pls,by rw[List.range_succ (n:=i+1),acJ];exact m,o⟩,u,bel,fun j k=>q.sig j k,fun j k=>by
  by_cases h:j=i
  ·rw[h];exact way
  ·exact q.way j (by omega)⟩
theorem aDL{q g:cF}{l:Value}{w:World}(h:lX g)(j:PlOk q)(near:-5340000<=q.1/\q.2.1<=5340000)(i:bT pK 37 w 0 l [g]):Calls zB 12 #[QV q,l] w (RL (OI q g) w):=by
 have k:=aB8 (a:=q.1) (b:=q.2.1) (c:=q.2.2.1) (d:=q.2.2.2) (e:=g.1) (f:=g.2.1) (u:=g.2.2.1) (v:=g.2.2.2) (nZ j) i (aEb h) (aEI h j near);rw[OI];exact k
theorem NE{W:World}{g k:Nat}(h:k≠g)(x y z u:Value):((((W.setCell ⟨g,0,none⟩ x).setCell ⟨g,1,none⟩ y).setCell ⟨g,2,none⟩ z).setCell ⟨g,3,none⟩ u).heap[k]? =W.heap[k]? :=by
 simp[qK,Array.getElem?_modify,Ne.symm h]
theorem B4.set4{W:World}{g:Nat}{a b c d:Int}(h:B4 W g a b c d)(x y z u:Int):B4 ((((W.setCell ⟨g,0,none⟩ (jI jJ x)).setCell ⟨g,1,none⟩ (jI jJ y)).setCell ⟨g,2,none⟩ (jI jJ z)).setCell ⟨g,3,none⟩ (jI jJ u)) g x y z u:=by
 unfold B4 at*;simp[qK,Array.getElem?_modify,h]
theorem KpE.set4{W:World}{g:Nat}{a b c d:Int}(h:B4 W g a b c d)(x y z u:Value):KpE 33 W ((((W.setCell ⟨g,0,none⟩ x).setCell ⟨g,1,none⟩ y).setCell ⟨g,2,none⟩ z).setCell ⟨g,3,none⟩ u):=
 ⟨by simp[qK],fun k j t r f i=>by
  by_cases e:k=g
  ·subst e;rw[show W.heap[k]? =_ from h]at f;cases f;exact absurd rfl i
  ·rw[NE e];exact f⟩
theorem bT.set4{α:Type}{E:Elem α}{e:TypeId}{W:World}{B g:Nat}{v:Value}{l:List α}(h:bT E e W B v l)(f:v.ownBlock≠some g)(x y z u:Value):bT E e ((((W.setCell ⟨g,0,none⟩ x).setCell ⟨g,1,none⟩ y).setCell ⟨g,2,none⟩ z).setCell ⟨g,3,none⟩ u) B v l:=by
 obtain⟨a,b⟩:=h;refine⟨a,?_⟩;rcases b with b|⟨k,c,d,i,j,m,r⟩
 ·exact .inl b
 ·exact .inr ⟨k,c,d,i,j,(NE (fun e=>f (by rw[i,<-e];rfl)) x y z u).trans m,r⟩
theorem KpE.box{e:TypeId}{W:World}{b:Nat}{v:Value}(h:W.heap[b]? =some (Obj.cells #[v] e (0,0)))(u:Value):KpE e W (W.setCell ⟨b,0,none⟩ u):=
 ⟨by simp[qK],fun k d t r a c=>by
  by_cases e:k=b
  ·subst e;rw[h]at a;cases a;exact absurd rfl c
  ·simp[qK,Array.getElem?_modify,Ne.symm e];exact a⟩
theorem sZ{W:World}{b:Nat}{t:TypeId}{v:Value}(h:W.heap[b]? =some (Obj.cells #[v] t (0,0))):W.cell? ⟨b,0,none⟩=some v/\W.frozen? ⟨b,0,none⟩=false:=by
 constructor<;>simp[World.cell?,World.frozen?,h]
theorem V7{W:World}{b:Nat}{t:TypeId}{v:Value}(h:W.heap[b]? =some (Obj.cells #[v] t (0,0)))(u:Value):(W.setCell ⟨b,0,none⟩ u).heap[b]? =some (Obj.cells #[u] t (0,0)):=by
 simp[qK,Array.getElem?_modify,h]
end
section
open Go.RowKit Rg
open Ev (aF)
attribute [local instance] nP
attribute [local go_sem] Oper.semAt_some
theorem aAj{bs bi:Nat}{p:Rg.Blk->Bool}{L:List Rg.Blk}{v:Value}(K:L.length<=100000000)(w:World)(h:RC w 0 v L)(hF:∀c∈L,∀w1,Below w.heap.size w w1->Calls zB 15 #[dD c,.pointer (some ⟨bs,0,none⟩),.pointer (some ⟨bi,0,none⟩)] w1 (GP (.bool (p c)) w1)):
  Calls zB 34 #[v,.func (.func 15) #[] #[.pointer (some ⟨bs,0,none⟩),.pointer (some ⟨bi,0,none⟩)]] w (cE (L.any p) w):=by
 obtain⟨A,c,rfl⟩:=h.slice;have E:=zA h;have D:=zA hF;have s:=zA (zD w.heap.size w);clear h hF;go_enter Tryz.func34,Tryz.ntmps34;go_wp2_with fail
 go_loopw [8] (fun z wr=>∃i:Nat,i<=L.length/\z=jI jJ (i:Int)/\(L.take i).any p=false/\Below w.heap.size w wr) (fun z _=>L.length-(intOf z).toNat)
 case atStart=>exact⟨0,by omega,rfl,by simp,s.out⟩
 case round=>
  obtain⟨i,hi,rfl,n,a⟩:=hrel;have f:=zA n;clear n;by_cases m:i<L.length
  ·obtain⟨b,r⟩:∃b,L[i]? =some b:=⟨_,List.getElem?_eq_getElem m⟩;obtain⟨g,G,I,_,J,M,N,O,k,H,d1,d2⟩:=bT.cex (E.out.next a) r;cases I;have u:=zA (iO p r f.out);have q:=zA (D.out b (List.mem_of_getElem? r) wr a);obtain⟨y,o⟩:∃y,y=p b:=⟨_,rfl⟩;rw[<-o]at u q;unfold dD at q;rw[k]at q;have B:=zA a;clear a r k o;go_wp2_with fail
   refine q.out.mono ?_;rintro e w1 ⟨rfl,j⟩;have d:=zA (B.out.trans (j.mono B.out.size));clear j H d1 d2;cases y with
   |true=>
    have t:=zA (show cE (L.any p) w (.returned (jI jJ (i:Int))) w1 from⟨_,rfl,⟨fun _=>eC p u.out,fun _=>by omega⟩,d.out⟩);go_wp2_with fail
    go_ret;exact t.out
   |false=>
    go_wp2_with fail
    refine⟨⟨i+1,m,by go_num,u.out,d.out⟩,?_⟩;simp only[intOf];omega
  ·have x:i=L.length:=by omega
   have t:=zA (show cE (L.any p) w (.returned (jI jJ (-1))) wr from⟨_,rfl,⟨fun h=>absurd h (by decide),fun h=>by rw[<-List.take_length (l:=L),<-x,f.out]at h;exact absurd h (by decide)⟩,a⟩);clear a;go_wp2_with fail
   go_ret;exact t.out
theorem Z0{bs bi:Nat}{p:Rg.Blk->Bool}{L:List Rg.Blk}{v:Value}(k:L.length<=100000000)(w:World)(h:RC w 0 v L)(hF:∀c∈L,∀w1,Below w.heap.size w w1->Calls zB 15 #[dD c,.pointer (some ⟨bs,0,none⟩),.pointer (some ⟨bi,0,none⟩)] w1 (GP (.bool (p c)) w1)):
  Calls zB 14 #[v,.func (.func 15) #[] #[.pointer (some ⟨bs,0,none⟩),.pointer (some ⟨bi,0,none⟩)]] w (GP (.bool (L.any p)) w):=by
 have f:=zA (aAj k w h hF);obtain⟨A,c,rfl⟩:=h.slice;obtain⟨b,a⟩:∃b,b=L.any p:=⟨_,rfl⟩;rw[<-a]at f ⊢;clear h hF a;go_enter Tryz.func14,Tryz.ntmps14;go_wp2_with fail
 refine f.out.mono ?_;rintro e w1 ⟨i,rfl,hi,g⟩;have d:=zA g;clear g;cases b with
 |true=>
  have j:i>=0:=hi.2 rfl;go_wp2_with fail
  go_ret;exact⟨rfl,d.out⟩
 |false=>
  have j:¬i>=0:=fun h=>absurd (hi.1 h) (by decide);go_wp2_with fail
  go_ret;exact⟨rfl,d.out⟩
theorem Fo{q:cF}{L:List Rg.Blk}(f:PlOk q)(g:∀b∈L,b.l<=5/\b.n<2*4^b.l)(h:iF q L):L.any (fun b=>GB (qB b).1 (qB b).2.1 (qB b).2.2.1 (qB b).2.2.2 q.1 q.2.1 q.2.2.1 q.2.2.2)=true:=by
 obtain⟨y,x,⟨v,w,k,i,j⟩,b,c,hi⟩:=h;refine List.any_eq_true.2 ⟨b,c,?_⟩;obtain⟨a,e⟩:=g b c;obtain⟨r,s,t,u,_⟩:=SY a hi;have gr:=iB b a e;generalize qB b=Q at*;rw[TX];refine⟨by omega,?_⟩;rcases f.lon with h|⟨m,o,p,d⟩
 ·exact .inr (.inl h)
 ·exact Vi (x:=(x:Int)-10800000+21600000*k) (k:=-k) (.inr (by omega)) d ⟨i,j⟩ (by omega)
end
section
open Go.RowKit Go.Sort Go.Shelf Rg
open Ev (aF)
attribute [local instance] nP
theorem aBc{q:cF}{D G n:Int}(d:PlOk q)(a:SgOk D G n):kE (EV q D G n).1 (EV q D G n).2.1 (EV q D G n).2.2.1 (EV q D G n).2.2.2.1 (EV q D G n).2.2.2.2.1 (EV q D G n).2.2.2.2.2=true:=by
 obtain⟨_,e,f,h⟩:=RO d a;have b:=a.dec;have k:=a.noi;have i:Bq q D G n<=(sF q D G).1/\-5400000<=Bq q D G n:=by unfold Bq;omega
 have j:(sF q D G).2.1<=Bp q D G n/\Bp q D G n<=5400000:=by unfold Bp;omega
 have c:=rI (-G);unfold EV;dsimp only;generalize Bq q D G n=lo at*;generalize Bp q D G n=hi at*;generalize AE (-G)=g at*;unfold kE;rw[mL b.1 (zV D) b.2 (.inr ⟨c.1,c.2.1,zV g,by omega⟩),aW (show -1099511627776<=5400000-hi by omega) (show 5400000-hi<=5400000-lo by omega) (by omega),decide_eq_true (show 5400000-hi>=0 by omega),decide_eq_true (show 5400000-lo<=10800000 by omega)];rfl
theorem Jq(s:Nat->Sig)(p:cF)(m:Nat):(Vr s p m).length=m:=by unfold Vr;simp
theorem Vs{s:Nat->Sig}{p:cF}{m j:Nat}(h:j<m):(Vr s p m)[j]? =some (Oo s p j,leN s j):=by unfold Vr;simp[h]
theorem k7(s:Nat->Sig)(p:cF)(m:Nat):(Vr s p m).map (·.1)=(qL m).map (Oo s p):=by
 unfold Vr;rw[List.map_map];rfl
theorem aDe{s:Nat->Sig}{a c:Int}{n:Nat}(h:SigOk s a c n)(o:n<=3){p:cF}(k:PlOk p){l:Nat}(m:l<=5){S:List sK}(q:S.length+1=n):GivI p l (Vr s (a,a,c,c) n) S where
 vp:=nZ k
 kp:=k.lon
 lev:=m
 len:=by rw[Jq];omega
 few:=by rw[Jq];omega
 first:=fun d e=>by
  rw[Vs (by omega)]at e;cases e;rfl
 cir:=fun d e=>by
  obtain⟨j,b,rfl⟩:=adQ.1 (show d∈(qL n).map fun i=>(Oo s (a,a,c,c) i,leN s i)from e);have b:=xW.1 b;exact aBc (ZH h j b).1 (h.sig j b).1
 leg:=fun d e=>by
  obtain⟨j,b,rfl⟩:=adQ.1 (show d∈(qL n).map fun i=>(Oo s (a,a,c,c) i,leN s i)from e);have b:=xW.1 b;cases j with
  |zero=>exact⟨by simp[leN],fun g f=>by cases f⟩
  |succ j=>exact⟨by simp[leN],fun g f=>by
    rw[List.mem_singleton.1 (show g∈[(s j).leg]from f)];exact(h.sig j (by omega)).2⟩
theorem G9{a c h r:Int}(i:-3600000<=a/\a<=3600000)(d:-10800000<=c/\c<10800000)(l:0<=r/\r<3000000)(j:0<=h/\h<=1500000):PlOk (a-h,a+h,c,c+r)/\∀y x,DI (a,a,c,c) y x->DI (a-h,a+h,c,c+r) y x:=by
 refine⟨⟨⟨by show -5400000<=a-h;omega,by show a-h<=a+h;omega,by show a+h<=5400000;omega⟩,.inr ⟨d.1,d.2,by show c<=c+r;omega,by show c+r-c<21600000;omega⟩⟩,?_⟩;rintro y x ⟨e,f,k,b,g⟩;dsimp only at e f b g;exact⟨by show a-h<=_;omega,by show _<=a+h;omega,k,b,by show _<=c+r;omega⟩
theorem LoC.rows{w W b:World}{e f n:Nat}{a c:Int}{s:Nat->Sig}{i:Nat}{l v10:Value}(h:LoC w e f n a c s i l v10 W)(q:i+1=n)(g:Below W.heap.size W b):∃S:List sK,S.length=i/\bT oS 49 b 0 l ((Vr s (a,a,c,c) n).map (·.1))/\bT SK 56 b 0 v10 S/\
  ∀j x,S[j]? =some x->∃d,(Vr s (a,a,c,c) n)[j+ 1]? =some d/\bT pK 37 b 0 (.slice x.1 x.2.1 x.2.2) d.2:=by
 obtain⟨S,m,o,p⟩:=h.run;refine⟨S,o,?_,(m.next g).mono (zO _),fun j x k=>⟨_,Vs (by have:=(List.getElem?_eq_some_iff.1 k).1;omega),((p j x k).next g).mono (zO _)⟩⟩;rw[k7,<-q];exact(h.cir.next g).mono (zO _)
theorem Rk{w W f:World}{k l n:Nat}{a c h r:Int}{s:Nat->Sig}{i:Nat}{p v10:Value}(u:LoC w k l n a c s i p v10 W)(v:i+1=n)(q:n<=3)(D:Below W.heap.size W f){o:Nat}(t:o<=5)(m:0<=r/\r<3000000)(H:0<=h/\h<=1500000):
  ∃T,O8 (oP s (a,a,c,c)) n T/\Calls zB 13 #[p,v10,QV (a-h,a+h,c,c+r),jI jJ (o:Int)] f (OT f T)/\∀b,Below f.heap.size f b->Calls zB 18 #[p,v10,QV (a-h,a+h,c,c+r),jI jJ (o:Int)] b (GO b T):=by
 have g:=u.sig;rw[v]at g;obtain⟨y,J⟩:=G9 g.near g.lon m H;obtain⟨S,s1,z,A,B⟩:=u.rows v D;have G:=aDe g q y t (S:=S) (by omega);refine⟨_,aBa g (by omega) q t y J,NL G z A B,fun b e=>Jw G (z.next e) (A.next e) fun j x I=>?_⟩;obtain⟨d,E,m⟩:=B j x I;exact⟨d,E,m.next e⟩
theorem aAp{P:Nat->cF}{m:Nat}{T:List (Int ⊕ List Rg.Blk)}{d:List (List Rg.Blk)}{e:Int}(h:O8 P m T)(c:T=d.map Sum.inr++[Sum.inl e]):RB e:=by
 rcases h with⟨a,b,_⟩|⟨a,j,b,g⟩
 ·rw[c]at b;have f:(Sum.inl e:Int ⊕ List Rg.Blk)∈a.map Sum.inr:=by rw[<-b];simp
  obtain⟨x,_,i⟩:=adQ.1 f;cases i
 ·rw[c]at b;have:=congrArg List.getLast? b;simp at this;rw[this];exact g
theorem aDm{P:Nat->cF}{m:Nat}{T:List (Int ⊕ List Rg.Blk)}{b:List (List Rg.Blk)}(h:O8 P m T)(f:T=b.map Sum.inr):b.length=m/\∀(i:Nat) (L:List Rg.Blk),b[i]? =some L->Reg L/\iF (P i) L:=by
 rcases h with⟨a,c,d,j⟩|⟨a,g,c,n⟩
 ·have e:b=a:=by
   have k:b.map (Sum.inr:List Rg.Blk->Int ⊕ List Rg.Blk)=a.map Sum.inr:=by rw[<-f,c]
   exact List.map_inj_right (fun _ _ h=>by cases h;rfl)|>.1 k
  rw[e];exact⟨d,j⟩
 ·rw[f]at c;have d:(Sum.inl g:Int ⊕ List Rg.Blk)∈b.map Sum.inr:=by rw[c];simp
  obtain⟨x,_,l⟩:=adQ.1 d;cases l
end
section
open Go.RowKit Go.Sort Go.Shelf Rg
open Ev (aF)
attribute [local instance] nP
attribute [local go_sem] Oper.semAt_some
attribute [local go_sem] FS
theorem aBv{w:World}{a c u v:Int}{bS off n cap:Nat}{A:Option Addr}{s:Nat->Sig}(hE:1<=n->A=some ⟨bS,off,none⟩)(hA:∀w',Below w.heap.size w w'->Calls zB 4 #[] w' (GP (.bool true) w'))(hS:∀i,i<n->SigAt w bS off i (s i))(hc1:n<=cap)(_:cap<=9223372036854775807)(hu:0<=u/\u<=4294967295)(hv:0<=v/\v<=255):
  Calls zB 3 #[.agg #[jI jJ a,jI jJ c],.slice A n cap,jI .u32 u,jI .u8 v] w (GP (.bool true) w):=by
 have HA:=zA hA;have HAE:=zA hE;have HS:=zA hS;have HU:=zA hu;have HV:=zA hv;have HSEA:=zA (fun w=>aI (Gx a c) w);clear hA hS hu hv hE;obtain⟨W0,j4⟩:∃W0,W0=w.alloc (jC #[jI jJ a,jI jJ c] 23):=⟨_,rfl⟩;have hb0:Below w.heap.size w W0:=by rw[j4];exact Below.new _
 have h0:=heap_alloc_new w (jC #[jI jJ a,jI jJ c] 23);rw[<-j4]at h0;have H0:=zA h0;have g8:=zA hb0;clear h0 hb0;go_enter Tryz.func3,Tryz.ntmps3;go_upto_region 1 with fail
 rw[<-j4];clear j4;go_wp2_with fail
 refine(HA.out W0 g8.out).mono ?_;rintro e w1 ⟨rfl,b8⟩;have p0:w1.heap[w.heap.size]? =some (jC #[jI jJ a,jI jJ c] 23 (0,0)):=(b8.block _ (Array.getElem?_eq_some_iff.1 H0.out).1).trans H0.out;have s3:=zA (g8.out.trans (b8.mono g8.out.size));have q0:w1.cell? ⟨w.heap.size,0,none⟩=some (jI jJ a):=by simp[World.cell?,p0]
 have q1:w1.cell? ⟨w.heap.size,1,none⟩=some (jI jJ c):=by simp[World.cell?,p0]
 have HP:=zA p0;clear b8 g8 H0 p0;go_wp2_with fail
 refine(HSEA.out w1).mono ?_;rintro e w2 ⟨rfl,hb2⟩;have p0:=(hb2.block _ (Array.getElem?_eq_some_iff.1 HP.out).1).trans HP.out;have e7:=zA (s3.out.trans (hb2.mono s3.out.size));clear hb2 s3 HP q0 q1;have q0:w2.cell? ⟨w.heap.size,0,none⟩=some (jI jJ a):=by simp[World.cell?,p0]
 have q1:w2.cell? ⟨w.heap.size,1,none⟩=some (jI jJ c):=by simp[World.cell?,p0]
 have HP:=zA p0;clear p0;have b4:=zA (fun w=>aI (Hc a c) w);cases hsea:F8 a c with
 |false=>
  go_wp2_with fail
  go_ret;exact⟨rfl,e7.out⟩
 |true=>
 unfold aG7 ON fR at b4;dsimp only[Ev.lt]at b4;go_wp2_with fail
 any_goals (go_ret;exact⟨rfl,e7.out⟩)
 have f6:(-3600000<=a/\a<=3600000)/\1<=n/\n<=3/\v<=5:=⟨⟨by omega,by omega⟩,by omega,by omega,by omega⟩;have a2:=zA f6;clear f6;obtain rfl:=HAE.out a2.out.2.1;refine(b4.out w2).mono ?_;rintro e w3 ⟨rfl,hb3⟩;have p0:=(hb3.block _ (Array.getElem?_eq_some_iff.1 HP.out).1).trans HP.out;have s4:=zA (e7.out.trans (hb3.mono e7.out.size));clear hb3 e7 HP q0 q1;have q0:w3.cell? ⟨w.heap.size,0,none⟩=some (jI jJ a):=by simp[World.cell?,p0]
 have q1:w3.cell? ⟨w.heap.size,1,none⟩=some (jI jJ c):=by simp[World.cell?,p0]
 have HP:=zA p0;clear p0;go_upto_region 9 with fail
 obtain⟨W4,b7⟩:∃W4,W4=((w3.alloc (jC #[jI jJ a,jI jJ a,jI jJ c,jI jJ c] 33)).alloc (jC #[jI jJ a,jI jJ a,jI jJ c,jI jJ c] 33)).alloc (jC #[.slice (some ⟨w3.heap.size+1,0,none⟩) 1 1] 35):=⟨_,rfl⟩;rw[<-b7];have s7:=zA (show LoI w w3.heap.size (w3.heap.size+1+1) n a c s 0 (.slice none 0 0) (.slice none 0 0) W4 from by
  have h1:=heap_alloc_new w3 (jC #[jI jJ a,jI jJ a,jI jJ c,jI jJ c] 33);have h2:=heap_alloc_new (w3.alloc (jC #[jI jJ a,jI jJ a,jI jJ c,jI jJ c] 33)) (jC #[jI jJ a,jI jJ a,jI jJ c,jI jJ c] 33);have h3:=heap_alloc_new ((w3.alloc (jC #[jI jJ a,jI jJ a,jI jJ c,jI jJ c] 33)).alloc (jC #[jI jJ a,jI jJ a,jI jJ c,jI jJ c] 33)) (jC #[.slice (some ⟨w3.heap.size+1,0,none⟩) 1 1] 35);simp only[qF]at h2 h3;have hs:=s4.out.size;have e0:oP s (a,a,c,c) 0=(a,a,c,c):=aC7 _ _;refine⟨by have:=a2.out;omega,bT.nil,⟨[],bT.nil,rfl,fun j sl h=>by simp at h⟩,?_,⟨_,by rw[b7];exact h3,?_,by simp[Value.ownBlock]⟩,?_,?_,fun j hj=>by omega,fun j hj=>by omega⟩
  ·rw[e0,b7,zW _ _ _ (by simp;omega),zW _ _ _ (by simp)];exact h1
  ·rw[show(qL (0+1)).map (oP s (a,a,c,c))=[(a,a,c,c)] by rw[show qL (0+1)=[0]from rfl,List.map_cons,List.map_nil,e0]];have hr:=(bT.new (E:=pK) (e:=33) (B:=w.heap.size) (w3.alloc (jC #[jI jJ a,jI jJ a,jI jJ c,jI jJ c] 33)) (a,a,c,c) (by simp;omega)).next (Below.new (jC #[.slice (some ⟨w3.heap.size+1,0,none⟩) 1 1] 35))
   rw[qF]at hr;rw[b7];exact hr
  ·rw[b7,zW _ _ _ (by have:=(Array.getElem?_eq_some_iff.1 HP.out).1;simp;omega),zW _ _ _ (by have:=(Array.getElem?_eq_some_iff.1 HP.out).1;simp;omega),zW _ _ _ (Array.getElem?_eq_some_iff.1 HP.out).1];exact HP.out
  ·rw[b7];exact((s4.out.alloc hs _).alloc (by simp;omega) _).alloc (by simp;omega) _)
 obtain⟨f,f4⟩:∃b,b=w3.heap.size:=⟨_,rfl⟩;obtain⟨a5,p7⟩:∃b,b=f+1+1:=⟨_,rfl⟩;rw[<-f4]at s7 ⊢;rw[<-p7]at s7 ⊢;have HBB:=zA (show w.heap.size<f/\f<a5 from⟨by rw[f4];exact(Array.getElem?_eq_some_iff.1 HP.out).1,by omega⟩);clear b7 f4 p7 HP s4 q0 q1;go_wp2_with fail
 go_loopw [9,10,64] (fun v9 v10 v64 wr=>∃i:Nat,v64=jI jJ (i:Int)/\LoI w f a5 n a c s i v9 v10 wr) (fun _ _ v64 _=>n-(intOf v64).toNat)
 case atStart=>exact⟨0,rfl,s7.out⟩
 case round=>
  obtain⟨i,rfl,hI⟩:=hrel;obtain⟨A9,c9,h9⟩:=hI.cir.slice;rw[List.length_map,List.length_range]at h9;subst h9;obtain⟨A10,c10,h10⟩:∃A c,u10=.slice A i c:=by
   obtain⟨S,h1,h2,_⟩:=hI.run;obtain⟨A,c,h⟩:=h1.slice;exact⟨A,c,by rw[h,h2]⟩
  subst h10;have hin:(i:Int)<(n:Int):=by have:=hI.le;omega
  have hi0:(0:Int)<=(i:Int):=by omega
  have hn3:(n:Int)<=3:=by have:=a2.out;omega
  have t9:=zA (And.intro hI.le (show i<3 by have:=a2.out;have:=hI.le;omega));have HI:=zA hI;have hs7:=(HS.out i hI.le).next hI.bel
  clear hI;obtain⟨D,hD⟩:∃D,D=(s i).dec:=⟨_,rfl⟩;obtain⟨G,hG⟩:∃G,G=(s i).gha:=⟨_,rfl⟩;obtain⟨Z,hZ⟩:∃Z,Z=(s i).noi:=⟨_,rfl⟩;obtain⟨l0,hl0⟩:∃l,l=(s i).leg.1:=⟨_,rfl⟩;obtain⟨l1,hl1⟩:∃l,l=(s i).leg.2.1:=⟨_,rfl⟩;obtain⟨l2,hl2⟩:∃l,l=(s i).leg.2.2.1:=⟨_,rfl⟩;obtain⟨l3,hl3⟩:∃l,l=(s i).leg.2.2.2:=⟨_,rfl⟩;obtain⟨d0,d1,d2,d3,d4,d5,d6⟩:=hs7;rw[<-hD]at d0;rw[<-hG]at d1;rw[<-hZ]at d2;rw[<-hl0]at d3;rw[<-hl1]at d4;rw[<-hl2]at d5;rw[<-hl3]at d6;have HE:=zA (show D=(s i).dec/\G=(s i).gha/\Z=(s i).noi/\((l0,l1,l2,l3):cF)=(s i).leg from⟨hD,hG,hZ,by rw[hl0,hl1,hl2,hl3]⟩);clear hD hG hZ hl0 hl1 hl2 hl3;go_upto_region 12 with fail
  have f2:B7 (wr.alloc (jC #[jI jJ D,jI jJ G,jI jJ Z,jI jJ l0,jI jJ l1,jI jJ l2,jI jJ l3] 39)) wr.heap.size D G Z l0 l1 l2 l3:=heap_alloc_new _ _;have j0:=Below.new (w:=wr) (jC #[jI jJ D,jI jJ G,jI jJ Z,jI jJ l0,jI jJ l1,jI jJ l2,jI jJ l3] 39);obtain⟨W5,hW5⟩:∃W5,W5=wr.alloc (jC #[jI jJ D,jI jJ G,jI jJ Z,jI jJ l0,jI jJ l1,jI jJ l2,jI jJ l3] 39):=⟨_,rfl⟩;rw[<-hW5]at f2 j0 ⊢;have t0:=zA (HI.out.next j0);obtain⟨b14,H⟩:∃b,b=wr.heap.size:=⟨_,rfl⟩;rw[<-H]at f2 ⊢;have HX5:=zA f2;have s5:=zA j0;have HRIG:=zA (fun w=>aI (Gi l0 l1 l2 l3) w);obtain⟨k0,k1,k2,k3,k4,k5,k6⟩:=f2.keep;clear f2 j0 hW5 H d0 d1 d2 d3 d4 d5 d6;go_wp2_with fail
  any_goals (go_ret;exact⟨rfl,t0.out.bel⟩)
  refine(HRIG.out W5).mono ?_;rintro e w6 ⟨rfl,k8⟩;have b3:=zA (t0.out.next k8);have y5:=zA (HX5.out.next k8);have HB6:=zA (s5.out.trans (k8.mono s5.out.size));have HSI:SgOk D G Z:=⟨⟨by omega,by omega⟩,⟨by omega,by omega⟩,⟨by omega,by omega⟩⟩;have b5:=zA HSI;clear k8 HSI k0 k1 k2 k3 k4 k5 k6 s5 HX5 t0;obtain⟨k0,k1,k2,k3,k4,k5,k6⟩:=y5.out.keep;cases hrig:E5 l0 l1 l2 l3 with
  |false=>
   go_wp2_with fail
   go_ret;exact⟨rfl,b3.out.bel⟩
  |true=>
  go_wp2_with fail
  any_goals (go_ret;exact⟨rfl,b3.out.bel⟩)
  have HLG:=zA (aDI hrig (by omega));have x9:=zA (show SigOk s a c (i+1)from⟨a2.out.1,aDM hsea,fun j hj=>by
   rcases Nat.lt_or_ge j i with h|h
   ·exact b3.out.sig j h
   ·have e:j=i:=by omega
    obtain⟨e1,e2,e3,e4⟩:=HE.out;rw[e,<-e1,<-e2,<-e3,<-e4];exact⟨b5.out,HLG.out⟩,fun j hj=>b3.out.way j (by omega)⟩)
  have l7:=ZH x9.out i (by omega);have q:=b3.out.here;obtain⟨Q,hQ⟩:∃Q,Q=oP s (a,a,c,c) i:=⟨_,rfl⟩;rw[<-hQ]at l7 q;have a4:=zA l7;have HQ:=zA hQ;have kb:=iC l7.1.lon;have D1:=zA (nH (fun w=>aI (kX G) w) w6);have D2:=zA (nH (fun w=>aI (FC Q.2.2.1 Q.2.2.2 G G) w) w6);rw[S4 (by omega) kb.2.1 (by omega) b5.out.gha]at D2;have m0:w6.cell? ⟨f,0,none⟩=some (jI jJ Q.1):=by simp[World.cell?,q]
  have m1:w6.cell? ⟨f,1,none⟩=some (jI jJ Q.2.1):=by simp[World.cell?,q]
  have m2:w6.cell? ⟨f,2,none⟩=some (jI jJ Q.2.2.1):=by simp[World.cell?,q]
  have m3:w6.cell? ⟨f,3,none⟩=some (jI jJ Q.2.2.2):=by simp[World.cell?,q]
  clear hQ l7 q kb;obtain⟨q0,q1,q2,q3⟩:=Q;dsimp only at D1 D2 m0 m1 m2 m3;unfold ON aG at D1;unfold aT aG at D2;dsimp only at D1 D2;have g0:=cell_regrown k0;have g1:=cell_regrown k1;have g2:=cell_regrown m0;have g3:=cell_regrown m1;have g4:=cell_regrown m2;have g5:=cell_regrown m3;refine AC (F:=?F) (OB w6 (q2+G) (q3+G)) ?_ ?_;rotate_left
  ·refine oF (fun _=>false) 6 9 15 (jC #[jI jJ 0,jI jJ 0] 31) (by kernel_rfl) (by kernel_rfl) ⟨_,rfl,rfl,rfl,rfl,fun a W=>?_⟩ ?_
   ·simp[go_sem]
   ·repeat (refine DC (fun K hK=>?_);go_simp;first|(refine hK _ ?_;clear hK K)|(apply Exists.intro;refine⟨fun _=>?_,hK _ ?_⟩;(first|(with_reducible exact D1.out _ _)|(with_reducible exact D2.out _ _));clear hK K))
    refine⟨?_,?_⟩
    ·intro nb Wn o a7 I
     (refine cY (i:=6) (v:=?_) rfl (Or.inl ⟨by rfl,?_⟩) ?_;(rotate_left;intro w;go_simp;try (with_reducible rfl)))
     (refine cY (i:=7) (v:=?_) rfl (Or.inl ⟨by rfl,?_⟩) ?_;(rotate_left;intro w;go_simp;try (with_reducible rfl)))
     (refine cY (i:=8) (v:=?_) rfl (Or.inl ⟨by rfl,?_⟩) ?_;(rotate_left;intro w;go_simp;try (with_reducible rfl)))
     refine lH (k:=10) (by kernel_rfl) (by kernel_rfl) ?_;simp only[yE,xK];obtain⟨n0,n1,n2,n3⟩:=B2.keep (show B2 Wn 31 nb 0 0 from I);have HF:=zA (OB.old (q2+G) (q3+G) o a7 I);clear o a7 I;go_wp2_with fail
     refine⟨nb,rfl,?_,HF.out⟩;rfl
    ·intro Wn o
     (refine cY (i:=6) (v:=?_) rfl (Or.inl ⟨by rfl,?_⟩) ?_;(rotate_left;intro w;go_simp;try (with_reducible rfl)))
     (refine cY (i:=7) (v:=?_) rfl (Or.inl ⟨by rfl,?_⟩) ?_;(rotate_left;intro w;go_simp;try (with_reducible rfl)))
     (refine cY (i:=8) (v:=?_) rfl (Or.inl ⟨by rfl,?_⟩) ?_;(rotate_left;intro w;go_simp;try (with_reducible rfl)))
     refine lH (k:=9) (by kernel_rfl) (by kernel_rfl) ?_;simp only[yE,xK];have HF:=zA (OB.new (q2+G) (q3+G) o);clear o;go_wp2_with fail
     refine⟨Wn.heap.size,rfl,?_,HF.out⟩;rfl
  ·intro b15 w7 hC;clear D1 D2 g0 g1 g2 g3 g4 g5 k0 k1 k2 k3 k4 k5 k6 m0 m1 m2 m3;have HC7:=zA hC;have t5:=zA (b3.out.next hC.1);have y6:=zA (y5.out.next hC.1);obtain⟨k0,k1,k2,k3,k4,k5,k6⟩:=y6.out.keep;have q:=t5.out.here;rw[<-HQ.out]at q;dsimp only at q;have m0:w7.cell? ⟨f,0,none⟩=some (jI jJ q0):=by simp[World.cell?,q]
   have m1:w7.cell? ⟨f,1,none⟩=some (jI jJ q1):=by simp[World.cell?,q]
   obtain⟨n0,n1,_,_⟩:=hC.2.2.keep;have hal:=RO a4.out.1 b5.out;obtain⟨H1,j1⟩:∃h,h=(sF (q0,q1,q2,q3) D G).1:=⟨_,rfl⟩;obtain⟨H2,j2⟩:∃h,h=(sF (q0,q1,q2,q3) D G).2.1:=⟨_,rfl⟩;have D1:=zA (nH (fun w=>aI (kX D) w) w7);have D2:=zA (nH (fun w=>aI (VL q0 q1 D D (q2+G) (q3+G)) w) w7);have hca:=V9 a4.out.1 b5.out;dsimp only at hca;rw[hca]at D2;unfold ON aG at D1;unfold aT aG at D2;rw[hal.1,<-j1,<-j2]at D2;have HH:=zA (And.intro j1 j2);have s6:=zA (show -5400000<=H1/\H1<=H2/\H2<=5400000 by rw[j1,j2];exact hal.2);dsimp only at D1 D2;clear hC q hal hca j1 j2;go_wp2_with fail
   have g0:=cell_regrown k0;have g1:=cell_regrown k1;have g2:=cell_regrown m0;have g3:=cell_regrown m1;have g4:=cell_regrown n0;have g5:=cell_regrown n1;refine AC (F:=?F2) (OB w7 H1 H2) ?_ ?_;rotate_left
   ·refine oF (fun _=>false) 8 11 17 (jC #[jI jJ 0,jI jJ 0] 31) (by kernel_rfl) (by kernel_rfl) ⟨_,rfl,rfl,rfl,rfl,fun a W=>?_⟩ ?_
    ·simp[go_sem]
    ·repeat (refine DC (fun K hK=>?_);go_simp;first|(refine hK _ ?_;clear hK K)|(apply Exists.intro;refine⟨fun _=>?_,hK _ ?_⟩;(first|(with_reducible exact D1.out _ _)|(with_reducible exact D2.out _ _));clear hK K))
     refine⟨?_,?_⟩
     ·intro nb Wn o a7 I
      (refine cY (i:=8) (v:=?_) rfl (Or.inl ⟨by rfl,?_⟩) ?_;(rotate_left;intro w;go_simp;try (with_reducible rfl)))
      (refine cY (i:=9) (v:=?_) rfl (Or.inl ⟨by rfl,?_⟩) ?_;(rotate_left;intro w;go_simp;try (with_reducible rfl)))
      (refine cY (i:=10) (v:=?_) rfl (Or.inl ⟨by rfl,?_⟩) ?_;(rotate_left;intro w;go_simp;try (with_reducible rfl)))
      refine lH (k:=12) (by kernel_rfl) (by kernel_rfl) ?_;simp only[yE,xK];obtain⟨n0,n1,n2,n3⟩:=B2.keep (show B2 Wn 31 nb 0 0 from I);have HF:=zA (OB.old H1 H2 o a7 I);clear o a7 I;go_wp2_with fail
      refine⟨nb,rfl,?_,HF.out⟩;rfl
     ·intro Wn o
      (refine cY (i:=8) (v:=?_) rfl (Or.inl ⟨by rfl,?_⟩) ?_;(rotate_left;intro w;go_simp;try (with_reducible rfl)))
      (refine cY (i:=9) (v:=?_) rfl (Or.inl ⟨by rfl,?_⟩) ?_;(rotate_left;intro w;go_simp;try (with_reducible rfl)))
      (refine cY (i:=10) (v:=?_) rfl (Or.inl ⟨by rfl,?_⟩) ?_;(rotate_left;intro w;go_simp;try (with_reducible rfl)))
      refine lH (k:=11) (by kernel_rfl) (by kernel_rfl) ?_;simp only[yE,xK];have HF:=zA (OB.new H1 H2 o);clear o;go_wp2_with fail
      refine⟨Wn.heap.size,rfl,?_,HF.out⟩;rfl
   ·intro b17 w8 hC;clear D1 D2 g0 g1 g2 g3 g4 g5 k0 k1 k2 k3 k4 k5 k6 m0 m1 n0 n1;have HI8:=zA (t5.out.next hC.1);have y8:=zA (y6.out.next hC.1);obtain⟨k0,k1,k2,k3,k4,k5,k6⟩:=y8.out.keep;obtain⟨n0,n1,_,_⟩:=hC.2.2.keep;have e1:i64.wrap (H1-Z)=H1-Z:=cN (by have:=s6.out;have:=b5.out.noi;omega);have e2:i64.wrap (H2+Z)=H2+Z:=cN (by have:=s6.out;have:=b5.out.noi;omega);clear hC;go_wp2_with fail
    have l6:Bq (q0,q1,q2,q3) D G Z=max (-5400000) (H1-Z):=by unfold Bq;rw[<-HH.out.1]
    have hhi:Bp (q0,q1,q2,q3) D G Z=min 5400000 (H2+Z):=by unfold Bp;rw[<-HH.out.2]
    have l4:=aCP a4.out.1 b5.out;rw[l6,hhi]at l4;obtain⟨C,hC⟩:∃C,C=EV (q0,q1,q2,q3) D G Z:=⟨_,rfl⟩;rw[<-hC]at l4;generalize max (-5400000) (H1-Z)=lo at*;generalize min 5400000 (H2+Z)=hi at*;obtain⟨W9,hW9⟩:∃W9,W9=w8.alloc (jC #[jI jJ lo,jI jJ hi] 31):=⟨_,rfl⟩;have k9:=Below.new (w:=w8) (jC #[jI jJ lo,jI jJ hi] 31);have i7:B2 (w8.alloc (jC #[jI jJ lo,jI jJ hi] 31)) 31 w8.heap.size lo hi:=heap_alloc_new _ _;rw[<-hW9]at k9 i7 ⊢;have HI9:=zA (HI8.out.next k9);have y9:=zA (y8.out.next k9);have HC:=zA (show C=Oo s (a,a,c,c) i by
     rw[hC,HQ.out];obtain⟨e1,e2,e3,_⟩:=HE.out;rw[e1,e2,e3];rfl)
    obtain⟨b19,p9⟩:∃b,b=w8.heap.size:=⟨_,rfl⟩;rw[<-p9]at i7 ⊢;have D1:=zA (nH (fun w=>aI (kX D) w) W9);have D2:=zA (nH (fun w=>aI (kX G) w) W9);have D3:=zA (nH (fun w=>aI (Dc lo hi G G D D 0 0 0 0) w) W9);rw[l4]at D3;unfold ON aG at D1 D2;unfold Vc at D3;obtain⟨C0,C1,C2,C3,C4,C5⟩:=C;dsimp only at D1 D2 D3;clear l6 hhi l4 hC hW9 k9 p9 k0 k1 k2 k3 k4 k5 k6 n0 n1 e1 e2;obtain⟨k0,k1,k2,k3,k4,k5,k6⟩:=y9.out.keep;obtain⟨n0,n1,_,_⟩:=i7.keep;clear i7;have g0:=cell_regrown k0;have g1:=cell_regrown k1;have g4:=cell_regrown n0;have g5:=cell_regrown n1;refine AC (F:=?F3) (Br W9 (C0,C1,C2,C3,C4,C5)) ?_ ?_;rotate_left
    ·refine oF (fun _=>false) 9 12 20 (jC #[jI jJ 0,jI jJ 0,jI jJ 0,jI jJ 0,jI jJ 0,jI jJ 0] 49) (by kernel_rfl) (by kernel_rfl) ⟨_,rfl,rfl,rfl,rfl,fun a W=>?_⟩ ?_
     ·simp[go_sem]
     ·repeat (refine DC (fun K hK=>?_);go_simp;first|(refine hK _ ?_;clear hK K)|(apply Exists.intro;refine⟨fun _=>?_,hK _ ?_⟩;(first|(with_reducible exact D1.out _ _)|(with_reducible exact D2.out _ _)|(with_reducible exact D3.out _ _));clear hK K))
      refine⟨?_,?_⟩
      ·intro nb Wn o a7 I
       (refine cY (i:=9) (v:=?_) rfl (Or.inl ⟨by rfl,?_⟩) ?_;(rotate_left;intro w;go_simp;try (with_reducible rfl)))
       (refine cY (i:=10) (v:=?_) rfl (Or.inl ⟨by rfl,?_⟩) ?_;(rotate_left;intro w;go_simp;try (with_reducible rfl)))
       (refine cY (i:=11) (v:=?_) rfl (Or.inl ⟨by rfl,?_⟩) ?_;(rotate_left;intro w;go_simp;try (with_reducible rfl)))
       refine lH (k:=13) (by kernel_rfl) (by kernel_rfl) ?_;simp only[yE,xK];obtain⟨⟨n0,n1,n2,n3,n4,n5⟩,x0,x1,x2,x3,x4,x5⟩:=B6.keep (show B6 Wn 49 nb 0 0 0 0 0 0 from I);have HF:=zA (Br.old (C0,C1,C2,C3,C4,C5) o a7 I);clear o a7 I;go_wp2_with fail
       refine⟨nb,rfl,?_,HF.out⟩;rfl
      ·intro Wn o
       (refine cY (i:=9) (v:=?_) rfl (Or.inl ⟨by rfl,?_⟩) ?_;(rotate_left;intro w;go_simp;try (with_reducible rfl)))
       (refine cY (i:=10) (v:=?_) rfl (Or.inl ⟨by rfl,?_⟩) ?_;(rotate_left;intro w;go_simp;try (with_reducible rfl)))
       (refine cY (i:=11) (v:=?_) rfl (Or.inl ⟨by rfl,?_⟩) ?_;(rotate_left;intro w;go_simp;try (with_reducible rfl)))
       refine lH (k:=12) (by kernel_rfl) (by kernel_rfl) ?_;simp only[yE,xK];have HF:=zA (Br.new (C0,C1,C2,C3,C4,C5) o);clear o;go_wp2_with fail
       refine⟨Wn.heap.size,rfl,?_,HF.out⟩;rfl
    ·intro b20 w10 c6;clear D1 D2 D3 g0 g1 g4 g5 k0 k1 k2 k3 k4 k5 k6 n0 n1;have n7:=zA (HI9.out.next c6.1);have o2:=zA (y9.out.next c6.1);obtain⟨⟨n0,n1,n2,n3,n4,n5⟩,_⟩:=c6.2.2.keep;dsimp only at n0 n1 n2 n3 n4 n5;have HW:=zA (Below.new (w:=w10) (jC #[jI jJ C0,jI jJ C1,jI jJ C2,jI jJ C3,jI jJ C4,jI jJ C5] 49));have c5:=zA (n7.out.next HW.out);have o3:=zA (o2.out.next HW.out);have i4:=zA (show w.heap.size<=_ from c5.out.bel.size);have i2:=zA c5.out.cir;obtain⟨L,hL⟩:∃L,L=(qL i).map (Oo s (a,a,c,c)):=⟨_,rfl⟩;have hLl:L.length=i:=by rw[hL];simp
     rw[<-hL]at i2;have n9:=zA (show L.length<=1000000000 by have:=t9.out;omega);have i1:=zA (And.intro hL hLl);clear c6 hL hLl;go_wp2_with (at_builtin;refine iW (E:=oS) rfl (.tmp 163) (.tmp 165) _ rfl 49 (.agg #[jI jJ 0,jI jJ 0,jI jJ 0,jI jJ 0,jI jJ 0,jI jJ 0]) 48 Tryz.underlying28 Vd rfl (by decide) (by omega) w.heap.size (.slice A9 i c9) L rfl i2.out w10.heap.size ((C0,C1,C2,C3,C4,C5):fT) 1 rfl ⟨_,_,heap_alloc_new w10 _⟩ n9.out i4.out ?_)
     intro g9 p4 y V c0 hat12 hlt12;rw[i1.out.2];have r5:=KpE.row i2.out c0;have p5:=LoC.of c5.out x9.out (v9':=.slice (some ⟨g9,0,none⟩) (i+1) p4) (by
      rw[i1.out.2]at V;rw[<-i1.out.1,<-HC.out];exact V) c0
     have p6:B7 y b14 D G Z l0 l1 l2 l3:=r5.same _ _ _ _ o3.out (by decide);have b2:=zA p5;have o4:=zA p6;clear V c0 hat12 hlt12 r5 p5 p6 n0 n1 n2 n3 n4 n5 n7 o2 HW c5 o3 i4 i2 n9 i1 HC HI9 y9 HI8 y8 t5 y6 HC7 b3 y5 HB6 HI s6 HH;have l9:i64.wrap ((n:Int)-1)=(n:Int)-1:=cN (by have:=a2.out;omega);by_cases hlast:(i:Int)=(n:Int)-1
     ·go_upto_region 31 with fail
      have c4:i+1=n:=by omega
      have hu0:=HU.out;have hv0:=HV.out;obtain⟨lv,hlv⟩:∃m:Nat,v=(m:Int):=⟨v.toNat,by omega⟩;subst hlv;obtain⟨r,hr⟩:∃r,r=u.tmod 3000000:=⟨_,rfl⟩;have hr1:0<=r/\r<3000000:=by
       rw[hr,Int.tmod_eq_emod_of_nonneg hu0.1];omega
      have e0:i64.wrap (u.tmod 3000000)=r:=by rw[<-hr];exact cN (by omega)
      obtain⟨h,hh⟩:∃h,h=r.tdiv 2:=⟨_,rfl⟩;have hh1:0<=h/\h<=1500000:=by
       rw[hh,Int.tdiv_eq_ediv_of_nonneg hr1.1];omega
      have e1:i64.wrap (r.tdiv 2)=h:=by rw[<-hh];exact cN (by omega)
      have hnr:=b2.out.sig.near;have l6:=b2.out.sig.lon;have e2:i64.wrap (a-h)=a-h:=cN (by omega);have e3:i64.wrap (a+h)=a+h:=cN (by omega);have e4:i64.wrap (c+r)=c+r:=cN (by omega);have e5:i64.wrap (lv:Int)=(lv:Int):=cN (by omega);have HLV:=zA (show lv<=5 by have:=a2.out;omega);have HRH:=zA (And.intro hr1 hh1);have f0:=zA c4;have hpt:=b2.out.pt;have q0:y.cell? ⟨w.heap.size,0,none⟩=some (jI jJ a):=by simp[World.cell?,hpt]
      have q1:y.cell? ⟨w.heap.size,1,none⟩=some (jI jJ c):=by simp[World.cell?,hpt]
      clear c4 hu0 hv0 hr hr1 hh hh1 hnr l6 hpt;go_upto_region 33 with fail
      clear q0 q1 e0 e1 e2 e3 e4;obtain⟨W,hW⟩:∃W,W=y.alloc (jC #[jI jJ (a-h),jI jJ (a+h),jI jJ c,jI jJ (c+r)] 33):=⟨_,rfl⟩;have N:=Below.new (w:=y) (jC #[jI jJ (a-h),jI jJ (a+h),jI jJ c,jI jJ (c+r)] 33);have f1:B4 (y.alloc (jC #[jI jJ (a-h),jI jJ (a+h),jI jJ c,jI jJ (c+r)] 33)) y.heap.size (a-h) (a+h) c (c+r):=heap_alloc_new _ _;rw[<-hW]at N f1 ⊢;obtain⟨T,r6,b0,q6⟩:=Rk b2.out f0.out (by have:=a2.out;omega) N HLV.out HRH.out.1 HRH.out.2;have i0:=zA (b2.out.next N);have H4W:=zA f1;have n8:=zA r6;have HFIX:=zA q6;obtain⟨b23,q4⟩:∃b,b=y.heap.size:=⟨_,rfl⟩;rw[<-q4]at H4W f1 ⊢;obtain⟨⟨m0,m1,m2,m3⟩,_⟩:=f1.keep;unfold QV at b0;clear hW N f1 r6 q6 q4;go_wp2_with fail
      refine b0.mono ?_;rintro e d ⟨d8,z⟩;have m9:=zA z;have g:=zA (i0.out.next z);have H413:=zA (H4W.out.next z);clear b0 z m0 m1 m2 m3;rcases d8 with⟨Ls,v,Ss,d7,rfl,hR⟩|⟨e0,he0,⟨Ls,d7⟩,rfl⟩
      ·have hlk:=aDm n8.out d7;have hsl:Ss.length=n:=by rw[hR.2.1,hlk.1]
       obtain⟨As,cs,hv⟩:=hR.1.slice;rw[hsl]at hv;subst hv;obtain⟨v12,p1,p2,p3⟩:=g.out.pls;have J:((qL (i+1)).map (oP s (a,a,c,c))).length=i+1:=by simp
       obtain⟨s2,z5,r9⟩:=p2.slice;rw[J]at r9;subst r9;have b4:=zA (And.intro p1 p2);have x6:=zA hlk;have c8:=zA (And.intro hR hsl);have HTL:=zA d7;obtain⟨k0,_⟩:=sZ p1;have c4:=f0.out;rw[c4]at k0;clear hlk hsl hR p1 p2 p3 J d7 c4;go_wp2_with fail
       clear k0;go_loopw [257] (fun g7 wr=>∃j:Nat,j<=n/\g7=jI jJ (j:Int)/\Below d.heap.size d wr) (fun g7 _=>n-(intOf g7).toNat)
       case atStart=>exact⟨0,zO _,rfl,zD _ _⟩
       case round=>
        obtain⟨j,hj,rfl,hbq⟩:=hrel;have b1:=zA hbq;clear hbq;by_cases hlt:j<n
        ·have hjlt:(j:Int)<(n:Int):=by omega
         have hj0:(0:Int)<=(j:Int):=by omega
         obtain⟨sl,hx⟩:∃sl,Ss[j]? =some sl:=⟨_,List.getElem?_eq_getElem (by rw[c8.out.2];exact hlt)⟩;obtain⟨L,hL,f9⟩:=c8.out.1.2.2 j sl hx;obtain⟨gs,caps,hes,_,_,x0,x1,x2,rfl,b9⟩:=(c8.out.1.1.next b1.out).slv hx;cases hes;obtain⟨a9,g6⟩:=x6.out.2 j L hL;have l8:=(ZH g.out.sig j (by have:=f0.out;omega)).1;have b8:=Below.new (w:=wr) (jC #[jI jJ (j:Int)] 3);have i6:=heap_alloc_new wr (jC #[jI jJ (j:Int)] 3);obtain⟨Wq,z9⟩:∃Wq,Wq=wr.alloc (jC #[jI jJ (j:Int)] 3):=⟨_,rfl⟩;rw[<-z9]at b8 i6;have f5:Below d.heap.size d Wq:=b1.out.trans (b8.mono b1.out.size);have hct:=Z0 (bs:=a5) (bi:=wr.heap.size) (p:=fun b=>GB (qB b).1 (qB b).2.1 (qB b).2.2.1 (qB b).2.2.2 (oP s (a,a,c,c) j).1 (oP s (a,a,c,c) j).2.1 (oP s (a,a,c,c) j).2.2.1 (oP s (a,a,c,c) j).2.2.2) (L:=L) (by have:=a9.few;omega) Wq ((f9.next f5).mono (zO _)) (fun b hb w1 l9=>by
          have hk:Below d.heap.size d w1:=f5.trans (l9.mono f5.size);exact J7 b (a9.okc b hb).1 (a9.okc b hb).2 (L:=(qL (i+1)).map (oP s (a,a,c,c))) (i:=j) (by have:=f0.out;rw[List.getElem?_map,List.getElem?_range (by omega)];rfl) (nZ l8) l8.lon (sZ ((hk.block _ (Array.getElem?_eq_some_iff.1 b4.out.1).1).trans b4.out.1)).1 (sZ ((l9.block _ (Array.getElem?_eq_some_iff.1 i6).1).trans i6)).1 ((b4.out.2.next hk).mono (zO _)))
         rw[Fo l8 a9.okc g6]at hct;have HCT:=zA hct;have HBW:=zA f5;have hwj:i64.wrap ((j:Int)+1)=(j:Int)+1:=cN (by omega);clear hx hL f9 a9 g6 l8 b8 i6 hct f5;go_upto_region 41 with fail
         rw[<-z9];clear z9 b9;go_wp2_with fail
         refine HCT.out.mono ?_;rintro e d9 ⟨rfl,H⟩;have HBN:=zA (HBW.out.trans (H.mono HBW.out.size));clear H;go_wp2_with fail
         go_roundw
         case rel=>exact⟨j+1,hlt,by go_num,HBN.out⟩
         case measure=>simp only[intOf];omega
        ·have hjn:j=n:=by omega
         subst hjn;have c4:=f0.out;clear hlast l9 hlt hj hin;subst c4;obtain⟨⟨m0,m1,m2,m3⟩,_⟩:=(H413.out.next b1.out).keep;have hfx:=HFIX.out wr (m9.out.trans (b1.out.mono m9.out.size));unfold QV at hfx;have hwi:i64.wrap ((i:Int)+1-1)=(i:Int):=by rw[cN (by omega)];omega
         have hwi2:i64.wrap ((i:Int)+1)=(i:Int)+1:=cN (by omega);have hwi3:i64.wrap (i:Int)=(i:Int):=cN (by omega);go_wp2_with fail
         refine hfx.mono ?_;rintro e d9 ⟨d8,H⟩;have R:=b1.out.trans (H.mono b1.out.size);have HBF:=zA (g.out.bel.trans (R.mono g.out.bel.size));clear hfx m0 m1 m2 m3;rcases d8 with⟨z4,L2,v2,j3,rfl,hr2⟩|⟨e0,he0,⟨z4,j3⟩,rfl⟩
         ·obtain⟨A2,c2,rfl⟩:=hr2.slice;have hLs:Ls=z4++[L2]:=List.map_inj_right (fun _ _ h=>by cases h;rfl)|>.1 (HTL.out.symm.trans j3);have z8:Ls[i]? =some L2:=by
           have hk:=x6.out.1;rw[hLs]at hk ⊢;have hk2:z4.length=i:=by simpa using hk
           rw[<-hk2];simp
          obtain⟨sl,hx⟩:∃sl,Ss[i]? =some sl:=⟨_,List.getElem?_eq_getElem (by rw[c8.out.2];omega)⟩;obtain⟨L,hL,f9⟩:=c8.out.1.2.2 i sl hx;rw[z8]at hL;cases hL;obtain⟨gs,caps,hes,_,_,x0,x1,x2,rfl,b9⟩:=(c8.out.1.1.next R).slv hx;injection hes with z1 z2 z3;subst z1;have hfew:=(x6.out.2 i L2 z8).1.few;have heq:=Jt hr2 (f9.next R) (by omega) (by omega);rw[decide_eq_true (rfl:L2=L2)]at heq;have HEQ:=zA heq;clear j3 hr2 hLs z8 hx f9 hfew heq H R z2 z3;go_wp2_with fail
          refine HEQ.out.mono ?_;rintro e e6 ⟨rfl,p8⟩;have HF:=zA (HBF.out.trans (p8.mono HBF.out.size));clear p8 b9;go_wp2_with fail
          go_ret;exact⟨rfl,HF.out⟩
         ·exfalso;have h4:=HTL.out.symm.trans j3;have h5:(Sum.inl e0:Int ⊕ List Rg.Blk)∈Ls.map Sum.inr:=by rw[h4];simp
          obtain⟨x,_,hx⟩:=adQ.1 h5;cases hx
      ·have hev:=aAp n8.out d7;clear d7 he0;rcases hev with rfl|rfl|rfl|rfl
       ·go_wp2_with fail
        go_ret;exact⟨rfl,g.out.bel⟩
       ·go_wp2_with fail
        go_ret;exact⟨rfl,g.out.bel⟩
       ·go_wp2_with fail
        go_ret;exact⟨rfl,g.out.bel⟩
       ·go_wp2_with fail
        go_ret;exact⟨rfl,g.out.bel⟩
     ·have hin2:i+1<n:=by omega
      go_upto_region 24 with fail
      have q:=b2.out.here;rw[<-HQ.out]at q;dsimp only at q;obtain⟨⟨m0,m1,m2,m3⟩,_⟩:=B4.keep (show B4 y f q0 q1 q2 q3 from q);obtain⟨k0,k1,k2,k3,k4,k5,k6⟩:=o4.out.keep;clear q;go_wp2_with fail
      obtain⟨W,hW⟩:∃W,W=y.alloc (jC #[jI jJ l0,jI jJ l1,jI jJ l2,jI jJ l3] 37):=⟨_,rfl⟩;have N:=Below.new (w:=y) (jC #[jI jJ l0,jI jJ l1,jI jJ l2,jI jJ l3] 37);have hrW:bT pK 37 (y.alloc (jC #[jI jJ l0,jI jJ l1,jI jJ l2,jI jJ l3] 37)) 0 (.slice (some ⟨y.heap.size,0,none⟩) 1 1) [((l0,l1,l2,l3):cF)]:=bT.new y _ (zO _);rw[<-hW]at N hrW ⊢;have i0:=zA (b2.out.next N);have HXW:=zA (o4.out.next N);have b0:=aDL HLG.out a4.out.1 a4.out.2 hrW;obtain⟨r,hr⟩:∃r,r=OI (q0,q1,q2,q3) (l0,l1,l2,l3):=⟨_,rfl⟩;rw[<-hr]at b0;have HR:=zA hr;clear hW N hrW hr m0 m1 m2 m3 k0 k1 k2 k3 k4 k5 k6;unfold QV at b0;refine b0.mono ?_;obtain⟨r0,r1,r2,r3,r4⟩:=r;rintro e d ⟨d8,z⟩;have g:=zA (i0.out.next z);have HX13:=zA (HXW.out.next z);clear b0 z;dsimp only at d8;rcases d8 with⟨rfl,v13,rfl,a0⟩|⟨hz,rfl⟩
      ·obtain⟨g13,cap13,rfl,hg13,f7,x0,x1,x2,x3,hxe,y0,y1,y2,y3⟩:=a0.qua (i:=0) rfl;cases hxe;obtain⟨k0,k1,k2,k3,k4,k5,k6⟩:=HX13.out.keep;dsimp only[List.length_cons,List.length_nil]at*;have HW1:=zA (Below.new (w:=d) (jC #[jI jJ l0,jI jJ l1,jI jJ l2,jI jJ l3] 37));have y4:=zA (Below.new (w:=d.alloc (jC #[jI jJ l0,jI jJ l1,jI jJ l2,jI jJ l3] 37)) (jC #[.slice (some ⟨d.heap.size,0,none⟩) 1 1] 56));have a1:=zA ((g.out.next HW1.out).next y4.out);have HNL:=zA ((bT.new (E:=pK) (e:=37) (B:=w.heap.size) d ((l0,l1,l2,l3):cF) g.out.bel.size).next y4.out);have HR13:=zA ((a0.next HW1.out).next y4.out);have i4:=zA (show w.heap.size<=_ from a1.out.bel.size);obtain⟨S,hS1,hS2,hS3⟩:=a1.out.run;have x8:=zA hS1;have i3:=zA (And.intro hS2 hS3);have HLS:=zA (show S.length<=1000000000 by have:=t9.out;omega);have HEN:=zA (show((d.alloc (jC #[jI jJ l0,jI jJ l1,jI jJ l2,jI jJ l3] 37)).alloc (jC #[.slice (some ⟨d.heap.size,0,none⟩) 1 1] 56)).heap[d.heap.size+ 1]? =some (jC ⟨SK.enc ((some ⟨d.heap.size,0,none⟩,1,1):sK)⟩ 56 (0,0)) by
        have:=heap_alloc_new (d.alloc (jC #[jI jJ l0,jI jJ l1,jI jJ l2,jI jJ l3] 37)) (jC #[.slice (some ⟨d.heap.size,0,none⟩) 1 1] 56);rw[qF]at this;exact this)
       have HG13:=zA f7;clear a0 hg13 f7 hS1 hS2 hS3 i0 HXW;go_wp2_with (at_builtin;refine iW (E:=SK) rfl (.tmp 189) (.tmp 193) _ rfl 56 (.slice none 0 0) 24 Tryz.underlying29 Qd rfl (by decide) (by omega) w.heap.size (.slice A10 i c10) S rfl x8.out (d.heap.size+1) ((some ⟨d.heap.size,0,none⟩,1,1):sK) 1 rfl ⟨_,_,HEN.out⟩ HLS.out i4.out ?_)
       intro g10 z6 d9 X c3 hat14 hlt14;rw[i3.out.1];rw[i3.out.1]at X;have a3:=zA (KpE.row x8.out c3);have HGA:=zA c3;have HO14:=zA X;clear X c3 hat14 hlt14 k0 k1 k2 k3 k4 k5 k6 y0 y1 y2 y3;have r7:=HR13.out.kpe (show 33≠56 by decide) a3.out;obtain⟨g13b,cap13b,e13,_,_,x0,x1,x2,x3,hxe,y0,y1,y2,y3⟩:=r7.qua (i:=0) rfl;cases e13;cases hxe;have f8:B4 d9 f q0 q1 q2 q3:=by
        have h:=a3.out.same _ _ _ _ a1.out.here (by decide);rw[<-HQ.out]at h;exact h
       have n6:=zA f8;obtain⟨⟨m0,m1,m2,m3⟩,m4,m5,m6,m7⟩:=f8.keep;clear r7 f8;go_upto_region 29 with fail
       clear m0 m1 m2 m3 m4 m5 m6 m7 y0 y1 y2 y3;have a6:=n6.out.set4 r0 r1 r2 r3;have l5:=KpE.set4 n6.out (jI jJ r0) (jI jJ r1) (jI jJ r2) (jI jJ r3);obtain⟨v12,p1,p2,p3⟩:=a1.out.pls;have p2:=(p2.kpe (show 33≠56 by decide) a3.out).set4 p3 (jI jJ r0) (jI jJ r1) (jI jJ r2) (jI jJ r3);have p1:=l5.same _ _ _ _ (a3.out.same _ _ _ _ p1 (by decide)) (by decide);have O:Below w.heap.size w d9:=a1.out.bel.grown HGA.out a1.out.bel.size (fun k hk=>(x8.out.lt k hk).1);have O:=Below.set4 O (Nat.le_of_lt HBB.out.1) (jI jJ r0) (jI jJ r1) (jI jJ r2) (jI jJ r3);obtain⟨e6,s0⟩:∃e6,e6=((((d9.setCell ⟨f,0,none⟩ (jI jJ r0)).setCell ⟨f,1,none⟩ (jI jJ r1)).setCell ⟨f,2,none⟩ (jI jJ r2)).setCell ⟨f,3,none⟩ (jI jJ r3)):=⟨_,rfl⟩;rw[<-s0]at a6 l5 p1 p2 O ⊢;obtain⟨z0,c7⟩:∃L,L=(qL (i+1)).map (oP s (a,a,c,c)):=⟨_,rfl⟩;have J:z0.length=i+1:=by rw[c7];simp
       rw[<-c7]at p2;obtain⟨s2,z5,rfl⟩:=p2.slice;rw[J]at p1 p2 p3;have HH15:=zA a6;have HKB:=zA l5;have HBL:=zA O;have e9:=zA (And.intro c7 J);have HP3:=zA p3;have HP1:=zA p1;have b6:=zA (Below.new (w:=e6) (jC #[jI jJ r0,jI jJ r1,jI jJ r2,jI jJ r3] 33));have x7:=zA (p2.next b6.out);have HP1a:=zA (show _=some (Obj.cells #[.slice s2 (i+1) z5] 35 (0,0))from(b6.out.block _ (Array.getElem?_eq_some_iff.1 p1).1).trans p1);have e8:=zA (a6.next b6.out);have o1:=zA (show w.heap.size<=_ from zJ O.size b6.out.size);have HLS3:=zA (show z0.length<=1000000000 by have:=t9.out;omega);obtain⟨m0,_⟩:=sZ p1;obtain⟨⟨m1,m2,m3,m4⟩,_⟩:=a6.keep;clear s0 a6 l5 p1 p2 p3 O c7 J;go_wp2_with (at_builtin;refine iW (E:=pK) rfl (.tmp 198) (.tmp 200) _ rfl 33 (.agg #[jI jJ 0,jI jJ 0,jI jJ 0,jI jJ 0]) 32 Tryz.underlying35 ZJ rfl (by decide) (by omega) w.heap.size (.slice s2 (i+1) z5) z0 rfl x7.out e6.heap.size ((r0,r1,r2,r3):cF) 1 rfl ⟨_,_,heap_alloc_new e6 _⟩ HLS3.out o1.out ?_)
       intro i5 M m8 Y U f3 hlt16;rw[e9.out.2];rw[e9.out.2]at Y;have hkC:=KpE.row x7.out U;have p1:=hkC.same _ _ _ _ HP1a.out (by decide);have q7:B4 m8 f r0 r1 r2 r3:=(U.block _ e8.out.lt (fun e=>HP3.out e.symm)).trans e8.out;have O:Below w.heap.size w m8:=(HBL.out.trans (b6.out.mono HBL.out.size)).grown U o1.out (fun k hk=>(x7.out.lt k hk).1);have r8:(Value.slice (some ⟨i5,0,none⟩) (i+1+1) M).ownBlock≠some f:=by
        intro e;simp only[Value.ownBlock,zL.injEq]at e;rcases f3 with h|h
        ·exact HP3.out (by rw[h,e])
        ·have:=HH15.out.lt;rw[e]at h;omega
       have HKC:=zA hkC;have o0:=zA p1;have HH16:=zA q7;have HB16:=zA O;have HSEP:=zA r8;have HO16:=zA Y;obtain⟨m5,m6⟩:=sZ p1;clear hkC p1 q7 O r8 Y U f3 hlt16 m0 m1 m2 m3 m4;have hw2:i64.wrap ((i:Int)+1)=(i:Int)+1:=cN (by omega);go_wp2_with fail
       have kD:=KpE.box o0.out (.slice (some ⟨i5,0,none⟩) (i+1+1) M);have kAB:∀{k:Nat} {vs:Array Value} {t:TypeId} {r:Nat×Nat},_->t≠56->t≠33->t≠35->_:=fun {k vs t r} (h:((d.alloc (jC #[jI jJ l0,jI jJ l1,jI jJ l2,jI jJ l3] 37)).alloc (jC #[.slice (some ⟨d.heap.size,0,none⟩) 1 1] 56)).heap[k]? =some (Obj.cells vs t r)) h1 h2 h3=>kD.same _ _ _ _ (HKC.out.same _ _ _ _ ((KpE.below (e:=33) b6.out).same _ _ _ _ (HKB.out.same _ _ _ _ (a3.out.same _ _ _ _ h h1) h2) h2) h2) h3;have rows:∀{α:Type} {E:Elem α} {e:TypeId} {v:Value} {l:List α},bT E e d9 w.heap.size v l->e≠33->e≠35->bT E e (m8.setCell ⟨a5,0,none⟩ (.slice (some ⟨i5,0,none⟩) (i+1+1) M)) w.heap.size v l:=fun h h1 h2=>(((h.kpe h1 HKB.out).next b6.out).kpe h1 HKC.out).kpe h2 kD;have hR0:OI (oP s (a,a,c,c) i) (s i).leg=(r0,r1,r2,r3,0):=by rw[<-HQ.out,<-HE.out.2.2.2];exact HR.out.symm
       have hPl:oP s (a,a,c,c) (i+1)=(r0,r1,r2,r3):=by rw[aC8,TN,hR0]
       have HNX:=zA (show LoI w f a5 n a c s (i+1) (.slice (some ⟨g9,0,none⟩) (i+1) p4) (.slice (some ⟨g10,0,none⟩) (i+1) z6) (m8.setCell ⟨a5,0,none⟩ (.slice (some ⟨i5,0,none⟩) (i+1+1) M))from by
        refine LoI.step (S:=S) (sl:=(some ⟨d.heap.size,0,none⟩,1,1)) hin2 x9.out (rows (a1.out.cir.kpe (by decide) a3.out) (by decide) (by decide)) (rows HO14.out (by decide) (by decide)) i3.out.1 (fun j x hx=>rows ((i3.out.2 j x hx).kpe (by decide) a3.out) (by decide) (by decide)) ?_ ?_ (V7 o0.out _) ?_ HSEP.out (kAB a1.out.pt (by decide) (by decide) (by decide)) (HB16.out.setCell (p:=⟨a5,0,none⟩) (by have:=HBB.out;show w.heap.size<=a5;omega) _) (by rw[hR0])
        ·rw[<-HE.out.2.2.2];exact rows (HNL.out.kpe (by decide) a3.out) (by decide) (by decide)
        ·rw[hPl];exact kD.same _ _ _ _ HH16.out (by decide)
        ·rw[hPl,<-e9.out.1];exact HO16.out.kpe (by decide) kD)
       go_roundw
       case rel=>exact⟨i+1,by go_num,HNX.out⟩
       case measure=>simp only[intOf];omega
      ·have hz2:(r4 != 0)=true:=bne_iff_ne.2 hz;go_wp2_with fail
       go_ret;exact⟨rfl,g.out.bel⟩
end
section
open Go.RowKit Go.Sort Rg
open Ev (aF)
attribute [local instance] nP
attribute [local go_sem] Oper.semAt_some
theorem Jv(g:Int)(h:-10800000<=g/\g<10800000):kE 0 0 g g 3600000 3600000=true:=by
 unfold kE;rw[mL (by omega) (by omega) (by omega) (.inr ⟨h.1,h.2,zV g,by omega⟩),aW (show(-1099511627776:Int)<=3600000 by omega) (zV 3600000) (by omega)];rfl
theorem aDa:GivI exP 4 [(Q3 0,[]),(Q3 5400000,[])] [(none,0,0)] where
 vp:=nZ ⟨⟨by decide,by decide,by decide⟩,.inr ⟨by decide,by decide,by decide,by decide⟩⟩
 kp:=.inr ⟨by decide,by decide,by decide,by decide⟩
 lev:=by omega
 len:=rfl
 few:=by simp
 first:=fun d h=>by cases h;rfl
 cir:=fun d h=>by
  simp only[zI,abQ,or_false]at h;rcases h with rfl|rfl
  ·exact Jv 0 (by omega)
  ·exact Jv 5400000 (by omega)
 leg:=fun d h=>by
  simp only[zI,abQ,or_false]at h;rcases h with rfl|rfl<;>exact⟨by simp,fun g a=>by cases a⟩
theorem aDc{W:World}{a b:Nat}(l:W.heap[a]? =some (jC #[jI jJ 0,jI jJ 0,jI jJ 0,jI jJ 0,jI jJ 3600000,jI jJ 3600000,jI jJ 0,jI jJ 0,jI jJ 5400000,jI jJ 5400000,jI jJ 3600000,jI jJ 3600000] 49 (0,0)))(k:W.heap[b]? =some (jC #[.slice none 0 0] 56 (0,0))):
  Calls zB 18 #[.slice (some ⟨a,0,none⟩) 2 2,.slice (some ⟨b,0,none⟩) 1 1,.agg #[jI jJ 0,jI jJ 3000000,jI jJ 0,jI jJ 5400000],jI jJ 4] W (fun e w'=>∃A n c,(0:Int)<(n:Nat)/\e=.returned (.tuple #[.slice A n c,jI jJ 0])/\Below W.heap.size W w'):=by
 obtain⟨t,g,p,x,u⟩:=aD9;have m:bT oS 49 W 0 (.slice (some ⟨a,0,none⟩) 2 2) ([((Q3 0,[]):fT×List cF),(Q3 5400000,[])].map (·.1)):=
  ⟨rfl,.inr ⟨a,2,_,rfl,zO _,l,by simp,by simp[maxLen],rfl,rfl⟩⟩
 have o:bT SK 56 W 0 (.slice (some ⟨b,0,none⟩) 1 1) [((none,0,0):sK)]:=
  ⟨rfl,.inr ⟨b,1,_,rfl,zO _,k,by simp,by simp[maxLen],rfl,rfl⟩⟩
 have h:=Jw (w:=W) aDa m o (fun j s f=>by
  match j,f with
  | 0,f=>
   cases f;exact⟨_,rfl,bT.nil⟩)
 rw[p]at h;refine h.mono ?_;rintro e w' ⟨⟨i,L,v,d,rfl,r⟩|⟨e0,_,⟨i,d⟩,_⟩,q⟩
 ·obtain⟨A,c,rfl⟩:=r.slice;have e1:L=g:=by
   have:=congrArg List.getLast? d;simp at this;exact this.symm
  exact⟨A,L.length,c,by rw[e1];omega,rfl,q⟩
 ·have:=congrArg List.getLast? d;simp at this
theorem Fe{w0 W w1:World}{k:Nat}{e f g i:Value}(h:(W.cell? ⟨k,0,none⟩=some e/\W.cell? ⟨k,1,none⟩=some f/\W.cell? ⟨k,2,none⟩=some g/\W.cell? ⟨k,3,none⟩=some i)/\Below w0.heap.size w0 W)(b:Below W.heap.size W w1):
  (w1.cell? ⟨k,0,none⟩=some e/\w1.cell? ⟨k,1,none⟩=some f/\w1.cell? ⟨k,2,none⟩=some g/\w1.cell? ⟨k,3,none⟩=some i)/\Below w0.heap.size w0 w1:=by
 obtain⟨⟨c,j,l,m⟩,d⟩:=h;have a:=World.block_lt_of_cell? W _ c;exact⟨⟨(b.cell (p:=⟨k,0,none⟩) a).trans c,(b.cell (p:=⟨k,1,none⟩) a).trans j,(b.cell (p:=⟨k,2,none⟩) a).trans l,(b.cell (p:=⟨k,3,none⟩) a).trans m⟩,d.trans (b.mono d.size)⟩
theorem at9(n:Int)(w:World):Calls zB 9 #[jI jJ n] w fun e w'=>e=.returned (.agg #[jI jJ n,jI jJ n])/\Below w.heap.size w w':=aI (kX n) w
theorem Oi{w:World}(R:∀w',Below w.heap.size w w'->Calls zB 20 #[.agg #[jI jJ 0,jI jJ 0,jI jJ 0,jI jJ 0,jI jJ 3600000,jI jJ 3600000]] w' (GP (.tuple #[.agg #[jI jJ 1800000,jI jJ 1800000,jI jJ 16200000,jI jJ 16200000],jI jJ 0]) w')):
    Calls zB 4 #[] w (GP (.bool true) w):=by
  have I:=zA R
  clear R
  go_enter Tryz.func4,Tryz.ntmps4
  go_wp2_with fail
  refine(at9 3600000 w).mono ?_
  rintro e U ⟨rfl,k⟩
  go_wp2_with fail
  refine(I.out U k).mono ?_
  rintro e d ⟨rfl,u⟩
  have i:=zA (k.trans (u.mono k.size))
  clear k u
  go_wp2_with fail
  refine(at9 3600000 _).mono ?_
  rintro e f ⟨rfl,x⟩
  have j:=zA x
  clear x
  go_wp2_with fail
  refine(at9 5400000 _).mono ?_
  rintro e w4 ⟨rfl,y⟩
  have q:=zA y
  clear y
  go_wp2_with fail
  refine(at9 3600000 _).mono ?_
  rintro e b ⟨rfl,z⟩
  have K:Below d.heap.size d f:=((zD _ d).alloc (zC _) _).trans (j.out.mono (by simp))
  have L:Below (f.heap.size+1) (f.alloc (jC #[jI jJ 0,jI jJ 0,jI jJ 0,jI jJ 0,jI jJ 3600000,jI jJ 3600000] 49)) b:=(q.out.trans (z.mono q.out.size)).mono (by simp)
  have r:Below f.heap.size f b:=((zD _ f).alloc (zC _) _).trans (L.mono (by omega))
  have o:b.heap[d.heap.size]? =some (jC #[jI jJ 1800000,jI jJ 1800000,jI jJ 16200000,jI jJ 16200000] 73 (0,0)):=
    (r.block _ (by have:=j.out.size;simp at this;omega)).trans ((j.out.block _ (by simp)).trans (heap_alloc_new d _))
  have p:b.heap[f.heap.size]? =some (jC #[jI jJ 0,jI jJ 0,jI jJ 0,jI jJ 0,jI jJ 3600000,jI jJ 3600000] 49 (0,0)):=(L.block _ (by omega)).trans (heap_alloc_new f _)
  have l3:f.heap.size<b.heap.size:=(Array.getElem?_eq_some_iff.1 p).1
  have l:Below w.heap.size w b:=(i.out.trans (K.mono i.out.size)).trans (r.mono (zJ i.out.size K.size))
  clear i j q K L r z
  have H:=zA l
  have G:=zA o
  clear l o
  have X:=eU (jC ⟨[jI jJ 0,jI jJ 3000000,jI jJ 0,jI jJ 5400000]⟩ 33) (eU (W:=b) (jC #[jI jJ 0,jI jJ 0,jI jJ 5400000,jI jJ 5400000,jI jJ 3600000,jI jJ 3600000] 49) (a:=⟨f.heap.size,0,none⟩) (v:=jI jJ 0) (by simp[World.cell?,p]))
  have c1:=eU (jC ⟨[jI jJ 0,jI jJ 3000000,jI jJ 0,jI jJ 5400000]⟩ 33) (eU (W:=b) (jC #[jI jJ 0,jI jJ 0,jI jJ 5400000,jI jJ 5400000,jI jJ 3600000,jI jJ 3600000] 49) (a:=⟨f.heap.size,1,none⟩) (v:=jI jJ 0) (by simp[World.cell?,p]))
  have Y:=eU (jC ⟨[jI jJ 0,jI jJ 3000000,jI jJ 0,jI jJ 5400000]⟩ 33) (eU (W:=b) (jC #[jI jJ 0,jI jJ 0,jI jJ 5400000,jI jJ 5400000,jI jJ 3600000,jI jJ 3600000] 49) (a:=⟨f.heap.size,2,none⟩) (v:=jI jJ 0) (by simp[World.cell?,p]))
  have Z:=eU (jC ⟨[jI jJ 0,jI jJ 3000000,jI jJ 0,jI jJ 5400000]⟩ 33) (eU (W:=b) (jC #[jI jJ 0,jI jJ 0,jI jJ 5400000,jI jJ 5400000,jI jJ 3600000,jI jJ 3600000] 49) (a:=⟨f.heap.size,3,none⟩) (v:=jI jJ 0) (by simp[World.cell?,p]))
  have c4:=eU (jC ⟨[jI jJ 0,jI jJ 3000000,jI jJ 0,jI jJ 5400000]⟩ 33) (eU (W:=b) (jC #[jI jJ 0,jI jJ 0,jI jJ 5400000,jI jJ 5400000,jI jJ 3600000,jI jJ 3600000] 49) (a:=⟨f.heap.size,4,none⟩) (v:=jI jJ 3600000) (by simp[World.cell?,p]))
  have c5:=eU (jC ⟨[jI jJ 0,jI jJ 3000000,jI jJ 0,jI jJ 5400000]⟩ 33) (eU (W:=b) (jC #[jI jJ 0,jI jJ 0,jI jJ 5400000,jI jJ 5400000,jI jJ 3600000,jI jJ 3600000] 49) (a:=⟨f.heap.size,5,none⟩) (v:=jI jJ 3600000) (by simp[World.cell?,p]))
  clear p
  go_wp2_with fail
  have s:Below b.heap.size b ((((b.alloc (jC #[jI jJ 0,jI jJ 0,jI jJ 5400000,jI jJ 5400000,jI jJ 3600000,jI jJ 3600000] 49)).alloc (jC #[jI jJ 0,jI jJ 3000000,jI jJ 0,jI jJ 5400000] 33)).alloc (jC #[jI jJ 0,jI jJ 0,jI jJ 0,jI jJ 0,jI jJ 3600000,jI jJ 3600000,jI jJ 0,jI jJ 0,jI jJ 5400000,jI jJ 5400000,jI jJ 3600000,jI jJ 3600000] 49)).alloc (jC #[.slice none 0 0] 56)):=
    ((((zD _ b).alloc (zC _) _).alloc (by simp) _).alloc (by simp;omega) _).alloc (by simp;omega) _
  have Q:=(zW (((b.alloc (jC #[jI jJ 0,jI jJ 0,jI jJ 5400000,jI jJ 5400000,jI jJ 3600000,jI jJ 3600000] 49)).alloc (jC #[jI jJ 0,jI jJ 3000000,jI jJ 0,jI jJ 5400000] 33)).alloc (jC #[jI jJ 0,jI jJ 0,jI jJ 0,jI jJ 0,jI jJ 3600000,jI jJ 3600000,jI jJ 0,jI jJ 0,jI jJ 5400000,jI jJ 5400000,jI jJ 3600000,jI jJ 3600000] 49)) (jC #[.slice none 0 0] 56) (b.heap.size+1+1) (by simp)).trans (show _=some (jC #[jI jJ 0,jI jJ 0,jI jJ 0,jI jJ 0,jI jJ 3600000,jI jJ 3600000,jI jJ 0,jI jJ 0,jI jJ 5400000,jI jJ 5400000,jI jJ 3600000,jI jJ 3600000] 49 (0,0)) by
    have:=heap_alloc_new ((b.alloc (jC #[jI jJ 0,jI jJ 0,jI jJ 5400000,jI jJ 5400000,jI jJ 3600000,jI jJ 3600000] 49)).alloc (jC #[jI jJ 0,jI jJ 3000000,jI jJ 0,jI jJ 5400000] 33)) (jC #[jI jJ 0,jI jJ 0,jI jJ 0,jI jJ 0,jI jJ 3600000,jI jJ 3600000,jI jJ 0,jI jJ 0,jI jJ 5400000,jI jJ 5400000,jI jJ 3600000,jI jJ 3600000] 49)
    rwa[qF,qF]at this)
  have M:=heap_alloc_new (((b.alloc (jC #[jI jJ 0,jI jJ 0,jI jJ 5400000,jI jJ 5400000,jI jJ 3600000,jI jJ 3600000] 49)).alloc (jC #[jI jJ 0,jI jJ 3000000,jI jJ 0,jI jJ 5400000] 33)).alloc (jC #[jI jJ 0,jI jJ 0,jI jJ 0,jI jJ 0,jI jJ 3600000,jI jJ 3600000,jI jJ 0,jI jJ 0,jI jJ 5400000,jI jJ 5400000,jI jJ 3600000,jI jJ 3600000] 49)) (jC #[.slice none 0 0] 56)
  rw[qF,qF,qF]at M
  have D:=aDc Q M
  refine D.mono ?_
  clear D Q M X c1 Y Z c4 c5
  rintro e h ⟨A,n,c,E,rfl,B⟩
  obtain⟨m,rfl⟩:∃m,n=m+1:=⟨n-1,by omega⟩
  have E:(0:Int)<((m+1:Nat):Int):=E
  have g:Below b.heap.size b h:=s.trans (B.mono s.size)
  have t:=H.out.trans (g.mono H.out.size)
  have o:=(g.block _ (Array.getElem?_eq_some_iff.1 G.out).1).trans G.out
  have O:h.cell? ⟨d.heap.size,0,none⟩=some (jI jJ 1800000):=by simp[World.cell?,o]
  have d1:h.cell? ⟨d.heap.size,1,none⟩=some (jI jJ 1800000):=by simp[World.cell?,o]
  have d2:h.cell? ⟨d.heap.size,2,none⟩=some (jI jJ 16200000):=by simp[World.cell?,o]
  have d3:h.cell? ⟨d.heap.size,3,none⟩=some (jI jJ 16200000):=by simp[World.cell?,o]
  have J:=zA (show(h.cell? ⟨d.heap.size,0,none⟩=some (jI jJ 1800000)/\h.cell? ⟨d.heap.size,1,none⟩=some (jI jJ 1800000)/\h.cell? ⟨d.heap.size,2,none⟩=some (jI jJ 16200000)/\h.cell? ⟨d.heap.size,3,none⟩=some (jI jJ 16200000))/\Below w.heap.size w h from⟨⟨O,d1,d2,d3⟩,t⟩)
  clear s B g H G o t O d1 d2 d3
  go_wp2_with fail
  go_region_held3 (fun w'=>(w'.cell? ⟨d.heap.size,0,none⟩=some (jI jJ 1800000)/\w'.cell? ⟨d.heap.size,1,none⟩=some (jI jJ 1800000)/\w'.cell? ⟨d.heap.size,2,none⟩=some (jI jJ 16200000)/\w'.cell? ⟨d.heap.size,3,none⟩=some (jI jJ 16200000))/\Below w.heap.size w w')
    (first
      |(with_reducible exact J.out)
      |(with_reducible exact SS.out)
      |(with_reducible exact Fe J.out (xO (zD _ _)))
      |(with_reducible exact Fe SS.out (xO (zD _ _)))
      |fail)
    (first
      | (go_at_call 9
         with_reducible refine(at9 _ _).mono ?_
         rintro e w7 ⟨rfl,N⟩
         have SS:=zA (Fe (w1:=w7) (by assumption) N))
      |fail)
  all_goals (have V:=zA SS.out.2;clear SS J;go_wp2_with fail;go_ret;exact⟨rfl,V.out⟩)
end
section
attribute [local instance] Ev.gl0
open Ev
open Ev (aF)
theorem U7{x y p q:Int}(f:-1073741824<=x)(a:x<=y)(g:y<=1073741824)(b:oJ x p)(c:oJ (-y) q):dG x y=(p,-q,0):=by
 have e1:rW x=p:=Ck (by omega) b;have e2:rW (-y)=q:=Ck (by omega) c;unfold dG;rw[show aX x y=true from decide_eq_true ⟨by omega,a,by omega⟩];simp only[Bool.true_eq_false,if_false];have d:max x (-1073741824)=x:=by omega
 have e:min y 1073741824=y:=by omega
 rw[d,e,if_pos a,e1,e2]
def asT:List (Int×Int×Int×Int):=[(536870912,536870912,1800000,-1800000),(929887696,929887697,3599999,-3600001),(536870641,536871183,1799998,-1800002),(-4,2,-1,-1)]
noncomputable def asG(x y:Int):List (Int×Int×Int×Int)->Int×Int×Int
 | []=>dG x y
 |e::l=>if x=e.1/\y=e.2.1 then(e.2.2.1,-e.2.2.2,0) else asG x y l
theorem Tq(x y:Int):∀l:List (Int×Int×Int×Int),(∀e∈l,dG e.1 e.2.1=(e.2.2.1,-e.2.2.2,0))->asG x y l=dG x y
 | [],_=>rfl
 |e::l,h=>by
  unfold asG;split
  ·rename_i k;rw[k.1,k.2];exact(h e List.mem_cons_self).symm
  ·exact Tq x y l fun a q=>h a (List.mem_cons_of_mem _ q)
theorem aCw(x y:Int):asG x y asT=dG x y:=Tq x y _ (by
 intro e a;simp only[asT,zI,abQ,or_false]at a;rcases a with rfl|rfl|rfl|rfl<;>exact U7 (by decide) (by decide) (by decide) ⟨by decide,by decide,by decide+kernel,.inr (by decide+kernel)⟩ ⟨by decide,by decide,by decide+kernel,.inr (by decide+kernel)⟩)
noncomputable def kBl:bW:=(45,eP (fun a b=>aT (asG a b asT)))::(52,eP (fun a b=>aT (fK a b)))::(53,eP (fun a b=>aT (bB a b)))::(83,GU (fun a b c d=>aT (aQ a b c d)))::(84,GU (fun a b c d=>aT (aZ a b c d)))::(171,GU (fun a b c d=>aT (VG a b c d)))::(212,eP (fun a b=>aT (OG a b)))::(218,eP (fun a b=>aT (YX a b)))::(260,GU (fun a b c d=>aT (Ai a b c d)))::(261,GU (fun a b c d=>aT (aD4 a b c d)))::[]
theorem aDk:aO zB kBl:=(aA (cX (fun a b W _=>by rw[aCw];exact Tu a b W)) (aA (cX (fun a b W _=>Af a b W)) (aA (cX (fun a b W _=>WI a b W)) (aA (dZ pO) (aA (dZ pW) (aA (dZ (fun a b c d W _=>VH a b c d W)) (aA (cX (fun a b W _=>aEU a b W)) (aA (cX LW) (aA (dZ NM) (aA (dZ Ea) dK))))))))))
noncomputable def byV(m:Int):Option AV:=t8 zB [] Cs kBl 100 12 75 [.v (jI jJ m),.v (.agg ⟨[jI jJ 0,jI jJ 0,jI jJ 0,jI jJ 0,jI jJ 3600000,jI jJ 3600000]⟩)] [] [] aAo
theorem oU{m:Int}{r:Int×Int×Int×Int×Int}(h:byV m=some (.v (nM r))):aF zB 75 [jI jJ m,.agg ⟨[jI jJ 0,jI jJ 0,jI jJ 0,jI jJ 0,jI jJ 3600000,jI jJ 3600000]⟩] (nM r):=
 PH (vs:=[jI jJ m,.agg ⟨[jI jJ 0,jI jJ 0,jI jJ 0,jI jJ 0,jI jJ 3600000,jI jJ 3600000]⟩]) mixed eB Sx aDk h
def exM(m:Int):Int×Int×Int×Int×Int:=if m=1 then(1800000,1800000,16200000,16200000,0) else if m=2 then(1800000,1800000,16199999,16200001,0) else if m=3 then(1799998,1800002,16200000,16200000,0) else if m=4 then(1799998,1800002,16200000,16200000,0) else(1800000,1800000,16200000,16200000,0)
theorem aEi:byV 1=some (.v (nM (exM 1))):=by kernel_rfl
theorem aEj:byV 2=some (.v (nM (exM 2))):=by kernel_rfl
theorem aEk:byV 3=some (.v (nM (exM 3))):=by kernel_rfl
theorem aEm:byV 5=some (.v (nM (exM 5))):=by kernel_rfl
theorem aEl:byV 4=some (.v (nM (exM 4))):=by kernel_rfl
end
end Go.Proofs.YtlbklncoihhfcaaGreatDoor
