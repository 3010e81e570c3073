/-
  running.Steps. The walk. running.Fix. The walk. The addition theorem of truncated sines and cosines, with its error. No program here. The sine and the cosine of any angle, as numbers near enough:.
-/
import Derived.Test.YtlbklncoihhfcaaGreatDoorU18
import Derived.Maps.AppendAt
import Derived.Test.YtlbklncoihhfcaaGreatDoorU3
import Derived.Test.YtlbklncoihhfcaaGreatDoorU14
import Derived.Test.YtlbklncoihhfcaaGreatDoorU2
set_option maxRecDepth 100000
set_option maxHeartbeats 4000000
open Go.RowKit.Below renaming heap_alloc→zW
open Go.Lib renaming hid→zA
open _root_.List renaming length_append→zU,length_cons→zM,length_map→qC,map_append→acJ
open _root_.Nat renaming beq→yD,land→ahQ,le_of_lt→qZ,le_refl→zC,rec→akX,zero_le→zO
open _root_.Option renaming some→zL
open _root_.Rat renaming intCast_add→yI,intCast_le_intCast→qU,mul_nonneg→zN
open Go.Proofs.Tryz renaming prog→zB
open Go.Value renaming int→jI
open Go.IntKind renaming i64→jJ
open Go.Obj renaming cells→jC
namespace Go.Proofs.YtlbklncoihhfcaaGreatDoor
noncomputable section
section
open Go Go.RowKit Go.Shelf Rg
open Ev (aF)
attribute [local instance] nP
attribute [local go_sem] Oper.semAt_some wS KK
theorem aAr{g:cF}(h:lX g):FQ g.1 g.2.1 g.2.2.1 g.2.2.2=false:=by
 obtain⟨v,b,a,c⟩:=h;unfold FQ;rw[v,aW (show -1099511627776<=g.2.2.1 by omega) a (by omega),decide_eq_false (show ¬g.2.2.1<0 by omega)];rfl
theorem aDb{B:Nat}(x:Value×(Int ⊕ List Rg.Blk)):cL B (YQ x):=by
 obtain⟨v,r⟩:=x;cases r with
 |inl e=>exact cL.pure _
 |inr L=>exact cL.row.and (cL.pure _)
theorem KpT.grown{X Y:World}{row:Option Nat}(h:X.grownBy Y row)(d:∀k vs t r,row=some k->X.heap[k]? =some (Obj.cells vs t r)->t=60\/t=57):KpT X Y:=
 ⟨h.size,fun k vs t r a b c=>(h.block k (Array.getElem?_eq_some_iff.1 a).1 (fun e=>(d k vs t r e.symm a).elim b c)).trans a⟩
theorem KpT.box{X:World}{b:Nat}{v u:Value}(h:Boxed X b 57 v):KpT X (X.setCell ⟨b,0,none⟩ u):=
 KpT.grown (grownBy_setCell' X b u) fun k c t r e a=>by
  cases e;rw[show X.heap[b]? =_ from h]at a;cases a;exact .inr rfl
theorem aD1{V b:World}{i n:Nat}{L:List Rg.Blk}(l:n=L.length)(o:i<=V.heap.size){z:List Value}(v:b.ownsRow i 63 3 (.slice (some ⟨V.heap.size,0,none⟩) n n) n z)(c:V.grownBy b none):
  ∃a:Array Value,b.heap[V.heap.size]? =some (jC a 63 (0,0))/\(bN AH L).length<=a.size/\(∀f,f=b.setRow V.heap.size (bN AH L++a.toList.drop (bN AH L).length).toArray->RC f i (.slice (some ⟨V.heap.size,0,none⟩) n n) L/\Below V.heap.size V f):=by
 obtain⟨_,t|⟨g,m,a,x,_,d,r,h,w,_⟩⟩:=v
 ·cases t.1
 cases x;have u:(bN AH L).length=n*3:=by rw[eW,l];rfl
 have q:Below V.heap.size V b:=⟨c.os,c.tape,c.output,c.size,fun k j=>c.block k j (by simp)⟩;refine⟨a,d,by omega,fun f p=>?_⟩;rw[p];refine⟨?_,q.trans ⟨rfl,rfl,rfl,by simp[World.setRow],fun k j=>setRow_other b V.heap.size k _ (by omega)⟩⟩;have s:a.toList.drop (bN AH L).length=[]:=List.drop_eq_nil_of_le (by rw[Array.length_toList];omega);rw[s,List.append_nil];refine⟨by rw[eW],.inr ⟨V.heap.size,n,_,by rw[l],o,setRow_heap b _ _ _ _ _ d,by omega,h,by simp[u];rfl,?_⟩⟩;have e:L.length*AH.k=(bN AH L).length:=by rw[eW]
 rw[e];simp
theorem FB.set{W:World}{f b:Nat}{v u x:Value}{t:TypeId}{c:List sK}{a:List (List Rg.Blk)}(h:FB W f v c a)(d:Boxed W b t u)(g:t≠60)(j:t≠63):FB (W.setCell ⟨b,0,none⟩ x) f v c a:=
 ⟨h.1.kept (grownBy_setCell' W b x) (.inr (d.not_row g h.1).symm),h.2.1,fun i s l=>by
  obtain⟨L,k,e⟩:=h.2.2 i s l;exact⟨L,k,e.kept (grownBy_setCell' W b x) (.inr (d.not_row j e).symm)⟩⟩
theorem NL{w:World}{p:cF}{level:Nat}{cv lv:Value}{D:List (fT×List cF)}{S:List sK}(G:GivI p level D S)(hC:bT oS 49 w 0 cv (D.map (·.1)))(hS:bT SK 56 w 0 lv S)
  (hL:∀j s,S[j]? =some s->∃d,D[j+ 1]? =some d/\bT pK 37 w 0 (.slice s.1 s.2.1 s.2.2) d.2):Calls zB 13 #[cv,lv,QV p,jI jJ (level:Int)] w (OT w (dB level D (dV p level))):=by
 refine(callsIn_wide (n:=6)).1 ?_;have J:0<D.length:=by have:=G.len;omega
 have f2:=fun(w1:World) (hb:Below w.heap.size w w1)=>D8 (C:=D.map (·.1)) (S:=S) (p:=p) (lev:=(level:Int)) (hC.next hb) (hS.next hb) (fun s hs=>by
  obtain⟨j,hj⟩:=List.getElem?_of_mem hs;obtain⟨d,hd,hr⟩:=hL j s hj;have hm:=List.mem_of_getElem? hd;exact⟨d.2,hr.next hb,(G.leg d hm).1,fun g hg=>aAr ((G.leg d hm).2 g hg)⟩) (fun c hc=>by
  obtain⟨d,hd,rfl⟩:=List.mem_map.1 hc;exact G.cir d hd) (by rw[qC];exact G.len) (by rw[qC];exact G.few) G.vp (by omega) (by have:=G.lev;omega)
 have e7:=zA f2;have HG:=zA G;have HC:=zA hC;have HS:=zA hS;have HL:=zA hL;obtain⟨gC,cC,g7⟩:∃g c,cv=.slice (some ⟨g,0,none⟩) D.length c:=by
  obtain⟨g,c,h,_⟩:=hC.cir (i:=0) (b:=(D[0]'J).1) (by simp[J]);exact⟨g,c,by rw[h,qC]⟩
 obtain⟨Ar,cR,i4⟩:=hS.slice;subst g7 i4;clear f2 G hC hS hL J;unfold QV at e7 ⊢;obtain⟨a,Y⟩:∃a,a=w.heap.size:=⟨_,rfl⟩;have f:=zA Y;obtain⟨W3,d7⟩:∃W3,W3=((w.alloc (jC #[jI jJ p.1,jI jJ p.2.1,jI jJ p.2.2.1,jI jJ p.2.2.2] 33)).alloc (jC #[.slice none 0 0] 57)).alloc (jC #[jI jJ 0] 41):=⟨_,rfl⟩;have F3:W3.heap[a]? =some (Obj.cells #[jI jJ p.1,jI jJ p.2.1,jI jJ p.2.2.1,jI jJ p.2.2.2] 33 (0,0))/\W3.heap[a+ 1]? =some (Obj.cells #[.slice none 0 0] 57 (0,0))/\W3.heap[a+1+ 1]? =some (Obj.cells #[jI jJ 0] 41 (0,0))/\Below a w W3:=by
  have h1:=heap_alloc_new w (jC #[jI jJ p.1,jI jJ p.2.1,jI jJ p.2.2.1,jI jJ p.2.2.2] 33);have h2:=heap_alloc_new (w.alloc (jC #[jI jJ p.1,jI jJ p.2.1,jI jJ p.2.2.1,jI jJ p.2.2.2] 33)) (jC #[.slice none 0 0] 57);have m:=heap_alloc_new ((w.alloc (jC #[jI jJ p.1,jI jJ p.2.1,jI jJ p.2.2.1,jI jJ p.2.2.2] 33)).alloc (jC #[.slice none 0 0] 57)) (jC #[jI jJ 0] 41);simp only[World.size_alloc]at h2 m;rw[d7,Y];refine⟨?_,?_,m,((Below.new _).alloc (by simp) _).alloc (by simp;omega) _⟩
  ·rw[zW _ _ _ (by simp;omega),zW _ _ _ (by simp)];exact h1
  ·rw[zW _ _ _ (by simp)];exact h2
 have E:=zA F3;refine callsIn_of_wp_marks Tryz.func13 rfl trivial ?_ rfl;simp only[Tryz.ntmps13,List.size_toArray,zM,List.length_nil,Nat.reduceAdd,Nat.reduceSub,Array.replicate_succ,Array.replicate_zero,List.push_toArray,List.append_toArray,List.nil_append,List.cons_append];clear F3 Y;gi_upto_region 1 with fail
 rw[<-d7];have e3:w.heap.size=a:=f.out.symm;rw[e3];obtain⟨q,a7⟩:∃q,q=a+1:=⟨_,rfl⟩;obtain⟨u,a9⟩:∃u,u=a+1+1:=⟨_,rfl⟩;rw[<-a9,<-a7]at E ⊢;have I:=zA (And.intro a7 a9);clear d7 e3 a7 a9;have g6:=zA (f.out ▸ E.out.2.2.2);have k0:W3.cell? ⟨a,0,none⟩=some (jI jJ p.1):=by simp[World.cell?,E.out.1]
 have k1:W3.cell? ⟨a,1,none⟩=some (jI jJ p.2.1):=by simp[World.cell?,E.out.1]
 have k2:W3.cell? ⟨a,2,none⟩=some (jI jJ p.2.2.1):=by simp[World.cell?,E.out.1]
 have k3:W3.cell? ⟨a,3,none⟩=some (jI jJ p.2.2.2):=by simp[World.cell?,E.out.1]
 gi_wp2
 refine⟨trivial,(callsIn_wide.2 (e7.out _ (by rw[<-f.out];exact E.out.2.2.2))).mono ?_⟩;rintro e w1 ⟨rfl,a5⟩;have m:=E.out;have H1:=zA (show w1.heap[a]? =some (Obj.cells #[jI jJ p.1,jI jJ p.2.1,jI jJ p.2.2.1,jI jJ p.2.2.2] 33 (0,0))/\w1.heap[q]? =some (Obj.cells #[.slice none 0 0] 57 (0,0))/\w1.heap[u]? =some (Obj.cells #[jI jJ 0] 41 (0,0))/\Below a w w1 from
  ⟨(a5.block _ (Array.getElem?_eq_some_iff.1 m.1).1).trans m.1,(a5.block _ (Array.getElem?_eq_some_iff.1 m.2.1).1).trans m.2.1,(a5.block _ (Array.getElem?_eq_some_iff.1 m.2.2.1).1).trans m.2.2.1,m.2.2.2.trans (a5.mono (qZ (Array.getElem?_eq_some_iff.1 m.1).1))⟩)
 clear m a5 E g6 k0 k1 k2 k3;gi_upto_region 5 with fail
 obtain⟨y,f4⟩:∃y,y=w1.alloc (jC #[.slice none 0 0] 57):=⟨_,rfl⟩;have c0:=heap_alloc_new w1 (jC #[.slice none 0 0] 57);have R:=Below.new (w:=w1) (jC #[.slice none 0 0] 57);rw[<-f4]at c0 R ⊢;obtain⟨M,d8⟩:∃M,M=w1.heap.size:=⟨_,rfl⟩;rw[<-d8]at c0 ⊢;have m:=H1.out;have H4:=zA (show(y.heap[a]? =some (Obj.cells #[jI jJ p.1,jI jJ p.2.1,jI jJ p.2.2.1,jI jJ p.2.2.2] 33 (0,0))/\y.heap[q]? =some (Obj.cells #[.slice none 0 0] 57 (0,0))/\y.heap[u]? =some (Obj.cells #[jI jJ 0] 41 (0,0))/\Below a w y)/\y.heap[M]? =some (Obj.cells #[.slice none 0 0] 57 (0,0))/\u<M from
  ⟨⟨(R.block _ (Array.getElem?_eq_some_iff.1 m.1).1).trans m.1,(R.block _ (Array.getElem?_eq_some_iff.1 m.2.1).1).trans m.2.1,(R.block _ (Array.getElem?_eq_some_iff.1 m.2.2.1).1).trans m.2.2.1,m.2.2.2.trans (R.mono (qZ (Array.getElem?_eq_some_iff.1 m.1).1))⟩,c0,by rw[d8];exact(Array.getElem?_eq_some_iff.1 m.2.2.1).1⟩)
 clear m f4 c0 R d8 H1;have k0:y.cell? ⟨a,0,none⟩=some (jI jJ p.1):=by simp[World.cell?,H4.out.1.1]
 have k1:y.cell? ⟨a,1,none⟩=some (jI jJ p.2.1):=by simp[World.cell?,H4.out.1.1]
 have k2:y.cell? ⟨a,2,none⟩=some (jI jJ p.2.2.1):=by simp[World.cell?,H4.out.1.1]
 have k3:y.cell? ⟨a,3,none⟩=some (jI jJ p.2.2.2):=by simp[World.cell?,H4.out.1.1]
 gi_wp2
 refine⟨trivial,(callsIn_wide.2 (I1 _ _ _ _ _ _ p _ _)).mono ?_⟩;rintro e Z ⟨rfl,j1,j2,j3,j4,a6⟩;have m:=H4.out;have kp:∀{b:Nat} {o:Obj},y.heap[b]? =some o->Z.heap[b]? =some o:=fun h=>(a6.block _ (Array.getElem?_eq_some_iff.1 h).1).trans h;have H5:=zA (show(Z.heap[q]? =some (Obj.cells #[.slice none 0 0] 57 (0,0))/\Z.heap[u]? =some (Obj.cells #[jI jJ 0] 41 (0,0))/\Below a w Z)/\Z.heap[M]? =some (Obj.cells #[.slice none 0 0] 57 (0,0))/\u<M/\M<y.heap.size from
  ⟨⟨kp m.1.2.1,kp m.1.2.2.1,m.1.2.2.2.trans (a6.mono (qZ (Array.getElem?_eq_some_iff.1 m.1.1).1))⟩,kp m.2.1,m.2.2,(Array.getElem?_eq_some_iff.1 m.2.1).1⟩)
 have a0:=zA (show Below w.heap.size w Z by rw[<-f.out];exact H5.out.1.2.2);have g4:=zA (show EnvI Z (y.heap.size+2) (y.heap.size+3) y.heap.size (y.heap.size+1) p level (.slice (some ⟨gC,0,none⟩) D.length cC) (.slice Ar S.length cR) D S from
  ⟨j3,j4,j1,j2,HC.out.next a0.out,HS.out.next a0.out,fun j s hs=>by
   obtain⟨d,hd,hr⟩:=HL.out j s hs;exact⟨d,hd,hr.next a0.out⟩⟩)
 clear m kp j1 j2 j3 j4 a6 k0 k1 k2 k3 H4;have a7:=I.out.1;have a9:=I.out.2;have Y:=f.out;have z:a<=Z.heap.size/\M<Z.heap.size/\q<Z.heap.size/\u<Z.heap.size:=by
  have h5:=H5.out;have a1:=(Array.getElem?_eq_some_iff.1 h5.1.1).1;have a2:=(Array.getElem?_eq_some_iff.1 h5.1.2.1).1;have a3:=(Array.getElem?_eq_some_iff.1 h5.2.1).1;exact⟨by omega,a3,a1,a2⟩
 have l3:=zA z;clear a7 a9 Y;gi_wp2
 refine aAZ (n:=6) (by omega) (gf:=67) (lb:= #[.pointer (some ⟨y.heap.size+2,0,none⟩),.pointer (some ⟨y.heap.size+3,0,none⟩),.pointer (some ⟨y.heap.size,0,none⟩),.pointer (some ⟨y.heap.size+1,0,none⟩)]) rfl (enters_of Tryz.func67 (by kernel_rfl) rfl) (I0 HG.out g4.out)
  KpT.trans (fun W l o o' h hc=>KpT.putObj o' h hc) (fun _=>rfl) (fun pre W=>∃Ls v A,OutI w a M q u pre Ls v A W) (aEd w a q u) (Wk (by rw[f.out];exact zC _) z.1 z.2.1 z.2.2.1 z.2.2.2) (Wj (by rw[f.out];exact zC _) z.1 z.2.2.1 z.2.2.2) aDb
  ⟨[],.slice none 0 0,[],rfl,H5.out.2.1,⟨bT.nil,rfl,fun i s h=>by simp at h⟩,H5.out.1.1,H5.out.1.2.1,H5.out.1.2.2⟩ ?round ?done ?stop
 case round=>
  rintro l pre ⟨xv,xr⟩ W hN;gi_wp2
  refine⟨trivial,?_⟩;rintro V ⟨Ls,vO,A,K⟩ hR;have x:=zA K;have e6:=zA (show q≠u by have:=I.out;omega);have d5:=zA (show a<=M/\a<=q/\a<=u by have:=I.out;have:=H5.out.2.2;omega);clear K;cases xr with
  |inl e=>
   have he:¬e=0:=hR;clear hR;have k8:=Boxed.cell x.out.r8;have k9:=Boxed.cell x.out.r9;have f8:=Boxed.frozen x.out.r8;have f9:=Boxed.frozen x.out.r9;have b1:¬q=u:=e6.out;have b2:¬u=q:=fun h=>b1 h.symm;gi_wp2
   refine⟨(KeepsOthers.setCell _ _ _).trans (KeepsOthers.setCell _ _ _),e,he,⟨Ls,by rw[acJ,x.out.all];rfl⟩,?_,?_,?_⟩
   ·exact(((show Boxed V q 57 (.slice none 0 0)from x.out.r8).set (.slice none 0 0)).kept (grownBy_setCell' _ u _) (by simp[b1]))
   ·exact((show Boxed V u 41 (jI jJ 0)from x.out.r9).kept (grownBy_setCell' V q _) (by simp[b2])).set (jI jJ e)
   ·exact(x.out.bel.setCell (p:=⟨q,0,none⟩) d5.out.2.1 _).setCell (p:=⟨u,0,none⟩) d5.out.2.2 _
  |inr L=>
   obtain⟨b5,d0,c8⟩:RC V 0 xv L/\Reg L/\0<L.length:=hR;obtain⟨rfl,rfl⟩|⟨gx,cx,rfl,_,i0⟩:=b5.form
   ·simp at c8
   have c2:=zA b5;have e9:=zA d0;obtain⟨n,hn⟩:∃n,n=L.length:=⟨_,rfl⟩;rw[<-hn]at c2;have Y:(0:Int)<(n:Int):=by omega
   have l7:(n:Int)<=4000:=by have:=e9.out.few;omega
   have HN:=zA hn;have kO:=Boxed.cell x.out.box;have fO:=Boxed.frozen x.out.box;clear b5 d0 c8 i0;rw[<-hn];clear hn;obtain⟨ic,hi,k5,g1,k6⟩:=fH gW;gi_upto_region 11 with(gi_at_make;refine AG _ rfl _ _ 60 rfl a 63 ic (.agg #[jI jJ 0,jI jJ 0,jI jJ 0]) 3 Tryz.underlying60 hi k5 g1 jJ jJ (n:Int) (n:Int) n rfl rfl rfl rfl (by rw[k6];omega) (by simp[maxLen];omega) (by have:=x.out.bel.size;have:=f.out;omega) ?_;intro w6 b4 H)
   obtain⟨f1,f6,c6,f5⟩:=aD1 HN.out (by have:=x.out.bel.size;have:=f.out;omega) b4 H;have b6:RC w6 0 (.slice (some ⟨gx,0,none⟩) n cx) L:=by
    have:=c2.out.kept H (by simp[Value.ownBlock]);exact this
   have e8:=zA (World.ownsRow.cells b6 (g:=gx) rfl);have c7:(bN AH L).length=n*3:=by rw[eW,HN.out];rfl
   have f0:=zA f5;clear f5 b4 H b6;gi_upto_region 12 with(refine GM _ rfl _ _ 60 60 rfl 63 3 Tryz.underlying60 (by rw[hi];simp[g1]) V.heap.size n n cx ⟨gx,0,none⟩ rfl rfl f1 63 f6 (bN AH L) c7 e8.out c6 (EF AH L) ?_)
   obtain⟨W7,a4⟩:∃W7,W7=w6.setRow V.heap.size (bN AH L++List.drop (bN AH L).length f1.toList).toArray:=⟨_,rfl⟩;obtain⟨c9,X⟩:=f0.out W7 a4;rw[<-a4];have c3:Boxed W7 M 57 vO:=(X.block _ (Array.getElem?_eq_some_iff.1 x.out.box).1).trans x.out.box;have c4:Boxed W7 q 57 (.slice none 0 0):=(X.block _ (Array.getElem?_eq_some_iff.1 x.out.r8).1).trans x.out.r8;have O:W7.ownsRow a 60 1 vO A.length (bN SK A):=x.out.rows.1.next X;have d9:a<=W7.heap.size:=by have:=x.out.bel.size;have:=f.out;have:=X.size;omega
   have b7:=zA X;have g3:=zA c9;have l8:=Boxed.cell c3;have l2:A.length<40:=by
    have h1:=congrArg List.length x.out.all;have h2:=x.out.rows.2.1;have m:=HG.out.few;simp only[qC]at h1;omega
   obtain⟨is,i1,i7,j0,k4⟩:=fH G3;clear kO fO a4 X c9 f6 c6 c7 f0 e8;gi_wp2_with (gi_at_builtin;refine wpListIn_append_own _ rfl _ _ 57 rfl a 60 is (.slice none 0 0) 1 24 Tryz.underlying57 i1 i7 j0 k4 rfl (by decide) _ _ _ rfl (O.alloc _) ⟨W7.heap.size,0,none⟩ 1 1 [.slice (some ⟨V.heap.size,0,none⟩) n n] rfl rfl (cell_one_new _ _ _) (by simp[Value.oneCell']) (by simp[maxLen];omega) (by omega) (by simp;omega) ?_;intro v' w8 b3 b0 _;obtain⟨g',c5,rfl⟩:=ownsRow_succ b3;obtain⟨e4,i6,i5,i3,a6⟩:=c3.appended (by decide) O d9 d5.out.1 b3 b0;have l5:=e4.cell;have l6:=e4.frozen)
   have l0:KeepsOthers V W7:=⟨b7.out.size,fun k o hk _=>(b7.out.block k (Array.getElem?_eq_some_iff.1 hk).1).trans hk⟩;have N:(W7.alloc (jC #[.slice (some ⟨V.heap.size,0,none⟩) n n] 60)).grownBy w8 vO.ownBlock:=b0;have g2:KpT W7 (w8.setCell ⟨M,0,none⟩ (.slice (some ⟨g',0,none⟩) (A.length+1) c5)):=by
    refine(KpT.below (Below.new _)).trans ((KpT.grown N fun k vs t r e hk=>?_).trans (KpT.box e4));rcases(O.alloc (jC #[.slice (some ⟨V.heap.size,0,none⟩) n n] 60)).2 with⟨h0,_⟩|⟨g,l4,l1,h0,_,g9,_⟩
    ·rw[h0]at e;simp[Value.ownBlock]at e
    ·rw[h0]at e;simp only[Value.ownBlock,zL.injEq]at e;subst e;rw[g9]at hk;cases hk;exact .inl rfl
   have e5:=(KpT.below b7.out).trans g2;have d6:Boxed (w8.setCell ⟨M,0,none⟩ (.slice (some ⟨g',0,none⟩) (A.length+1) c5)) q 57 (.slice none 0 0):=
    ((c4.alloc _).kept N (c4.not_row (by decide) O)).kept (grownBy_setCell' w8 M _) (by have:=I.out;have:=H5.out.2.2;simp;omega)
   have rows:=x.out.rows;refine⟨l0.trans i3,e5,Ls++[L],_,A++[(some ⟨V.heap.size,0,none⟩,n,n)],by rw[acJ,acJ,x.out.all];rfl,i6,⟨?_,by rw[zU,zU,rows.2.1];rfl,?_⟩,d6,e5.same _ _ _ _ x.out.r9 (by decide) (by decide),x.out.bel.trans ((b7.out.mono (by have:=x.out.bel.size;have:=f.out;omega)).trans a6)⟩
   ·unfold bT;rw[zU,mH];exact i5
   ·intro i s hs;by_cases f7:i<A.length
    ·rw[List.getElem?_append_left f7]at hs;obtain⟨L',hl,hr⟩:=rows.2.2 i s hs;exact⟨L',by rw[List.getElem?_append_left (by rw[<-rows.2.1];exact f7)];exact hl,hr.kpt (by decide) (by decide) e5⟩
    ·have i2:i=A.length:=by
      have:=(List.getElem?_eq_some_iff.1 hs).1;simp at this;omega
     subst i2;simp only[List.getElem?_concat_length,zL.injEq]at hs;subst hs;exact⟨L,by rw[rows.2.1];simp,g3.out.kpt (by decide) (by decide) g2⟩
 case done=>
  rintro Dk xs W hD hT ⟨Ls,vO,A,K⟩ hK;have k8:=Boxed.cell K.r8;have k9:=Boxed.cell K.r9;have f8:=Boxed.frozen K.r8;have f9:=Boxed.frozen K.r9;have kO:=Boxed.cell K.box;obtain⟨Ao,co,rfl⟩:=K.rows.1.slice;have b1:¬q=u:=by have:=I.out;omega
  have b2:¬u=q:=fun h=>b1 h.symm;gi_wp2
  obtain⟨Q,U⟩:∃Q,Q=(W.setCell ⟨q,0,none⟩ (.slice Ao A.length co)).setCell ⟨u,0,none⟩ (jI jJ 0):=⟨_,rfl⟩;rw[<-U];have x8:Boxed (W.setCell ⟨q,0,none⟩ (.slice Ao A.length co)) q 57 (.slice Ao A.length co):=Boxed.set _ K.r8;have x9:Boxed (W.setCell ⟨q,0,none⟩ (.slice Ao A.length co)) u 41 (jI jJ 0):=Boxed.kept K.r9 (grownBy_setCell' W q _) (by simp[b2]);have y8:Boxed Q q 57 (.slice Ao A.length co):=by rw[U];exact x8.kept (grownBy_setCell' _ u _) (by simp[b1])
  have y9:Boxed Q u 41 (jI jJ 0):=by rw[U];exact x9.set _
  have yr:FB Q a (.slice Ao A.length co) A Ls:=by rw[U];exact(K.rows.set K.r8 (by decide) (by decide)).set x9 (by decide) (by decide)
  have yK:Q.heap[Dk]? =some (.deferred (some [])):=by rw[U];exact((KeepsOthers.setCell W _ _).trans (KeepsOthers.setCell _ _ _)).same Dk _ hK rfl
  have g0:a<=q/\a<=u:=by have:=I.out;omega
  have yB:Below a w Q:=by rw[U];exact(K.bel.setCell (p:=⟨q,0,none⟩) g0.1 _).setCell (p:=⟨u,0,none⟩) g0.2 _
  refine⟨by simp,.inl ⟨_,_,rfl,run_takeDeferred yK,?_⟩⟩;have z8:=(y8.kept (grownBy_putObj' Q Dk (.deferred none)) (fun e=>by cases e;rw[show Q.heap[q]? =_ from y8]at yK;cases yK)).cell;have z9:=(y9.kept (grownBy_putObj' Q Dk (.deferred none)) (fun e=>by cases e;rw[show Q.heap[u]? =_ from y9]at yK;cases yK)).cell;refine⟨.tuple #[.slice Ao A.length co,jI jJ 0],by simp[results,Tryz.f13,go_sem,z8,z9],.inl ⟨Ls,_,A,by rw[<-hT,K.all],rfl,?_⟩,?_⟩
  ·rw[<-f.out];exact(PJ (B:=0)).2 Q Dk _ _ yr (zO _) yK rfl
  ·rw[<-f.out];exact(cL.below (B:=Z.heap.size) (n₀:=a) (by rw[f.out];exact zC _) z.1).2 Q Dk _ _ yB hD yK rfl
 case stop=>
  rintro Dk pre W hD f3 ⟨e0,g8,⟨Ls,g5⟩,h8,h9,hb⟩ hK;gi_wp2
  refine⟨by simp,.inl ⟨_,_,rfl,run_takeDeferred hK,?_⟩⟩;have z8:=(Boxed.kept (show Boxed W q 57 (.slice none 0 0)from h8) (grownBy_putObj' W Dk (.deferred none)) (fun e=>by cases e;rw[h8]at hK;cases hK)).cell;have z9:=(Boxed.kept (show Boxed W u 41 (jI jJ e0)from h9) (grownBy_putObj' W Dk (.deferred none)) (fun e=>by cases e;rw[h9]at hK;cases hK)).cell;refine⟨.tuple #[.slice none 0 0,jI jJ e0],by simp[results,Tryz.f13,go_sem,z8,z9],.inr ⟨e0,g8,⟨Ls,?_⟩,rfl⟩,?_⟩
  ·rw[g5]at f3;exact QW D _ Ls e0 f3
  ·rw[<-f.out];exact(cL.below (B:=Z.heap.size) (n₀:=a) (by rw[f.out];exact zC _) z.1).2 W Dk _ _ hb hD hK rfl
end
section
open Go Go.RowKit Go.Shelf Rg
open Ev (aF)
attribute [local instance] nP
attribute [local go_sem] Oper.semAt_some wS KK
def GO(w:World)(T:List (Int ⊕ List Rg.Blk))(e:Ending)(w':World):Prop:=
 ((∃(Ls:List (List Rg.Blk)) (L:List Rg.Blk) (v:Value),T=(Ls++[L]).map Sum.inr/\e=.returned (.tuple #[v,jI jJ 0])/\RC w' w.heap.size v L)\/
  ∃e0:Int,e0≠0/\(∃Ls:List (List Rg.Blk),T=Ls.map Sum.inr++[Sum.inl e0])/\e=.returned (.tuple #[.slice none 0 0,jI jJ e0]))/\Below w.heap.size w w'
theorem Rx{level:Nat}{D:List (fT×List cF)}(h:0<D.length)(r:Int ⊕ List Rg.Blk):0<(dB level D r).length:=by
 cases D with
 |nil=>simp at h
 |cons d l=>unfold dB;simp
theorem Jw{w:World}{p:cF}{level:Nat}{cv lv:Value}{D:List (fT×List cF)}{S:List sK}(G:GivI p level D S)(Q:bT oS 49 w 0 cv (D.map (·.1)))(R:bT SK 56 w 0 lv S)
  (hL:∀j s,S[j]? =some s->∃d,D[j+ 1]? =some d/\bT pK 37 w 0 (.slice s.1 s.2.1 s.2.2) d.2):Calls zB 18 #[cv,lv,QV p,jI jJ (level:Int)] w (GO w (dB level D (dV p level))):=by
 have a:0<D.length:=by have:=G.len;omega
 have HT:=zA (Rx (level:=level) a (dV p level));have q:(dB level D (dV p level)).length<=D.length:=by
  have:∀(D:List (fT×List cF)) r,(dB level D r).length<=D.length:=by
   intro D;induction D with
   |nil=>intro r;exact zC _
   |cons d l ih=>
    intro r;unfold dB;rw[zM,zM];split
    ·simp
    ·exact Nat.succ_le_succ (ih _)
  exact this D _
 have A:=zA (show(dB level D (dV p level)).length<=40 from Nat.le_trans q G.few);have t:=zA (fun(K:World) (U:Below w.heap.size w K)=>NL (w:=K) G (Q.next U) (R.next U) (fun j s I=>by
  obtain⟨d,hd,hr⟩:=hL j s I;exact⟨d,hd,hr.next U⟩))
 obtain⟨gC,cC,X⟩:∃g c,cv=.slice (some ⟨g,0,none⟩) D.length c:=by
  obtain⟨g,c,h,_⟩:=Q.cir (i:=0) (b:=(D[0]'a).1) (by simp[a]);exact⟨g,c,by rw[h,qC]⟩
 obtain⟨Ar,cR,a1⟩:=R.slice;subst X a1;clear q a G Q R hL;unfold QV at t ⊢;obtain⟨T,hT⟩:∃T,T=dB level D (dV p level):=⟨_,rfl⟩;rw[<-hT]at t HT A ⊢;clear hT;have y:=Below.new (w:=w) (jC #[jI jJ p.1,jI jJ p.2.1,jI jJ p.2.2.1,jI jJ p.2.2.2] 33);have n:=heap_alloc_new w (jC #[jI jJ p.1,jI jJ p.2.1,jI jJ p.2.2.1,jI jJ p.2.2.2] 33);obtain⟨z,x⟩:∃z,z=w.alloc (jC #[jI jJ p.1,jI jJ p.2.1,jI jJ p.2.2.1,jI jJ p.2.2.2] 33):=⟨_,rfl⟩;rw[<-x]at y n;have o:=zA y;have k0:z.cell? ⟨w.heap.size,0,none⟩=some (jI jJ p.1):=by simp[World.cell?,n]
 have k1:z.cell? ⟨w.heap.size,1,none⟩=some (jI jJ p.2.1):=by simp[World.cell?,n]
 have k2:z.cell? ⟨w.heap.size,2,none⟩=some (jI jJ p.2.2.1):=by simp[World.cell?,n]
 have k3:z.cell? ⟨w.heap.size,3,none⟩=some (jI jJ p.2.2.2):=by simp[World.cell?,n]
 clear y n;go_enter Tryz.func18,Tryz.ntmps18;go_upto_region 1 with fail
 rw[<-x];clear x;go_wp2_with fail
 refine(t.out _ o.out).mono ?_;rintro e K ⟨a2,E⟩;have B:=zA (o.out.trans (E.mono o.out.size));clear E k0 k1 k2 k3;rcases a2 with⟨N,v,u,f,rfl,hR⟩|⟨e0,Y,f,rfl⟩
 ·have H:0<u.length:=by
   have:=HT.out;rw[f,qC]at this;rw[hR.2.1];exact this
  have O:u.length<=40:=by
   have:=A.out;rw[f,qC]at this;rw[hR.2.1];exact this
  obtain⟨m,hm⟩:∃m,u.length=m+1:=⟨u.length-1,by omega⟩;obtain⟨L,hl,k⟩:=hR.2.2 m (u[m]'(by omega)) (List.getElem?_eq_getElem _);obtain⟨s,I⟩:∃s,s=u[m]'(by omega):=⟨_,rfl⟩;have J:u[m]? =some s:=by rw[I];exact List.getElem?_eq_getElem _
  rw[<-I]at k;clear I;obtain⟨g,c,rfl,_,_,x0,x1,x2,rfl,V⟩:=bT.slv hR.1 J;dsimp only at k;have M:=zA (show GO w T (.returned (.tuple #[.slice x0 x1 x2,jI jJ 0])) K from⟨.inl ⟨N.take m,L,_,by
   rw[f];congr 1;have Z:=List.getElem?_eq_some_iff.1 hl;obtain⟨a0,he⟩:=Z;have h2:=hR.2.1;have:N.take (m+1)=N:=List.take_of_length_le (by omega);rw[<-he,<-List.take_succ_eq_append_getElem a0,this],rfl,k.mono (by have:=o.out.size;omega)⟩,B.out⟩)
  have a5:(0:Int)<=(m:Int):=by omega
  have a4:(m:Int)<40:=by omega
  rw[hm];have a3:IntKind.i64.wrap ((m:Int))=(m:Int):=cN (by omega);have a6:IntKind.i64.wrap ((m:Int)+1-1)=(m:Int):=by rw[show(m:Int)+1-1=(m:Int) by omega];exact a3
  have a7:IntKind.i64.wrap ((m:Int)+1)=(m:Int)+1:=cN (by omega);clear f hR hl k J H O;go_wp2_with fail
  go_ret2
  exact M.out
 ·have M:=zA (show GO w T (.returned (.tuple #[.slice none 0 0,jI jJ e0])) K from⟨.inr ⟨e0,Y,f,rfl⟩,B.out⟩);clear f;go_wp2_with fail
  go_ret2
  exact M.out
end
namespace TA
def sm(f:Nat->Rat):Nat->Rat
 | 0=>0
 |n+1=>sm f n+f n
theorem cI{f g:Nat->Rat}:∀{n:Nat},(∀i,i<n->f i=g i)->sm f n=sm g n
 | 0,_=>rfl
 |n+1,h=>by
  unfold sm;rw[cI (fun i hi=>h i (by omega)),h n (by omega)]
theorem EW(f g:Nat->Rat):∀n,sm (fun i=>f i+g i) n=sm f n+sm g n
 | 0=>by unfold sm;grind
 |n+1=>by unfold sm;rw[EW f g n];grind
theorem EX(c:Rat)(f:Nat->Rat):∀n,sm (fun i=>c*f i) n=c*sm f n
 | 0=>by unfold sm;grind
 |n+1=>by unfold sm;rw[EX c f n];grind
theorem Hb(f g:Nat->Rat):∀n,sm (fun i=>f i-g i) n=sm f n-sm g n
 | 0=>by unfold sm;grind
 |n+1=>by unfold sm;rw[Hb f g n];grind
theorem Ag(f:Nat->Rat):∀n,sm f (n+1)=f 0+sm (fun i=>f (i+1)) n
 | 0=>by unfold sm;unfold sm;grind
 |n+1=>by
  rw[sm,Ag f n,sm];grind
theorem CP(f:Nat->Rat)(m:Nat):∀n,sm f (m+n)=sm f m+sm (fun i=>f (m+i)) n
 | 0=>by simp[sm];grind
 |n+1=>by
  rw[<-Nat.add_assoc,sm,CP f m n,sm];grind
theorem G4{f g:Nat->Rat}:∀{n:Nat},(∀i,i<n->f i<=g i)->sm f n<=sm g n
 | 0,_=>by unfold sm;grind
 |n+1,h=>by
  unfold sm;have:=G4 (f:=f) (g:=g) (n:=n) (fun i hi=>h i (by omega));have:=h n (by omega);grind
theorem Ha(f:Nat->Rat):∀n,sm (fun i=>-f i) n=-sm f n
 | 0=>by unfold sm;grind
 |n+1=>by unfold sm;rw[Ha f n];grind
theorem Gz{f g:Nat->Rat}{n:Nat}(h:∀i,i<n->-g i<=f i/\f i<=g i):-sm g n<=sm f n/\sm f n<=sm g n:=by
 refine⟨?_,G4 fun i hi=>(h i hi).2⟩;rw[<-Ha];exact G4 fun i hi=>(h i hi).1
theorem tri(G:Nat->Nat->Rat):∀N,sm (fun a=>sm (fun b=>G a b) (N+1-a)) (N+1)=sm (fun n=>sm (fun a=>G a (n-a)) (n+1)) (N+1)
 | 0=>by simp[sm]
 |N+1=>by
  have c:sm (fun a=>sm (fun b=>G a b) (N+1+1-a)) (N+1)=sm (fun a=>sm (fun b=>G a b) (N+1-a)+G a (N+1-a)) (N+1):=
   cI fun a g=>by
    have:N+1+1-a=(N+1-a)+1:=by omega
    rw[this,sm]
  rw[sm,c,EW,tri G N];have d:N+1+1-(N+1)=1:=by omega
  have e:sm (fun b=>G (N+1) b) 1=G (N+1) 0:=by simp[sm];grind
  rw[d,e];conv=>rhs;rw[sm]
  have f:sm (fun a=>G a (N+1-a)) (N+1+1)=sm (fun a=>G a (N+1-a)) (N+1)+G (N+1) 0:=by
   rw[sm];simp
  rw[f];grind
theorem aDW(G:Nat->Nat->Rat)(N:Nat):sm (fun a=>sm (fun b=>G a b) (N+1)) (N+1)=sm (fun n=>sm (fun a=>G a (n-a)) (n+1)) (N+1)+sm (fun a=>sm (fun j=>G a (N+1-a+j)) a) (N+1):=by
 rw[<-tri,<-EW];refine cI fun a c=>?_;have:=CP (fun b=>G a b) (N+1-a) a;rw[<-this];congr 1;omega
def P:Nat->Rat->Rat
 | 0,_=>1
 |n+1,x=>P n x*x/((n:Rat)+1)
theorem pos(n:Nat):(0:Rat)<(n:Rat)+1:=by
 have:(0:Rat)<=(n:Rat):=by exact_mod_cast zO n
 grind
theorem IY(n:Nat)(x:Rat):((n:Rat)+1)*P (n+1) x=x*P n x:=by
 have:=pos n;show((n:Rat)+1)*(P n x*x/((n:Rat)+1))=x*P n x;grind
theorem Uo{k a b:Rat}(e:0<k)(h:k*a=k*b):a=b:=by
 have c:k*(a-b)=0:=by grind
 have d:k≠0:=by grind
 grind
theorem aBE(x y:Rat):∀n,P n (x+y)=sm (fun a=>P a x*P (n-a) y) (n+1)
 | 0=>by simp[sm,P];grind
 |n+1=>by
  have h:=aBE x y n;have g:=pos n;have c:((n:Rat)+1)*sm (fun a=>P a x*P (n+1-a) y) (n+1+1)=sm (fun a=>(a:Rat)*P a x*P (n+1-a) y) (n+1+1)+sm (fun a=>P a x*(((n+1-a:Nat):Rat)*P (n+1-a) y)) (n+1+1):=by
   rw[<-EX,<-EW];refine cI fun a j=>?_;have:((n+1-a:Nat):Rat)=(n:Rat)+1-(a:Rat):=by
    have e:n+1-a+a=n+1:=by omega
    have:((n+1-a+a:Nat):Rat)=((n+1:Nat):Rat):=by rw[e]
    push_cast at this
    grind
   rw[this];grind
  have d:sm (fun a=>(a:Rat)*P a x*P (n+1-a) y) (n+1+1)=x*sm (fun a=>P a x*P (n-a) y) (n+1):=by
   rw[Ag,<-EX];have z:((0:Nat):Rat)=0:=rfl;have:sm (fun i=>((i+1:Nat):Rat)*P (i+1) x*P (n+1-(i+1)) y) (n+1)=sm (fun i=>x*(P i x*P (n-i) y)) (n+1):=cI fun i hi=>by
    have:=IY i x;have e:n+1-(i+1)=n-i:=by omega
    rw[e];push_cast
    grind
   rw[this,z];grind
  have f:sm (fun a=>P a x*(((n+1-a:Nat):Rat)*P (n+1-a) y)) (n+1+1)=y*sm (fun a=>P a x*P (n-a) y) (n+1):=by
   rw[sm,<-EX];have:sm (fun a=>P a x*(((n+1-a:Nat):Rat)*P (n+1-a) y)) (n+1)=sm (fun i=>y*(P i x*P (n-i) y)) (n+1):=cI fun i hi=>by
    have e:n+1-i=(n-i)+1:=by omega
    have:=IY (n-i) y;rw[e];push_cast
    grind
   rw[this];have z:((n+1-(n+1):Nat):Rat)=0:=by rw[Nat.sub_self];rfl
   rw[z];grind
  have b:=IY n (x+y);rw[h]at b;refine Uo g ?_;rw[c,d,f,b];generalize sm (fun a=>P a x*P (n-a) y) (n+1)=s;grind
theorem iD{a b A B:Rat}(c:-A<=a)(d:a<=A)(e:-B<=b)(f:b<=B):-(A*B)<=a*b/\a*b<=A*B:=by
 have g:0<=(A-a)*(B+b):=zN (by grind) (by grind);have h:0<=(A+a)*(B-b):=zN (by grind) (by grind);have i:0<=(A-a)*(B-b):=zN (by grind) (by grind);have j:0<=(A+a)*(B+b):=zN (by grind) (by grind);constructor<;>grind
theorem Iq{x X:Rat}(a:-X<=x)(b:x<=X):∀n,-P n X<=P n x/\P n x<=P n X
 | 0=>by unfold P;grind
 |n+1=>by
  have d:=Iq a b n;have e:=pos n;have i:=iD d.1 d.2 a b;have e1:=IY n x;have e2:=IY n X;have f:0<=((n:Rat)+1)*(P (n+1) X-P (n+1) x):=by grind
  have g:0<=((n:Rat)+1)*(P (n+1) X+P (n+1) x):=by grind
  have c:∀z:Rat,0<=((n:Rat)+1)*z->0<=z:=fun z j=>by
   rcases(Rat.le_total:0<=z\/z<=0)with h|h
   ·exact h
   ·have:0<=((n:Rat)+1)*(-z):=zN (by grind) (by grind);have:((n:Rat)+1)*z=0:=by grind
    have:z=0:=Uo e (by grind);grind
  have:=c _ f;have:=c _ g;grind
def sc(n:Nat):Rat:=if n%4=0 then 1 else if n%4=2 then -1 else 0
def ss(n:Nat):Rat:=if n%4=1 then 1 else if n%4=3 then -1 else 0
theorem aCc(a b:Nat):sc (a+b)=sc a*sc b-ss a*ss b/\ss (a+b)=ss a*sc b+sc a*ss b:=by
 have c:∀i j:Fin 4,(sc (i.val+j.val)=sc i.val*sc j.val-ss i.val*ss j.val/\ss (i.val+j.val)=ss i.val*sc j.val+sc i.val*ss j.val):=by decide+kernel
 have h:∀i j:Nat,i<4->j<4->(sc (i+j)=sc i*sc j-ss i*ss j/\ss (i+j)=ss i*sc j+sc i*ss j):=fun i j hi d=>c ⟨i,hi⟩ ⟨j,d⟩;have e:∀n:Nat,sc n=sc (n%4)/\ss n=ss (n%4):=fun n=>by unfold sc ss;simp
 have k:=h (a%4) (b%4) (by omega) (by omega);rw[(e (a+b)).1,(e (a+b)).2,(e a).1,(e a).2,(e b).1,(e b).2];have m:(a+b)%4=(a%4+b%4)%4:=by omega
 rw[m,<-(e (a%4+b%4)).1,<-(e (a%4+b%4)).2];exact k
theorem CN(n:Nat):(-1<=sc n/\sc n<=1)/\(-1<=ss n/\ss n<=1):=by
 unfold sc ss;repeat' split
 all_goals grind
def Cn(N:Nat)(x:Rat):Rat:=sm (fun k=>sc k*P k x) (N+1)
def Sn(N:Nat)(x:Rat):Rat:=sm (fun k=>ss k*P k x) (N+1)
def En(N:Nat)(x:Rat):Rat:=sm (fun k=>P k x) (N+1)
theorem aDF(g:Nat->Rat)(N:Nat)(x y:Rat):sm (fun a=>sm (fun b=>g (a+b)*(P a x*P b y)) (N+1)) (N+1)=sm (fun n=>g n*P n (x+y)) (N+1)+sm (fun a=>sm (fun j=>g (N+1+j)*(P a x*P (N+1-a+j) y)) a) (N+1):=by
 rw[aDW (fun a b=>g (a+b)*(P a x*P b y)) N];congr 1
 ·refine cI fun n e=>?_;rw[aBE,<-EX];refine cI fun a c=>?_;have:a+(n-a)=n:=by omega
  rw[this]
 ·refine cI fun a c=>cI fun j d=>?_;have:a+(N+1-a+j)=N+1+j:=by omega
  rw[this]
theorem uX(f h:Nat->Rat)(m:Nat):∀n,sm f n*sm h m=sm (fun a=>sm (fun b=>f a*h b) m) n
 | 0=>by unfold sm;grind
 |n+1=>by
  rw[sm,sm,<-uX f h m n,EX];grind
def rest(N:Nat)(X:Rat):Rat:=En N X*En N X-En N (X+X)
theorem aB3(N:Nat)(X:Rat):rest N X=sm (fun a=>sm (fun j=>P a X*P (N+1-a+j) X) a) (N+1):=by
 have h:=aDF (fun _=>1) N X X;have e:sm (fun a=>sm (fun b=>(1:Rat)*(P a X*P b X)) (N+1)) (N+1)=En N X*En N X:=by
  unfold En;rw[uX];exact cI fun a _=>cI fun b _=>by grind
 have e2:sm (fun n=>(1:Rat)*P n (X+X)) (N+1)=En N (X+X):=cI fun n _=>by grind
 have c:sm (fun a=>sm (fun j=>(1:Rat)*(P a X*P (N+1-a+j) X)) a) (N+1)=sm (fun a=>sm (fun j=>P a X*P (N+1-a+j) X) a) (N+1):=cI fun a _=>cI fun j _=>by grind
 rw[e,e2,c]at h;unfold rest;grind
theorem Am(g:Nat->Rat)(f:∀n,-1<=g n/\g n<=1)(N:Nat){x y X:Rat}(b:-X<=x)(c:x<=X)(d:-X<=y)(e:y<=X):
  -rest N X<=sm (fun a=>sm (fun j=>g (N+1+j)*(P a x*P (N+1-a+j) y)) a) (N+1)/\sm (fun a=>sm (fun j=>g (N+1+j)*(P a x*P (N+1-a+j) y)) a) (N+1)<=rest N X:=by
 rw[aB3];refine Gz fun a _=>Gz fun j _=>?_;have p:=Iq b c a;have q:=Iq d e (N+1-a+j);have m:=iD p.1 p.2 q.1 q.2;have s:=f (N+1+j);have:=iD s.1 s.2 m.1 m.2;grind
theorem addition(N:Nat){x y X:Rat}(c:-X<=x)(d:x<=X)(e:-X<=y)(f:y<=X):
  (-rest N X<=Cn N x*Cn N y-Sn N x*Sn N y-Cn N (x+y)/\Cn N x*Cn N y-Sn N x*Sn N y-Cn N (x+y)<=rest N X)/\
  (-rest N X<=Sn N x*Cn N y+Cn N x*Sn N y-Sn N (x+y)/\Sn N x*Cn N y+Cn N x*Sn N y-Sn N (x+y)<=rest N X):=by
 have g:=aDF sc N x y;have h:=aDF ss N x y;have i:sm (fun a=>sm (fun b=>sc (a+b)*(P a x*P b y)) (N+1)) (N+1)=Cn N x*Cn N y-Sn N x*Sn N y:=by
  unfold Cn Sn;rw[uX,uX,<-Hb];refine cI fun a _=>?_;rw[<-Hb];refine cI fun b _=>?_;rw[(aCc a b).1];grind
 have j:sm (fun a=>sm (fun b=>ss (a+b)*(P a x*P b y)) (N+1)) (N+1)=Sn N x*Cn N y+Cn N x*Sn N y:=by
  unfold Cn Sn;rw[uX,uX,<-EW];refine cI fun a _=>?_;rw[<-EW];refine cI fun b _=>?_;rw[(aCc a b).2];grind
 have m:=Am sc (fun n=>(CN n).1) N c d e f;have o:=Am ss (fun n=>(CN n).2) N c d e f;rw[i]at g;rw[j]at h;have k:sm (fun n=>sc n*P n (x+y)) (N+1)=Cn N (x+y):=rfl;have l:sm (fun n=>ss n*P n (x+y)) (N+1)=Sn N (x+y):=rfl;rw[k]at g;rw[l]at h;constructor<;>constructor<;>grind
end TA
section
namespace TA
open SM
theorem aG4(x:Rat):x*(1-hR 1 (x*x) 10 0)=Sn 21 x:=by
 simp[hR,Sn,sm,ss,P];grind
theorem aG3(x:Rat):1-hR 0 (x*x) 10 0=Cn 20 x:=by
 simp[hR,Cn,sm,sc,P];grind
theorem Nn(g:Nat->Rat)(a:∀n,-1<=g n/\g n<=1)(m n:Nat){x X:Rat}(c:-X<=x)(d:x<=X):
  -(En (m+n) X-En m X)<=sm (fun k=>g k*P k x) (m+n+1)-sm (fun k=>g k*P k x) (m+1)/\sm (fun k=>g k*P k x) (m+n+1)-sm (fun k=>g k*P k x) (m+1)<=En (m+n) X-En m X:=by
 have e:m+n+1=m+1+n:=by omega
 have s1:=CP (fun k=>g k*P k x) (m+1) n;have h:=CP (fun k=>P k X) (m+1) n;have b:=Gz (f:=fun i=>g (m+1+i)*P (m+1+i) x) (g:=fun i=>P (m+1+i) X) (n:=n) (fun i _=>by
  have p:=Iq c d (m+1+i);have:=iD (a (m+1+i)).1 (a (m+1+i)).2 p.1 p.2;grind)
 unfold En;rw[e,s1,h];grind
theorem Tb(x:Rat):∀n,P n (-x)=if n%2=0 then P n x else-P n x
 | 0=>by simp[P]
 |n+1=>by
  have a:=Tb x n;show P n (-x)*(-x)/((n:Rat)+1)=if (n+1)%2=0 then P n x*x/((n:Rat)+1) else -(P n x*x/((n:Rat)+1))
  rw[a];by_cases h:n%2=0
  ·have:¬(n+1)%2=0:=by omega
   rw[if_pos h,if_neg this];grind
  ·have:(n+1)%2=0:=by omega
   rw[if_neg h,if_pos this];grind
theorem Bu(N:Nat)(x:Rat):Cn N (-x)=Cn N x:=by
 refine cI fun k _=>?_;rw[Tb];unfold sc;repeat' split
 all_goals first|grind|omega
theorem Bz(N:Nat)(x:Rat):Sn N (-x)=-Sn N x:=by
 unfold Sn;rw[<-Ha];refine cI fun k _=>?_;rw[Tb];unfold ss;repeat' split
 all_goals first|grind|omega
theorem MU:rest 100 (32/5)<=1/2^150:=by decide+kernel
theorem aBr:En 100 (4/5)-En 21 (4/5)<=1/2^70:=by decide+kernel
theorem aBq:En 100 (4/5)-En 20 (4/5)<=1/2^70:=by decide+kernel
theorem V3:(-(1/2^90)<=Cn 100 (th*21600000)-1/\Cn 100 (th*21600000)-1<=1/2^90)/\(-(1/2^90)<=Sn 100 (th*21600000)/\Sn 100 (th*21600000)<=1/2^90):=by decide+kernel
theorem Cl:(-(1/2^90)<=Cn 100 (th*5400000)/\Cn 100 (th*5400000)<=1/2^90)/\(-(1/2^90)<=Sn 100 (th*5400000)-1/\Sn 100 (th*5400000)-1<=1/2^90):=by decide+kernel
theorem Io:Cn 100 0=1:=by decide+kernel
theorem Mp{x:Rat}(b:-(32/5)<=x)(c:x<=32/5):(-2<=Cn 100 x/\Cn 100 x<=2)/\(-2<=Sn 100 x/\Sn 100 x<=2):=by
 have a:=(addition 100 (x:=x) (y:=-x) (X:=32/5) b c (by grind) (by grind)).1;rw[Bu,Bz,show x+-x=0 by grind,Io]at a;have r:=MU;have s1:0<=Cn 100 x*Cn 100 x:=by have:=mul_self_nonneg' (Cn 100 x);exact this
 have e:0<=Sn 100 x*Sn 100 x:=by have:=mul_self_nonneg' (Sn 100 x);exact this
 have k:∀z:Rat,z*z<=2->-2<=z/\z<=2:=fun z d=>by
  constructor
  ·rcases(Rat.le_total:-2<=z\/z<=-2)with h|h
   ·exact h
   ·have:0<=(-2-z)*(-2-z):=mul_self_nonneg' _;have:0<=(-2-z)*(2-z):=zN (by grind) (by grind);grind
  ·rcases(Rat.le_total:z<=2\/2<=z)with h|h
   ·exact h
   ·have:0<=(z-2)*(z+2):=zN (by grind) (by grind);grind
 exact⟨k _ (by grind),k _ (by grind)⟩
where
 mul_self_nonneg' (z:Rat):0<=z*z:=by
  rcases(Rat.le_total:0<=z\/z<=0)with h|h
  ·exact zN h h
  ·have:=zN (a:=-z) (b:=-z) (by grind) (by grind)
   grind
end TA
end
section
namespace TA
open SM
def rd(n:Int):Int:=(n+10800000)%21600000-10800000
def bM(n:Int):Rat:=Sn 100 (th*(rd n:Rat))
def cH(n:Int):Rat:=Cn 100 (th*(rd n:Rat))
def t7:Rat:=1/2^85
theorem I7:0<=th/\th*10800000<=16/5:=by decide+kernel
theorem D9(n:Int):-(16/5)<=th*(rd n:Rat)/\th*(rd n:Rat)<=16/5:=by
 have a:-10800000<=rd n/\rd n<=10800000:=by unfold rd;omega
 have c:((-10800000:Int):Rat)<=(rd n:Rat):=qU.2 a.1;have d:(rd n:Rat)<=((10800000:Int):Rat):=qU.2 a.2;have e2:((-10800000:Int):Rat)=-10800000:=rfl;have b:((10800000:Int):Rat)=10800000:=rfl;rw[e2]at c;rw[b]at d;have t:=I7;have e:0<=th*(10800000-(rd n:Rat)):=zN t.1 (by grind);have f:0<=th*((rd n:Rat)+10800000):=zN t.1 (by grind);constructor<;>grind
theorem Cr(n:Int):(-2<=cH n/\cH n<=2)/\(-2<=bM n/\bM n<=2):=by
 have:=D9 n;exact Mp (by grind) (by grind)
theorem eK{z c k:Rat}(b:-2<=z/\z<=2)(a:-k<=c/\c<=k):-(2*k)<=z*c/\z*c<=2*k:=iD b.1 b.2 a.1 a.2
theorem L5{x t:Rat}(b:t=th*21600000\/t=-(th*21600000))(c:-(32/5)<=x)(d:x<=32/5):
  (-(1/2^87)<=Cn 100 (x+t)-Cn 100 x/\Cn 100 (x+t)-Cn 100 x<=1/2^87)/\(-(1/2^87)<=Sn 100 (x+t)-Sn 100 x/\Sn 100 (x+t)-Sn 100 x<=1/2^87):=by
 have q:=I7;have e:-(32/5)<=t/\t<=32/5:=by rcases b with rfl|rfl<;>constructor<;>grind
 have a:=addition 100 (x:=x) (y:=t) (X:=32/5) c d e.1 e.2;have r:=MU;have w:=V3;have f:-(1/2^90)<=Cn 100 t-1/\Cn 100 t-1<=1/2^90:=by
  rcases b with rfl|rfl
  ·exact w.1
  ·rw[Bu];exact w.1
 have g:-(1/2^90)<=Sn 100 t/\Sn 100 t<=1/2^90:=by
  rcases b with rfl|rfl
  ·exact w.2
  ·rw[Bz];grind
 have p:=Mp c d;have h:=eK p.1 f;have i:=eK p.2 g;have j:=eK p.2 f;have k:=eK p.1 g;refine⟨⟨?_,?_⟩,?_,?_⟩<;>grind
theorem S5(m n:Int):(-t7<=cH m*cH n-bM m*bM n-cH (m+n)/\cH m*cH n-bM m*bM n-cH (m+n)<=t7)/\
  (-t7<=bM m*cH n+cH m*bM n-bM (m+n)/\bM m*cH n+cH m*bM n-bM (m+n)<=t7):=by
 have f:=D9 m;have g:=D9 n;have a:=addition 100 (x:=th*(rd m:Rat)) (y:=th*(rd n:Rat)) (X:=32/5) (by grind) (by grind) (by grind) (by grind);have r:=MU;have d:rd (m+n)=rd m+rd n\/rd (m+n)=rd m+rd n+21600000\/rd (m+n)=rd m+rd n-21600000:=by unfold rd;omega
 have c:-(32/5)<=th*(rd m:Rat)+th*(rd n:Rat)/\th*(rd m:Rat)+th*(rd n:Rat)<=32/5:=by constructor<;>grind
 have b:((21600000:Int):Rat)=21600000:=rfl;unfold cH bM t7;rcases d with e|e|e
 ·have e1:th*(rd (m+n):Rat)=th*(rd m:Rat)+th*(rd n:Rat):=by rw[e,yI];grind
  rw[e1];grind
 ·have e1:th*(rd (m+n):Rat)=(th*(rd m:Rat)+th*(rd n:Rat))+th*21600000:=by rw[e,yI,yI,b];grind
  have w:=L5 (x:=th*(rd m:Rat)+th*(rd n:Rat)) (.inl rfl) c.1 c.2;rw[<-e1]at w;grind
 ·have e1:th*(rd (m+n):Rat)=(th*(rd m:Rat)+th*(rd n:Rat))+-(th*21600000):=by rw[e,Rat.intCast_sub,yI,b];grind
  have w:=L5 (x:=th*(rd m:Rat)+th*(rd n:Rat)) (.inr rfl) c.1 c.2;rw[<-e1]at w;grind
theorem MG:(-(1/2^90)<=cH 5400000/\cH 5400000<=1/2^90)/\(-(1/2^90)<=bM 5400000-1/\bM 5400000-1<=1/2^90):=by
 have e:(rd 5400000:Rat)=5400000:=by decide+kernel
 unfold cH bM;rw[e];exact Cl
theorem aBM:(-(1/2^83)<=cH 10800000+1/\cH 10800000+1<=1/2^83)/\(-(1/2^83)<=bM 10800000/\bM 10800000<=1/2^83):=by
 have a:=S5 5400000 5400000;have q:=MG;rw[show(5400000:Int)+5400000=10800000 by rfl]at a;unfold t7 at a;have b:=iD q.1.1 q.1.2 q.1.1 q.1.2;have c:=iD q.2.1 q.2.2 q.2.1 q.2.2;have d:=iD q.1.1 q.1.2 q.2.1 q.2.2;refine⟨⟨?_,?_⟩,?_,?_⟩<;>grind
theorem Yw(n:Int):(-(1/2^82)<=cH (-n)-cH n/\cH (-n)-cH n<=1/2^82)/\(-(1/2^82)<=bM (-n)+bM n/\bM (-n)+bM n<=1/2^82):=by
 by_cases h:rd n=-10800000
 ·have a:rd (-n)=-10800000:=by unfold rd at*;omega
  have b:rd 10800000=-10800000:=by decide
  have q:=aBM;unfold cH bM at*;rw[h,a];rw[b]at q;refine⟨⟨?_,?_⟩,?_,?_⟩<;>grind
 ·have a:rd (-n)=-rd n:=by unfold rd at*;omega
  unfold cH bM;rw[a,Rat.intCast_neg,show th*-(rd n:Rat)=-(th*(rd n:Rat)) by grind,Bu,Bz];refine⟨⟨?_,?_⟩,?_,?_⟩<;>grind
theorem coQ(n:Int):(-(1/2^80)<=bM (5400000-n)-cH n/\bM (5400000-n)-cH n<=1/2^80)/\(-(1/2^80)<=cH (5400000-n)-bM n/\cH (5400000-n)-bM n<=1/2^80):=by
 have a:=S5 5400000 (-n);have g:=Yw n;have q:=MG;have b:=Cr (-n);rw[show(5400000:Int)+-n=5400000-n by omega]at a;unfold t7 at a;have c:=eK b.1 q.1;have d:=eK b.1 q.2;have e:=eK b.2 q.1;have f:=eK b.2 q.2;refine⟨⟨?_,?_⟩,?_,?_⟩<;>grind
theorem aFZ(n:Int):(-(1/2^80)<=cH (n+10800000)+cH n/\cH (n+10800000)+cH n<=1/2^80)/\(-(1/2^80)<=bM (n+10800000)+bM n/\bM (n+10800000)+bM n<=1/2^80):=by
 have a:=S5 n 10800000;have q:=aBM;have b:=Cr n;unfold t7 at a;have c:=eK b.1 q.1;have d:=eK b.1 q.2;have e:=eK b.2 q.1;have f:=eK b.2 q.2;refine⟨⟨?_,?_⟩,?_,?_⟩<;>grind
theorem aCf(m n:Int)(h:m%21600000=n%21600000):cH m=cH n/\bM m=bM n:=by
 have:rd m=rd n:=by unfold rd;omega
 unfold cH bM;rw[this];exact⟨rfl,rfl⟩
theorem aGh(m n N:Nat)(hN:m+n=N){x X:Rat}(a:-X<=x)(b:x<=X){d:Rat}(c:En N X-En m X<=d):-d<=Sn N x-Sn m x/\Sn N x-Sn m x<=d:=by
 subst hN;have t:=Nn ss (fun n=>(CN n).2) m n a b;unfold Sn;exact⟨by grind,by grind⟩
theorem aGg(m n N:Nat)(hN:m+n=N){x X:Rat}(a:-X<=x)(b:x<=X){d:Rat}(c:En N X-En m X<=d):-d<=Cn N x-Cn m x/\Cn N x-Cn m x<=d:=by
 subst hN;have t:=Nn sc (fun n=>(CN n).1) m n a b;unfold Cn;exact⟨by grind,by grind⟩
theorem aDx(n:Nat)(h:n<=5400000):-(1/2^65)<=bM (n:Int)-T n/\bM (n:Int)-T n<=1/2^65:=by
 have f:∀k:Nat,k<=2700000->(-(1/2^70)<=bM (k:Int)-tS k/\bM (k:Int)-tS k<=1/2^70)/\(-(1/2^70)<=cH (k:Int)-tC k/\cH (k:Int)-tC k<=1/2^70):=fun k d=>by
  have e:rd (k:Int)=(k:Int):=by unfold rd;omega
  have p:((k:Int):Rat)=(k:Rat):=rfl;have i:xR k=th*(k:Rat):=rfl;have l:(0:Rat)<=(k:Rat):=by exact_mod_cast zO k
  have m:(k:Rat)<=((2700000:Nat):Rat):=by exact_mod_cast d
  have z:((2700000:Nat):Rat)=2700000:=rfl;rw[z]at m;have t:th*2700000<=4/5:=by decide+kernel
  have j:=I7.1;have v:0<=th*(k:Rat):=zN j l;have w:0<=th*(2700000-(k:Rat)):=zN j (by grind);have s:=aGh 21 79 100 rfl (x:=th*(k:Rat)) (X:=4/5) (by grind) (by grind) aBr;have c:=aGg 20 80 100 rfl (x:=th*(k:Rat)) (X:=4/5) (by grind) (by grind) aBq;have q:tS k=Sn 21 (th*(k:Rat)):=by unfold tS;rw[i,aG4]
  have o:tC k=Cn 20 (th*(k:Rat)):=by unfold tC;rw[i,aG3]
  unfold bM cH;rw[e,p,q,o];exact⟨s,c⟩
 have r:∀{a b:Rat},(-(1/2^70)<=a-b/\a-b<=1/2^70)->-(1/2^65)<=a-b/\a-b<=1/2^65:=fun h=>⟨by grind,by grind⟩;have u:∀{a b c:Rat},(-(1/2^70)<=a-b/\a-b<=1/2^70)->(-(1/2^80)<=c-a/\c-a<=1/2^80)->-(1/2^65)<=c-b/\c-b<=1/2^65:=fun h g=>⟨by grind,by grind⟩;by_cases d:n<=2700000
 ·have e:T n=tS n:=by unfold T;rw[if_pos d]
  rw[e];exact r (f n d).1
 ·have e:T n=tC (5400000-n):=by unfold T;rw[if_neg d]
  have k:=(f (5400000-n) (by omega)).2;have c:=(coQ ((5400000-n:Nat):Int)).1;have e2:(5400000:Int)-((5400000-n:Nat):Int)=(n:Int):=by omega
  rw[e2]at c;rw[e];exact u k c
end TA
end
section
namespace TB
open SM TA
def pw(n:Nat):Rat:=1/((2^n:Nat):Rat)
def piN:Nat:=1361252757398622614210308031816944563295789684324126529685410669750463032901918149778521655839743605959674928731089823146989365642170368889113133881887576594843707879128282940504223844271883137412851325937349614932712174980589351087954220001438807934692205467635764783614178486695651005420606763724274834328528948581018923114502452792556190226489351253372057085896525025124384269588334446152912592611219108414341446061058571548015383485157918025243662716944804850517630198168356061990570741769777839903697453293271042854722388163096590410892661043239943502317395869422906788611909947251132614021423401616192386183657163344982368202759587978585651728916046104554464074683541188811774354136770053165430412068306334717002271937927145831956506959951963934297900526159389632913
def tb:Rat:=(piN:Rat)*pw 2560/10800000
def u0:Rat:=pw 2500
def e0:Rat:=1048576*u0
def cn(x:Rat):Rat:=Cn 652 x
end TB
end
section
namespace TB
open SM TA
def tm(q:Rat):Int:=((q+10800000)/21600000).floor
def rdq(q:Rat):Rat:=q-21600000*(tm q:Rat)
def co(q:Rat):Rat:=cn (tb*rdq q)
end TB
end
section
namespace TB
open SM TA
def e1:Rat:=pw 1220
def e2:Rat:=pw 600
end TB
end
section
open Ev (Gl)
namespace TB
open SM TA
end TB
end
namespace SM
end SM
namespace NT
def HH:Nat:=13479973333575319897333507543509815336818572211270286240551805124608
def aBn(H E j V U:Nat):Nat:=
 let T:=Nat.shiftLeft V j
 let B:=ahQ (U+E-T) H
 U-ahQ T (B-Nat.shiftRight B 223)
structure Eu (s c u v:Int):Prop where
 ex:∃xu yu xv yv:Int,0<=xu/\0<=yu/\0<=xv/\0<=yv/\u=xu*s-yu*c/\v=yv*c-xv*s/\xu*yv-yu*xv=1
def go(H E Z:Nat)(l:List (Bool×Nat)):Nat->Nat->Bool:=List.rec (motive:=fun _=>Nat->Nat->Bool)
 (fun U V=>yD (ahQ U Z) 0&&(yD (ahQ V Z) 0&&(yD (ahQ (U+E) H) H&&yD (ahQ (V+E) H) H)))
 (fun a _ ih U V=>cond a.1 (cond (Nat.ble (aBn H E a.2 U V) V) (ih U (aBn H E a.2 U V)) false) (cond (Nat.ble (aBn H E a.2 V U) U) (ih (aBn H E a.2 V U) V) false)) l
end NT
namespace NT
def ones(m:Nat):Nat:=(2^(224*m)-1)/(2^224-1)
def s1:Nat:=386656750602196061818150062977
def c1:Nat:=1329227995784859635959031469142568601
def S1:Nat:=2087945594618431431837397957646175
def C1:Nat:=1329226355915943401238512989008680485
def rs(c1 s1 c s:Nat):Nat:=(s*c1+c*s1)/2^120
def rc(c1 s1 c s:Nat):Nat:=(c*c1-s*s1)/2^120
def it(c1 s1:Nat)(p:Nat×Nat):Nat->Nat×Nat
 | 0=>p
 |n+1=>(rc c1 s1 (it c1 s1 p n).1 (it c1 s1 p n).2,rs c1 s1 (it c1 s1 p n).1 (it c1 s1 p n).2)
def lN(n:Nat)(k:Nat->Bool):Bool:=akX (motive:=fun _=>Bool) (k 0) (fun p _=>k (Nat.succ p)) n
def down(d:Bool)(n:Nat):List (Bool×Nat):=akX [] (fun i l=>(d,i)::l) n
def TT:Nat->List (Bool×Nat):=fun n=>akX [] (fun _ l=>down false 6++(down true 6++l)) n
def aG5:List (Bool×Nat):=down true 23++(TT 5++(down false 28++(down true 28++(TT 5++(down false 28++(down true 28++(TT 5++(down false 28++(down true 28++(TT 5++(down false 28++down true 28)))))))))))
def aEu(n:Nat)(k:Nat->Nat->Nat->Nat->Bool):Nat->Nat->Nat->Nat->Nat->Bool:=akX (motive:=fun _=>Nat->Nat->Nat->Nat->Nat->Bool)
 (fun _ a b c s=>k a b c s)
 (fun _ ih i a b c s=>lN (a+c/2^28*2^(224*i)) fun a'=>lN (b+s/2^28*2^(224*i)) fun b'=>lN (rc c1 s1 c s) fun c'=>lN (rs c1 s1 c s) fun s'=>lN (i+1) fun i'=>ih i' a' b' c' s') n
def build(n:Nat)(k:Nat->Nat->Bool):Nat->Nat->Nat->Nat->Nat->Bool:=akX (motive:=fun _=>Nat->Nat->Nat->Nat->Nat->Bool)
 (fun _ a b _ _=>k a b)
 (fun _ ih i a b c s=>aEu 75 (fun x y c' s'=>lN (a+x*2^(16800*i)) fun a'=>lN (b+y*2^(16800*i)) fun b'=>lN (i+1) fun i'=>ih i' a' b' c' s') 0 0 0 c s) n
def blocks(H E Z pc ps:Nat)(n:Nat):Nat->Nat->Nat->Bool:=akX (motive:=fun _=>Nat->Nat->Nat->Bool)
 (fun _ _ _=>true)
 (fun _ ih X S C=>lN (S/2^20*pc+C/2^20*ps+X) fun U=>lN (C/2^20*pc-S/2^20*ps) fun V=>and (go H E Z aG5 U V) (lN (rc C1 S1 C S) fun C'=>lN (rs C1 S1 C S) fun S'=>ih 0 S' C')) n
def upto(n:Nat)(k:Nat->Nat->Bool):Nat->Nat->Bool:=akX (motive:=fun _=>Nat->Nat->Bool)
 (fun c s=>k c s)
 (fun _ ih c s=>lN (rc C1 S1 c s) fun c'=>lN (rs C1 S1 c s) fun s'=>ih c' s') n
def runs(b0 n:Nat):Bool:=lN (ones 5400*HH) fun H=>lN (ones 5400*(HH-2^136)) fun E=>lN (ones 5400*(2^224-2^160)) fun Z=>
 build 72 (fun pc ps=>upto b0 (fun C S=>blocks H E Z pc ps n (cond (yD b0 0) (s1*2^72) 0) S C) (2^120) 0) 0 0 0 (2^120) 0
end NT
namespace NT
end NT
end
end Go.Proofs.YtlbklncoihhfcaaGreatDoor
