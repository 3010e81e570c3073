/-
  region.cover: the children, by the closure and slices.ContainsFunc. region.cover: the walk. region.Around: the walk. region.look: what its walk needs; the closure and the children. region.look: the.
-/
import Derived.Test.YtlbklncoihhfcaaGreatDoorU11
set_option maxRecDepth 100000
set_option maxHeartbeats 4000000
open Go.RowKit.Below renaming drew→xO,refl→zD
open Go.Lib renaming hid→zA
open _root_.List renaming drop_eq_getElem_cons→zZ,drop_eq_nil_of_le→yP,length_reverse→zS,mem_cons→zI,not_mem_nil→abQ
open _root_.Nat renaming le_of_lt→qZ,le_refl→zC,le_trans→zJ,lt_of_lt_of_le→zT,mul_comm→qH,zero_le→zO
open _root_.Option renaming some→zL
open Go.Proofs.Tryz renaming prog→zB
open Go.World renaming new_ne→aiQ,setCell→qK
open Go.Value renaming int→jI
open Go.IntKind renaming i64→jJ
open Go.Obj renaming cells→jC
namespace Go.Proofs.YtlbklncoihhfcaaGreatDoor
section
open Go.RowKit Rg
attribute [local go_sem] Oper.semAt_some
def pL(w:World)(bo:Nat)(o:Option Nat)(c:Option (List Blk))(e:Ending)(w':World):Prop:=
 (∃R' v',c=some R'/\e=.returned (.bool true)/\MgRel w (bo+1) bo o w' v' R')\/(c=none/\e=.returned (.bool false)/\Gr2 w w' bo o)
def RA(p:Int×Int×Int×Int)(meets inside:Blk->Bool)(lev k:Nat):Prop:=
 ∀(b:Blk) (R:List Blk),b.l+k=lev->b.n<2*4^b.l->DH R->R.length<=4064->∀(w:World) (v:Value) (bo:Nat),DJ w bo v->RC w (bo+1) v R.reverse->
  Calls zB 101 #[QV p,dD b,jI jJ (lev:Int),.pointer (some ⟨bo,0,none⟩)] w (pL w bo v.ownBlock (eN meets inside k b R))
theorem bT.gr2{α:Type}{E:Elem α}{e:TypeId}{w w':World}{B b:Nat}{o:Option Nat}{v:Value}{l:List α}(h:bT E e w B v l)(n:Gr2 w w' b o)(m:v.ownBlock≠some b)(q:∀k,v.ownBlock=some k->o≠some k):bT E e w' B v l:=by
 refine⟨h.1,?_⟩;rcases h.2 with p|⟨g,a,c,d,i,f,j⟩
 ·exact .inl p
 ·exact .inr ⟨g,a,c,d,i,(n.block g (Array.getElem?_eq_some_iff.1 f).1 (fun e=>m (by rw[d,e];rfl)) (q g (by rw[d];rfl))).trans f,j⟩
theorem mR{meets inside:Blk->Bool}:∀(k:Nat) (b:Blk) (R e:List Blk),b.l+k<=5->b.n<2*4^b.l->DH R->R.length<=4064->eN meets inside k b R=some e->DH e/\e.length<=4064
 | 0,b,R,e,t,c,d,f,h=>by
  unfold eN at h;split at h
  ·have a:(push R b).length<=4064:=by
    unfold fin at h;split at h
    ·assumption
    ·cases h
   have:=oZ h;subst this;exact⟨ZL d ⟨by omega,c⟩,a⟩
  ·cases h;exact⟨d,f⟩
 |k+1,b,R,e,t,c,d,f,h=>by
  unfold eN at h;split at h
  ·split at h
   ·have a:(push R b).length<=4064:=by
     unfold fin at h;split at h
     ·assumption
     ·cases h
    have:=oZ h;subst this;exact⟨ZL d ⟨by omega,c⟩,a⟩
   ·obtain⟨R0,p,h⟩:=bE h;obtain⟨R1,q,h⟩:=bE h;obtain⟨R2,r,s⟩:=bE h;have g:∀i,(b.kid i).l+k<=5:=fun i=>by show b.l+1+k<=5;omega
    obtain⟨u,j⟩:=mR k _ _ _ (g 0) (fV (by omega) c) d f p;obtain⟨v,m⟩:=mR k _ _ _ (g 1) (fV (by omega) c) u j q;obtain⟨w,o⟩:=mR k _ _ _ (g 2) (fV (by omega) c) v m r;exact mR k _ _ _ (g 3) (fV (by omega) c) w o s
  ·cases h;exact⟨d,f⟩
def gR(meets inside:Blk->Bool)(k:Nat):List Blk->List Blk->Option (List Blk)
 | [],R=>some R
 |b::l,R=>(eN meets inside k b R).bind (gR meets inside k l)
theorem Dr{meets inside:Blk->Bool}{k:Nat}{b:Blk}{R:List Blk}(a:meets b=true)(hi:inside b=false):eN meets inside (k+1) b R=gR meets inside k [b.kid 0,b.kid 1,b.kid 2,b.kid 3] R:=by
 unfold eN;rw[if_pos a,if_neg (by rw[hi];simp)];simp only[gR];congr 1;funext R0;congr 1;funext R1;congr 1;funext R2;generalize eN meets inside k (b.kid 3) R2=x;cases x<;>rfl
def Bs(w:World)(bo:Nat)(o:Option Nat)(c:Option (List Blk))(e:Ending)(w':World):Prop:=
 (∃R' v',c=some R'/\e=.returned (.bool false)/\MgRel w (bo+1) bo o w' v' R')\/(c=none/\e=.returned (.bool true)/\Gr2 w w' bo o)
theorem MgRel.from_{w w1 w':World}{a:Nat}{o:Option Nat}{d:Value}{b:List Blk}(h:MgRel w1 (a+1) a o w' d b)(c:Below w.heap.size w w1):MgRel w (a+1) a o w' d b:=
 ⟨h.box,h.own,(Gr2.of c).trans h.gr (.inl rfl),by
  rcases h.ob with h1|h1
  ·exact .inl h1
  ·exact .inr fun j e=>zJ c.size (h1 j e)⟩
theorem Ve{p:Int×Int×Int×Int}{meets inside:Blk->Bool}{lev k:Nat}(t:RA p meets inside lev k){b:Blk}(q:b.l+k=lev)(r:b.n<2*4^b.l){R:List Blk}(K:DH R)(J:R.length<=4064){X Y Z L:Int}(H:L=(lev:Int)){D j:Nat}{w:World}{v:Value}(g:CvEnv w D p X Y Z L j)(I:DJ w j v)(M:RC w (j+1) v R.reverse){x y z:Int}(N:fW b=[jI jJ x,jI jJ y,jI jJ z]):
  Calls zB 133 #[.agg #[jI jJ x,jI jJ y,jI jJ z],.pointer (some ⟨D,0,none⟩),.pointer (some ⟨D+2,0,none⟩),.pointer (some ⟨D+3,0,none⟩)] w (Bs w j v.ownBlock (eN meets inside k b R)):=by
 obtain⟨p1,p2,p3,p4⟩:=p;have d:=Below.new (w:=w) (jC #[jI jJ x,jI jJ y,jI jJ z] 63);have a:=t b R q r K J _ v j (I.next d) (M.next d);have u:dD b=.agg #[jI jJ x,jI jJ y,jI jJ z]:=by unfold dD;rw[N]
 rw[u,<-H]at a;unfold QV at a;dsimp only at a;have f:=B3.new w 63 x y z;have c:=g.next d;have h:=zA d;obtain⟨W,G⟩:∃W,W=w.alloc (jC #[jI jJ x,jI jJ y,jI jJ z] 63):=⟨_,rfl⟩;rw[<-G]at a f c h;have i:=zA a;have m:=zA f;have o:=zA c;clear t q r K J H g I M N u a f c d;go_enter Tryz.func133,Tryz.ntmps133;go_upto_region 1 with fail
 rw[<-G];clear G;obtain⟨⟨U,V,a2,a3⟩,_,c0,d0⟩:=o.out.keep;dsimp only at U V a2 a3;obtain⟨e0,e1,e2⟩:=m.out.keep;go_wp2_with fail
 refine i.out.mono ?_;rintro e O (⟨Q,v',s,rfl,B⟩|⟨s,rfl,A⟩)
 ·have E:=zA (show Bs w j v.ownBlock (eN meets inside k b R) (.returned (.bool false)) O from .inl ⟨Q,v',s,rfl,B.from_ h.out⟩);clear s B;go_wp2_with fail
  go_ret;exact E.out
 ·have E:=zA (show Bs w j v.ownBlock (eN meets inside k b R) (.returned (.bool true)) O from .inr ⟨s,rfl,(Gr2.of h.out).trans A (.inl rfl)⟩);clear s A;go_wp2_with fail
  go_ret;exact E.out
def RF(w:World)(bo:Nat)(o:Option Nat)(c:Option (List Blk))(e:Ending)(w':World):Prop:=
 (∃R' v',c=some R'/\e=.returned (jI jJ (-1))/\MgRel w (bo+1) bo o w' v' R')\/(c=none/\(∃i:Nat,i<=100/\e=.returned (jI jJ (i:Int)))/\Gr2 w w' bo o)
structure IxRel (w:World) (bo n0:Nat) (o:Option Nat) (p:Int×Int×Int×Int) (X Y Z L:Int) (c:Option (List Blk)) (meets inside:Blk->Bool) (k:Nat) (l:List Blk) (kv:Value) (wr:World) (i:Nat) (R:List Blk) (v:Value):Prop where
 mg:MgRel w (bo+1) bo o wr v R
 okc:DH R
 few:R.length<=4064
 env:CvEnv wr n0 p X Y Z L bo
 arg:RC wr 0 kv l
 all:gR meets inside k (l.drop i) R=c
theorem aDj{p:Int×Int×Int×Int}{meets inside:Blk->Bool}{lev k:Nat}(a2:RA p meets inside lev k)(h5:lev<=5){l:List Blk}(hl:∀b∈l,b.l+k=lev/\b.n<2*4^b.l)(c3:l.length<=100){R:List Blk}(hk:DH R)(hf:R.length<=4064){X Y Z L:Int}(hL:L=(lev:Int)){r s:Nat}{w:World}{v kv:Value}(a:CvEnv w r p X Y Z L s)(a1:s<r)(hb:DJ w s v)(hr:RC w (s+1) v R.reverse)(a7:∀j,v.ownBlock=some j->j<r)
  (H:RC w 0 kv l)(a6:∀j,kv.ownBlock=some j->r+4<=j/\j<w.heap.size):
  Calls zB 34 #[kv,.func (.func 133) #[] #[.pointer (some ⟨r,0,none⟩),.pointer (some ⟨r+2,0,none⟩),.pointer (some ⟨r+3,0,none⟩)]] w (RF w s v.ownBlock (gR meets inside k l R)):=by
 obtain⟨o,ho⟩:∃o,o=v.ownBlock:=⟨_,rfl⟩;obtain⟨D,G⟩:∃D,D=gR meets inside k l R:=⟨_,rfl⟩;rw[<-ho,<-G];obtain⟨A,cp,rfl⟩:=H.slice;have HX:=zA (show IxRel w s r o p X Y Z L D meets inside k l (.slice A l.length cp) w 0 R v from⟨⟨hb,hr,Gr2.of (zD _ _),.inl ho.symm⟩,hk,hf,a,H,G.symm⟩);have b2:=zA hl;have a9:=zA a2;have b4:=zA hL;have U:=zA (show ∀j,o=some j->j<r from fun j M=>a7 j (by rw[<-ho];exact M));have Q:=zA a6;have b1:=zA (show r+4<=w.heap.size from a.lt);clear hk hf hL a hb hr a7 H a6 hl a2 ho G;go_enter Tryz.func34,Tryz.ntmps34;go_wp2_with fail
 go_loopw [8] (fun v8 wr=>∃i R v,i<=l.length/\v8=jI jJ (i:Int)/\IxRel w s r o p X Y Z L D meets inside k l (.slice A l.length cp) wr i R v) (fun v8 _=>l.length-(intOf v8).toNat)
 case atStart=>exact⟨0,R,v,by omega,rfl,HX.out⟩
 case round=>
  clear HX;obtain⟨i,R2,v2,hi,rfl,d,q,m,a,f,c⟩:=hrel;by_cases I:i<l.length
  ·obtain⟨b,hx⟩:∃b,l[i]? =some b:=⟨_,List.getElem?_eq_getElem I⟩;obtain⟨g,b8,he,_,hg,x,y,z,u,V,c1,c2⟩:=f.cex hx;cases he;obtain⟨a0,E⟩:=b2.out b (List.mem_of_getElem? hx);have a4:l.drop i=b::l.drop (i+1):=by
    rw[zZ I];congr 1;exact(List.getElem?_eq_some_iff.1 hx).2
   rw[a4]at c;have a3:=Ve a9.out a0 E q m b4.out a d.box d.own u;have b0:=zA a3;have B:=zA d;have O:=zA a;have N:=zA f;have t:=zA c;have b3:=zA (fun J (h:eN meets inside k b R2=some J)=>mR k b R2 J (by omega) E q m h);have b7:=zA (show ∀j,v2.ownBlock=some j->j<r\/r+4<=j from fun j M=>by
    rcases d.ob with h1|h1
    ·exact .inl (U.out j (by rw[<-h1];exact M))
    ·exact .inr (zJ b1.out (h1 j M)))
   have b6:=zA (show ∀j,(Value.slice (some ⟨g,0,none⟩) l.length cp).ownBlock=some j->v2.ownBlock≠some j from fun j M e=>by
    have h2:=Q.out j M;rcases d.ob with h1|h1
    ·have:=U.out j (by rw[<-h1];exact e);omega
    ·have:=h1 j e;omega)
   clear d q m a f c a3 hx u a4 a0 E;go_wp2_with fail
   refine b0.out.mono ?_;rintro e w1 (⟨J,v',K,rfl,hm⟩|⟨K,rfl,a5⟩)
   ·obtain⟨o1,f1⟩:=b3.out J K;have b5:=zA (show IxRel w s r o p X Y Z L D meets inside k l (.slice (some ⟨g,0,none⟩) l.length cp) w1 (i+1) J v' from⟨B.out.trans hm,o1,f1,O.out.gr hm.gr a1 b7.out,N.out.gr2 hm.gr (fun e=>by have:=Q.out _ e;omega) b6.out,by have:=t.out;simp only[gR]at this;rw[K]at this;exact this⟩);clear K hm o1 f1 V c1 c2;go_wp2_with fail
    refine⟨⟨i+1,J,v',I,by go_num,b5.out⟩,?_⟩;simp only[intOf];omega
   ·have HF:=zA (show RF w s o D (.returned (jI jJ (i:Int))) w1 from .inr ⟨by have:=t.out;simp only[gR]at this;rw[K]at this;exact this.symm,⟨i,by omega,rfl⟩,B.out.gr.trans a5 B.out.ob⟩);clear K a5 V c1 c2;go_wp2_with fail
    go_ret;exact HF.out
  ·have b9:i=l.length:=by omega
   have HF:=zA (show RF w s o D (.returned (jI jJ (-1))) wr from .inl ⟨R2,v2,by rw[<-c,yP (by omega)];rfl,rfl,d⟩);clear d q m a f c;go_wp2_with fail
   go_ret;exact HF.out
def Bt(w:World)(bo:Nat)(o:Option Nat)(c:Option (List Blk))(e:Ending)(w':World):Prop:=
 (∃R' v',c=some R'/\e=.returned (.bool false)/\MgRel w (bo+1) bo o w' v' R')\/(c=none/\e=.returned (.bool true)/\Gr2 w w' bo o)
theorem aCU{w:World}{g a:Nat}{o:Option Nat}{c:Option (List Blk)}{A:Option Addr}{n j:Nat}
  (f:Calls zB 34 #[.slice A n j,.func (.func 133) #[] #[.pointer (some ⟨a,0,none⟩),.pointer (some ⟨a+2,0,none⟩),.pointer (some ⟨a+3,0,none⟩)]] w (RF w g o c)):
  Calls zB 14 #[.slice A n j,.func (.func 133) #[] #[.pointer (some ⟨a,0,none⟩),.pointer (some ⟨a+2,0,none⟩),.pointer (some ⟨a+3,0,none⟩)]] w (Bt w g o c):=by
 have m:=zA f;clear f;go_enter Tryz.func14,Tryz.ntmps14;go_wp2_with fail
 refine m.out.mono ?_;rintro e l (⟨p,r,b,rfl,k⟩|⟨b,⟨i,hi,rfl⟩,d⟩)
 ·have h:=zA (show Bt w g o c (.returned (.bool false)) l from .inl ⟨p,r,b,rfl,k⟩);clear b k;go_wp2_with fail
  go_ret;exact h.out
 ·have h:=zA (show Bt w g o c (.returned (.bool true)) l from .inr ⟨b,rfl,d⟩);have q:(0:Int)<=(i:Int):=by omega
  clear b d;go_wp2_with fail
  go_ret;exact h.out
end
section
open Go.RowKit Rg
attribute [local go_sem] Oper.semAt_some
def whole(inside:Blk->Bool)(k:Nat)(b:Blk):Bool:=decide (k=0)||inside b
theorem Ds{meets inside:Blk->Bool}{k:Nat}{b:Blk}{R:List Blk}(a:meets b=true)(c:whole inside k b=true):eN meets inside k b R=fin (push R b):=by
 cases k with
 |zero=>unfold eN;rw[if_pos a]
 |succ k=>
  have hi:inside b=true:=by simpa[whole]using c
  unfold eN;rw[if_pos a,if_pos hi]
theorem Ow{meets inside:Blk->Bool}{k:Nat}{b:Blk}{R:List Blk}(a:meets b=false):eN meets inside k b R=some R:=by
 cases k<;>unfold eN<;>rw[if_neg (by rw[a];simp)]
theorem Jn(hc:CelH){p:Int×Int×Int×Int}{q:Blk->Int×Int×Int×Int}{meets inside:Blk->Bool}(hx:BoxH p q meets inside){lev k:Nat}(k0:∀k',k=k'+1->RA p meets inside lev k')(h5:lev<=5)(b:Blk)(R:List Blk)(m6:b.l+k=lev)(B:b.n<2*4^b.l)(hk:DH R)(hn:R.length<=4064)(w:World)(v:Value)(g:Nat)(hb:DJ w g v)(hr:RC w (g+1) v R.reverse):
  Calls zB 101 #[QV p,dD b,jI jJ (lev:Int),.pointer (some ⟨g,0,none⟩)] w (pL w g v.ownBlock (eN meets inside k b R)):=by
 have b3:b.l<=5:=by omega
 have t:=hx.box b b3 B;have c2:=hx.meets b b3 B;have b9:=hx.inside b b3 B;obtain⟨p1,p2,p3,p4⟩:=p;obtain⟨qq,k6⟩:∃qq,qq=q b:=⟨_,rfl⟩;rw[<-k6]at t c2 b9;obtain⟨q1,q2,q3,q4⟩:=qq;obtain⟨X,Y,Z,c4,hX,hY,hZ,x0,x1,y0,y1,z0,z1⟩:=uG b3 B;have b7:dD b=.agg #[jI jJ X,jI jJ Y,jI jJ Z]:=by unfold dD;rw[c4]
 rw[b7]at t ⊢;obtain⟨L,hL⟩:∃L:Int,L=(lev:Int):=⟨_,rfl⟩;rw[<-hL];obtain⟨o,ho⟩:∃o,o=v.ownBlock:=⟨_,rfl⟩;rw[<-ho];have HO:=zA ho;clear ho;have j2:(X=L)↔k=0:=by omega
 unfold QV at t c2 b9 ⊢;dsimp only at t c2 b9 ⊢;obtain⟨W,hW⟩:∃W,W=(((w.alloc (jC #[jI jJ p1,jI jJ p2,jI jJ p3,jI jJ p4] 33)).alloc (jC #[jI jJ X,jI jJ Y,jI jJ Z] 63)).alloc (jC #[jI jJ L] 3)).alloc (jC #[.pointer (some ⟨g,0,none⟩)] 144):=⟨_,rfl⟩;obtain⟨f,s,m7⟩:=CvEnv.new w (p1,p2,p3,p4) X Y Z L g W hW;have y:=zA f;have l6:=zA hL;have l3:=zA k0;have I:=zA s;have g9:=zA t;have f2:=zA c2;have l5:=zA b9;have i7:=zA j2;have j0:=zA c4;have HB:=zA hb;have HR:=zA hr;have HK:=zA hk;have c9:=zA (show ∀j,v.ownBlock=some j->j<w.heap.size/\g<j from fun j z=>by have:=hr.lt j z;exact⟨this.2,by omega⟩);have e5:=zA hb.lt;obtain⟨G,g4⟩:∃G,G=w.heap.size:=⟨_,rfl⟩;have c7:=zA g4;clear hx f s t c2 b9 j2 c4 hb hr hk b7 hX hY hZ k6 hL k0;go_enter Tryz.func101,Tryz.ntmps101;go_upto_region 1 with fail
 rw[<-hW];clear hW;rw[<-g4]at y ⊢;rw[show G+1+1+1=G+3 from rfl,show G+1+1=G+2 from rfl];clear g4;obtain⟨⟨a0,a1,a2,a3⟩,⟨b0,b1,b2⟩,c0,d0⟩:=y.out.keep;go_wp2_with fail
 refine(g9.out _).mono ?_;rintro e w1 ⟨rfl,a9⟩;clear a0 a1 a2 a3 b0 b1 b2 c0 d0;have f6:=Below.new (w:=w1) (jC #[jI jJ q1,jI jJ q2,jI jJ q3,jI jJ q4] 33);have J:=zA ((y.out.next a9).next f6);have H:=zA ((I.out.trans (a9.mono I.out.size)).trans (f6.mono (zJ I.out.size a9.size)));have D:=heap_alloc_new w1 (jC #[jI jJ q1,jI jJ q2,jI jJ q3,jI jJ q4] 33);have m8:G+3<w1.heap.size:=(y.out.next a9).lt;obtain⟨W2,f5⟩:∃W2,W2=w1.alloc (jC #[jI jJ q1,jI jJ q2,jI jJ q3,jI jJ q4] 33):=⟨_,rfl⟩;rw[<-f5]at J H D;clear a9 f6;go_upto_region 2 with fail
 rw[<-f5];clear f5 g9 y I;obtain⟨⟨a0,a1,a2,a3⟩,⟨b0,b1,b2⟩,c0,d0⟩:=J.out.keep;dsimp only at a0 a1 a2 a3;have e0:W2.cell? ⟨w1.heap.size,0,none⟩=some (jI jJ q1):=by simp[World.cell?,D]
 have e1:W2.cell? ⟨w1.heap.size,1,none⟩=some (jI jJ q2):=by simp[World.cell?,D]
 have e2:W2.cell? ⟨w1.heap.size,2,none⟩=some (jI jJ q3):=by simp[World.cell?,D]
 have e3:W2.cell? ⟨w1.heap.size,3,none⟩=some (jI jJ q4):=by simp[World.cell?,D]
 have f3:=zA D;clear D;go_wp2_with fail
 refine(f2.out _).mono ?_;rintro e w3 ⟨rfl,d6⟩;have r:=zA (H.out.trans (d6.mono H.out.size));have a6:=zA (J.out.next d6);have i4:=zA ((d6.block w1.heap.size (Array.getElem?_eq_some_iff.1 f3.out).1).trans f3.out);clear a0 a1 a2 a3 b0 b1 b2 c0 d0 e0 e1 e2 e3 d6 J H f3;cases hm:meets b with
 |false=>
  have HF:=zA (show pL w g o (eN meets inside k b R) (.returned (.bool true)) w3 from .inl ⟨R,v,Ow hm,rfl,HB.out.next r.out,HR.out.next r.out,Gr2.of r.out,.inl HO.out.symm⟩);clear hm HB HR HK f2;go_wp2_with fail
  go_ret;exact HF.out
 |true=>
  have HM:=zA hm;clear hm f2;obtain⟨⟨a0,a1,a2,a3⟩,⟨b0,b1,b2⟩,c0,d0⟩:=a6.out.keep;dsimp only at a0 a1 a2 a3;have c3:=i4.out;have e0:w3.cell? ⟨w1.heap.size,0,none⟩=some (jI jJ q1):=by simp[World.cell?,c3]
  have e1:w3.cell? ⟨w1.heap.size,1,none⟩=some (jI jJ q2):=by simp[World.cell?,c3]
  have e2:w3.cell? ⟨w1.heap.size,2,none⟩=some (jI jJ q3):=by simp[World.cell?,c3]
  have e3:w3.cell? ⟨w1.heap.size,3,none⟩=some (jI jJ q4):=by simp[World.cell?,c3]
  clear c3;go_upto_region 4 with fail
  go_cut [26]from 12 to 50 (fun m4 wx=>m4=.bool (whole inside k b)/\Below w3.heap.size w3 wx)
  case first=>
   by_cases U:k=0
   ·have g8:X=L:=i7.out.2 U;have k8:(X==L)=true:=by simp[g8]
    have f4:=zA (show whole inside k b=true by simp[whole,U]);clear U;go_wp2_with fail
    go_meet
    exact⟨by rw[f4.out],zD _ _⟩
   ·have g8:¬X=L:=fun e=>U (i7.out.1 e);have k8:(X==L)=false:=by simp[g8]
    have f4:=zA (show whole inside k b=inside b by simp[whole,U]);clear U;go_wp2_with fail
    refine(l5.out _).mono ?_;rintro e w4 ⟨rfl,d7⟩;have k9:=zA d7;clear d7;go_wp2_with fail
    go_meet
    exact⟨by rw[f4.out],k9.out⟩
  case rest=>
   obtain⟨rfl,f7⟩:=hcut;obtain⟨wb,g7⟩:∃x,x=wc:=⟨_,rfl⟩;subst g7;have h:=zA (r.out.trans (f7.mono r.out.size));have a:=zA (a6.out.next f7);clear a0 a1 a2 a3 b0 b1 b2 c0 d0 e0 e1 e2 e3 f7 r a6 i4;cases hw:whole inside k b with
   |true=>
    have a5:=zA (Ds (R:=R) HM.out hw);have M:=zA (show ∀j,v.ownBlock=some j->j<G/\g<j from fun j z=>by rw[c7.out];exact c9.out j z);have u:=zA (HB.out.next h.out);have N:=HR.out.next h.out;obtain⟨A,c,rfl⟩:=N.slice;obtain⟨N1,j1⟩:∃N1,N1=R.reverse.length:=⟨_,rfl⟩;rw[<-j1]at N u HB c9 M HO;have i5:=zA (show ∀j,(Value.slice A N1 c).ownBlock=some j->j<wb.heap.size/\g<j from fun j z=>by have:=c9.out j z;have:=h.out.size;omega);have i3:=zA N;have l7:=zA (show R.reverse.length<=1000000000 by rw[zS];omega);have l0:=zA (show g+1<=wb.heap.size from u.out.lt);have e6:=zA (show AH.enc b=(#[jI jJ X,jI jJ Y,jI jJ Z]:Array Value).toList from j0.out);have l1:=zA (show b.l<=5/\b.n<2*4^b.l from⟨b3,B⟩);have b5:g<G:=by have:=e5.out;have:=c7.out;omega
    have a4:=zA b5;have l9:=zA (show G+4<=wb.heap.size from a.out.lt);clear j1 N hw;obtain⟨⟨a0,a1,a2,a3⟩,⟨b0,b1,b2⟩,c0,d0⟩:=a.out.keep;obtain⟨f0,f1⟩:=u.out.keep;clear a0 a1 a2 a3 c0;have g5:=aiQ wb _ d0;have g6:=aiQ wb _ f0;have k3:¬G+3=wb.heap.size:=fun e=>g5 e.symm;have k4:¬g=wb.heap.size:=fun e=>g6 e.symm;have j3:=(a.out.next (Below.new (jC #[jI jJ X,jI jJ Y,jI jJ Z] 63))).keep.2.2.2;have e7:=(u.out.next (Below.new (jC #[jI jJ X,jI jJ Y,jI jJ Z] 63))).keep.1;have e8:=(a.out.next ((zD _ wb).drew.alloc (zC _) (jC #[jI jJ X,jI jJ Y,jI jJ Z] 63))).keep.2.2.2;have a7:=(u.out.next ((zD _ wb).drew.alloc (zC _) (jC #[jI jJ X,jI jJ Y,jI jJ Z] 63))).keep.1;go_upto_region 5 with fail
    go_cut []from 27 to 50 (fun wx=>∃v2,PvRel wb g o (push R b) wx v2 (b::R)/\CvEnv wx G (p1,p2,p3,p4) X Y Z L g)
    case first=>
     go_region_law (first
      |(refine rJ (E:=AH) wb (by (repeat' first|(with_reducible exact zD _ _)|(with_reducible refine xO ?_)|(with_reducible refine Below.alloc ?_ ?_ _)|exact zC _)) (by rfl) _ _ _ (by rfl) 63 (.agg #[jI jJ 0,jI jJ 0,jI jJ 0]) 24 Tryz.underlying60 gW (by rfl) (by decide) (by omega) (g+1) (.slice A N1 c) R.reverse (by rfl) i3.out _ b #[jI jJ X,jI jJ Y,jI jJ Z] 1 (by rfl) ⟨_,_,heap_alloc_new _ _⟩ e6.out l7.out l0.out ?_;intro g3 m5 w4 s ho Q j4;rw[zS]at ho;obtain⟨m0,m1,m2⟩:=Vm u.out s Q M.out a.out a4.out;have b8:=aAU (zD _ _) u.out s Q ho j4 HK.out l1.out hn i5.out a.out (fun j z=>(M.out j z).1) a4.out;rw[<-HO.out]at b8;have i1:=zA b8;clear b8;clear s ho Q j4)
      |fail)
     all_goals (
      clear m0 m1 m2 j3 e7 e8 a7 g5 g6 k3 k4 b0 b1 b2 d0 f0 f1;go_wp2_with fail
      go_meet
      exact⟨_,i1.out⟩)
    case rest=>
     obtain⟨v2,V,f⟩:=hcut;have O:=zA V;have c8:=zA f;clear j3 e7 e8 a7 g5 g6 k3 k4 b0 b1 b2 d0 f0 f1 V f a i3 u HB e6;go_wp2_with fail
     go_loopw [] (fun wx=>∃v3 R3,PvRel wb g o (push R b) wx v3 R3/\CvEnv wx G (p1,p2,p3,p4) X Y Z L g) (fun wx=>NI ((wx.cell? ⟨g,0,none⟩).getD (.slice none 0 0)))
     case atStart=>exact⟨_,_,O.out,c8.out⟩
     case round=>
      clear O c8;obtain⟨v3,R3,V,f⟩:=hrel;have O:=zA V;have c8:=zA f;have l2:=zA (aAT hc V);obtain⟨_,_,_,d0⟩:=f.keep;clear V f;go_wp2_with fail
      refine l2.out.mono ?_;rintro e w5 d9;have K:=zA (aDG O.out d9 c8.out a4.out (fun j z=>by rw[HO.out]at z;exact(M.out j z).1) l9.out);rcases aAV O.out d9 with⟨rfl,v4,R4,h4,m3⟩|⟨rfl,v4,h4⟩
      ·have i6:=zA h4;clear h4 d9 d0;go_wp2_with fail
       refine⟨⟨_,_,i6.out,K.out⟩,?_⟩;rw[i6.out.meas,O.out.meas];exact m3
      ·have m:=h4.mg;have HG:=zA (show MgRel w (g+1) g o w5 v4 (push R b)from⟨m.box,m.own,(Gr2.of h.out).trans m.gr (.inl rfl),by
        rcases m.ob with h1|h1
        ·exact .inl h1
        ·exact .inr fun j z=>zJ h.out.size (h1 j z)⟩)
       obtain⟨Av,cv,rfl⟩:=m.own.slice;obtain⟨k5,f9⟩:∃k5,k5=(push R b).reverse.length:=⟨_,rfl⟩;have k2:k5=(push R b).length:=by rw[f9,zS]
       rw[<-f9]at HG m;obtain⟨g0,g1⟩:=m.box.keep;obtain⟨_,_,_,d5⟩:=K.out.keep;have i2:=zA k2;clear h4 d9 d0 m f9 k2;by_cases hq:(k5:Int)<=4064
       ·have HF:=zA (show pL w g o (eN meets inside k b R) (.returned (.bool true)) w5 from .inl ⟨_,_,by rw[a5.out];unfold fin;rw[if_pos (by rw[<-i2.out];omega)],rfl,HG.out⟩);go_wp2_with fail
        go_ret;exact HF.out
       ·have HF:=zA (show pL w g o (eN meets inside k b R) (.returned (.bool (decide ((k5:Int)<=4064)))) w5 from .inr ⟨by rw[a5.out];unfold fin;rw[if_neg (by rw[<-i2.out];omega)],by rw[decide_eq_false hq],HG.out.gr⟩);go_wp2_with fail
        go_ret;exact HF.out
   |false=>
    obtain⟨k',rfl⟩:∃k',k=k'+1:=by
     cases k with
     |zero=>simp[whole]at hw
     |succ k=>exact⟨k,rfl⟩
    have e9:inside b=false:=by simpa[whole]using hw
    have k1:=Dr (k:=k') (R:=R) HM.out e9;have d7:b.l<=4:=by omega
    have i0:=zA (fun w=>RV hc.cva d7 B w);have b7:dD b=.agg #[jI jJ X,jI jJ Y,jI jJ Z]:=by unfold dD;rw[j0.out]
    rw[b7]at i0;have a5:=zA k1;have b5:g<G:=by have:=e5.out;have:=c7.out;omega
    have l8:=zA (show ∀j,v.ownBlock=some j->j<G from fun j z=>by rw[c7.out];exact(c9.out j z).1);clear hw e9 k1 b7;obtain⟨_,⟨b0,b1,b2⟩,_,_⟩:=a.out.keep;go_wp2_with fail
    refine(i0.out _).mono ?_;rintro e w5 ⟨v5,rfl,e4,b4⟩;have c6:=zA (h.out.trans (b4.mono h.out.size));have K:=zA (a.out.next b4);have g2:=e4.lt;have g7:=a.out.lt;have f8:=aDj (l3.out k' rfl) h5 (l:=[b.kid 0,b.kid 1,b.kid 2,b.kid 3]) (fun d hd=>by
     have d8:∀i,i<4->(b.kid i).l+k'=lev/\(b.kid i).n<2*4^(b.kid i).l:=fun i hi=>⟨by show b.l+1+k'=lev;omega,fV hi B⟩;simp only[zI,abQ,or_false]at hd;rcases hd with rfl|rfl|rfl|rfl
     ·exact d8 0 (by omega)
     ·exact d8 1 (by omega)
     ·exact d8 2 (by omega)
     ·exact d8 3 (by omega)) (by simp) HK.out hn l6.out K.out b5 (HB.out.next c6.out) (HR.out.next c6.out) l8.out (e4.mono (zO _)) (fun j z=>⟨by have:=(g2 j z).1;omega,(g2 j z).2⟩)
    rw[<-HO.out]at f8;obtain⟨A5,c5,rfl⟩:=e4.slice;have l4:=zA (aCU f8);clear f8 g2 e4 b4 b0 b1 b2 g7;go_wp2_with fail
    refine l4.out.mono ?_;rintro e w6 (⟨R',v',b6,rfl,m⟩|⟨b6,rfl,Q⟩)
    ·have HF:=zA (show pL w g o (eN meets inside (k'+1) b R) (.returned (.bool true)) w6 from .inl ⟨R',v',by rw[a5.out];exact b6,rfl,m.from_ c6.out⟩);clear b6 m;go_wp2_with fail
     go_ret;exact HF.out
    ·have HF:=zA (show pL w g o (eN meets inside (k'+1) b R) (.returned (.bool false)) w6 from .inr ⟨by rw[a5.out];exact b6,rfl,(Gr2.of c6.out).trans Q (.inl rfl)⟩);clear b6 Q;go_wp2_with fail
     go_ret;exact HF.out
theorem Jm(h:CelH){p:Int×Int×Int×Int}{q:Blk->Int×Int×Int×Int}{meets inside:Blk->Bool}(m:BoxH p q meets inside){lev:Nat}(f:lev<=5):∀k,RA p meets inside lev k
 | 0=>fun b R a c j i w v d g l=>Jn h m (fun n e=>by cases e) f b R a c j i w v d g l
 |k+1=>fun b R a c j i w v d g l=>Jn h m (fun n e=>by cases e;exact Jm h m f k) f b R a c j i w v d g l
end
section
open Go.RowKit Rg
attribute [local go_sem] Oper.semAt_some
theorem AR(meets inside:Blk->Bool)(lev:Nat):bX meets inside lev=(gR meets inside lev [⟨0,0⟩,⟨0,1⟩] []).bind fun R=>if R.length<=4000 then some R.reverse else none:=by
 unfold bX;simp only[gR];cases eN meets inside lev ⟨0,0⟩ []with
 |none=>rfl
 |some R0=>
  show((eN meets inside lev ⟨0,1⟩ R0).bind _)=(((eN meets inside lev ⟨0,1⟩ R0).bind some).bind _);cases eN meets inside lev ⟨0,1⟩ R0<;>rfl
def iE(w:World)(c:Option (List Blk))(e:Ending)(w':World):Prop:=
 ((∃L v,c=some L/\e=.returned (.tuple #[v,jI jJ 0])/\RC w' w.heap.size v L)\/(c=none/\e=.returned (.tuple #[.slice none 0 0,jI jJ 4])))/\Below w.heap.size w w'
structure ArRel (w W2:World) (bo:Nat) (p:Int×Int×Int×Int) (meets inside:Blk->Bool) (lev:Nat) (kv:Value) (wr:World) (i:Nat) (R:List Blk) (v:Value):Prop where
 mg:MgRel W2 (bo+1) bo none wr v R
 okc:DH R
 few:R.length<=4064
 plc:wr.heap[w.heap.size]? =some (jC #[jI jJ p.1,jI jJ p.2.1,jI jJ p.2.2.1,jI jJ p.2.2.2] 33 (0,0))
 arg:RC wr 0 kv [⟨0,0⟩,⟨0,1⟩]
 all:gR meets inside lev ([(⟨0,0⟩:Blk),⟨0,1⟩].drop i) R=gR meets inside lev [⟨0,0⟩,⟨0,1⟩] []
 bel:Below w.heap.size w wr
theorem JI (hc:CelH){p:Int×Int×Int×Int}{q:Blk->Int×Int×Int×Int}{meets inside:Blk->Bool}(hx:BoxH p q meets inside){lev:Nat}(h5:lev<=5)(hv:∀w,Calls zB 29 #[QV p] w (GP (.bool true) w))(w:World):
    Calls zB 68 #[QV p,jI jJ (lev:Int)] w (iE w (bX meets inside lev)):=by
  have e4:=zA (Jm hc hx h5)
  obtain⟨p1,p2,p3,p4⟩:=p
  unfold QV at hv ⊢
  dsimp only at hv ⊢
  have HV:=zA hv
  obtain⟨L,hL⟩:∃L:Int,L=(lev:Int):=⟨_,rfl⟩
  have l0:0<=L:=by omega
  have l5:L<=5:=by omega
  rw[<-hL]
  have HL:=zA hL
  have Q:=zA (Below.new (w:=w) (jC #[jI jJ p1,jI jJ p2,jI jJ p3,jI jJ p4] 33))
  have I:=zA (heap_alloc_new w (jC #[jI jJ p1,jI jJ p2,jI jJ p3,jI jJ p4] 33))
  clear hc hx hv hL
  obtain⟨W,hW⟩:∃W,W=w.alloc (jC #[jI jJ p1,jI jJ p2,jI jJ p3,jI jJ p4] 33):=⟨_,rfl⟩
  rw[<-hW]at Q I
  go_enter Tryz.func68,Tryz.ntmps68
  go_upto_block 0 with fail
  rw[<-hW]
  clear hW
  have O:=I.out
  have a0:W.cell? ⟨w.heap.size,0,none⟩=some (jI jJ p1):=by simp[World.cell?,O]
  have a1:W.cell? ⟨w.heap.size,1,none⟩=some (jI jJ p2):=by simp[World.cell?,O]
  have a2:W.cell? ⟨w.heap.size,2,none⟩=some (jI jJ p3):=by simp[World.cell?,O]
  have a3:W.cell? ⟨w.heap.size,3,none⟩=some (jI jJ p4):=by simp[World.cell?,O]
  clear O
  go_wp2_with fail
  refine(HV.out _).mono ?_
  rintro e w1 ⟨rfl,f⟩
  have D:=zA (Q.out.trans (f.mono Q.out.size))
  have a9:w.heap.size<W.heap.size:=(Array.getElem?_eq_some_iff.1 I.out).1
  have c6:=zA ((f.block w.heap.size a9).trans I.out)
  have f3:=f.size
  clear a0 a1 a2 a3 f Q I
  have Y:=Below.new (w:=w1) (jC #[.slice none 0 0] 60)
  have b4:=(heap_alloc_new w1 (jC #[.slice none 0 0] 60))
  obtain⟨wa,a4⟩:∃wa,wa=w1.alloc (jC #[.slice none 0 0] 60):=⟨_,rfl⟩
  have b7:wa.heap.size=w1.heap.size+1:=by rw[a4];simp
  rw[<-a4]at Y b4
  have K:=Below.new (w:=wa) (jC #[jI jJ 0,jI jJ 0,jI jJ 0,jI jJ 0,jI jJ 0,jI jJ 1] 63)
  have G:=World.ownsRow_lit (base:=0) (e:=63) (size:=3) wa #[jI jJ 0,jI jJ 0,jI jJ 0,jI jJ 0,jI jJ 0,jI jJ 1] 2 (zO _) (by decide) (by decide)
  obtain⟨W2,V⟩:∃W2,W2=wa.alloc (jC #[jI jJ 0,jI jJ 0,jI jJ 0,jI jJ 0,jI jJ 0,jI jJ 1] 63):=⟨_,rfl⟩
  rw[<-V]at K G
  rw[b7]at G
  have b2:=zA (show ArRel w W2 w1.heap.size (p1,p2,p3,p4) meets inside lev (.slice (some ⟨w1.heap.size+1,0,none⟩) 2 2) W2 0 [] (.slice none 0 0)from
    ⟨⟨(K.block _ (by omega)).trans b4,bT.nil,Gr2.of (zD _ _),.inl rfl⟩,(fun d hd=>by cases hd),by simp,(K.block _ (by omega)).trans ((Y.block _ (by omega)).trans c6.out),G,rfl,(D.out.trans (Y.mono D.out.size)).trans (K.mono (by have:=D.out.size;omega))⟩)
  have a7:W2.heap.size=w1.heap.size+2:=by rw[V];simp[b7]
  have c9:=zA a4
  have c8:=zA V
  have c4:=zA D.out.size
  have M:w.heap.size<w1.heap.size:=by omega
  have s:=zA M
  have c7:=zA a7
  clear Y b4 K G c6 a4 V b7 f3 a9 M a7
  go_wp2_with fail
  rw[<-c9.out,<-c8.out]
  clear c9 c8
  obtain⟨J,M⟩:∃J,J=w1.heap.size:=⟨_,rfl⟩
  rw[<-M]at b2 s c7 c4 ⊢
  clear M
  go_loopw [24] (fun b9 wr=>∃i R v,i<=2/\b9=jI jJ ((i:Nat):Int)/\ArRel w W2 J (p1,p2,p3,p4) meets inside lev (.slice (some ⟨J+1,0,none⟩) 2 2) wr i R v) (fun b9 _=>2-(intOf b9).toNat)
  case atStart=>exact⟨0,_,_,by omega,rfl,b2.out⟩
  case round=>
    clear b2
    obtain⟨i,R,v,hi,rfl,m,A,u,B,t,o,r⟩:=hrel
    by_cases d9:i<2
    · obtain⟨b,hx⟩:∃b,[(⟨0,0⟩:Blk),⟨0,1⟩][i]? =some b:=⟨_,List.getElem?_eq_getElem (by simpa using d9)⟩
      obtain⟨g,f4,he,_,hg,x,y,z,b0,c0,c1,c2⟩:=t.cex hx
      injection he with hA d8 e9
      injection hA with hA
      injection hA with hA
      subst hA
      clear d8 e9
      have Z:b.l=0/\b.n<2:=by
        have:=List.mem_of_getElem? hx
        simp only[zI,abQ,or_false]at this
        rcases this with rfl|rfl<;>exact⟨rfl,by decide⟩
      have d6:[(⟨0,0⟩:Blk),⟨0,1⟩].drop i=b::[(⟨0,0⟩:Blk),⟨0,1⟩].drop (i+1):=by
        rw[zZ (by simpa using d9)]
        congr 1
        exact(List.getElem?_eq_some_iff.1 hx).2
      rw[d6]at o
      have b3:b.n<2*4^b.l:=by rw[Z.1];omega
      have f:=Below.new (w:=wr) (jC #[jI jJ x,jI jJ y,jI jJ z] 63)
      have c:=e4.out lev b R (by rw[Z.1];omega) b3 A u _ v J (m.box.next f) (m.own.next f)
      have d5:dD b=.agg #[jI jJ x,jI jJ y,jI jJ z]:=by unfold dD;rw[b0]
      rw[d5,<-HL.out]at c
      unfold QV at c
      dsimp only at c
      have h8:=B3.new wr 63 x y z
      have e3:∀j,v.ownBlock=some j->J+2<=j:=fun j hj=>by
        rcases m.ob with h1|h1
        · rw[h1]at hj;cases hj
        · have:=h1 j hj;have:=c7.out;omega
      have a:=(f.block w.heap.size (Array.getElem?_eq_some_iff.1 B).1).trans B
      have E:=t.next f
      obtain⟨wv,b8⟩:∃wv,wv=wr.alloc (jC #[jI jJ x,jI jJ y,jI jJ z] 63):=⟨_,rfl⟩
      rw[<-b8]at c h8 a E f
      have b1:=zA c
      have D:=zA f
      have e6:=zA m
      have c3:=zA E
      have a6:=zA a
      have a5:=zA o
      have c5:=zA r
      have U:=zA e3
      have e5:=zA (fun R' (h:eN meets inside lev b R=some R')=>mR lev b R R' (by rw[Z.1];omega) b3 A u h)
      have e8:=h8.keep
      go_upto_region 9 with fail
      rw[<-b8]
      clear b8 c f m t E B o r e3 A u hx b0 d6 Z b3 d5 c0 c1 c2
      obtain⟨e0,e1,e2⟩:=e8
      have a0:wv.cell? ⟨w.heap.size,0,none⟩=some (jI jJ p1):=by simp[World.cell?,a]
      have a1:wv.cell? ⟨w.heap.size,1,none⟩=some (jI jJ p2):=by simp[World.cell?,a]
      have a2:wv.cell? ⟨w.heap.size,2,none⟩=some (jI jJ p3):=by simp[World.cell?,a]
      have a3:wv.cell? ⟨w.heap.size,3,none⟩=some (jI jJ p4):=by simp[World.cell?,a]
      clear h8 a
      go_wp2_with fail
      refine b1.out.mono ?_
      rintro e w5 (⟨R',v',H,rfl,hm⟩|⟨H,rfl,d7⟩)
      · obtain⟨o1,f1⟩:=e5.out R' H
        have b6:=hm.from_ D.out
        have e7:=zA (show ArRel w W2 J (p1,p2,p3,p4) meets inside lev (.slice (some ⟨J+1,0,none⟩) 2 2) w5 (i+1) R' v' from
          ⟨e6.out.trans b6,o1,f1,(hm.gr.block w.heap.size (Array.getElem?_eq_some_iff.1 a6.out).1 (by have:=s.out;omega) (fun e=>by have:=U.out _ e;have:=s.out;omega)).trans a6.out,
           c3.out.gr2 hm.gr (fun e=>by have h:J+1=J:=zL.inj e;omega) (fun j hj e=>by have h:J+1=j:=zL.inj hj;have:=U.out _ e;omega),by have:=a5.out;simp only[gR]at this;rw[H]at this;exact this,
           b6.gr.below c5.out (by have:=s.out;omega) (fun j hj=>by have:=U.out j hj;have:=s.out;omega)⟩)
        clear H hm b6 o1 f1 a0 a1 a2 a3 e0 e1 e2
        go_wp2_with fail
        refine⟨⟨i+1,R',v',by omega,by go_num,e7.out⟩,?_⟩
        simp only[intOf]
        omega
      · have HF:=zA (show iE w (bX meets inside lev) (.returned (.tuple #[.slice none 0 0,jI jJ 4])) w5 from⟨.inr ⟨by
          have:=a5.out
          simp only[gR]at this
          rw[H]at this
          rw[AR]
          simp only[gR]
          rw[<-this]
          rfl,rfl⟩,((Gr2.of D.out).trans d7 (.inl rfl)).below c5.out (by have:=s.out;omega) (fun j hj=>by have:=U.out j hj;have:=s.out;omega)⟩)
        clear H d7 a0 a1 a2 a3 e0 e1 e2
        go_wp2_with fail
        go_ret2
        exact HF.out
    · have f0:i=2:=by omega
      subst f0
      have b5:gR meets inside lev [⟨0,0⟩,⟨0,1⟩] []=some R:=o.symm
      have X:bX meets inside lev=if R.length<=4000 then some R.reverse else none:=by rw[AR,b5];rfl
      obtain⟨d0,d1⟩:=m.box.keep
      obtain⟨Av,cv,rfl⟩:=m.own.slice
      have N:RC wr w.heap.size (.slice Av R.reverse.length cv) R.reverse:=m.own.mono (by have:=s.out;omega)
      by_cases hq:R.length<=4000
      · have HF:=zA (show iE w (bX meets inside lev) (.returned (.tuple #[.slice Av R.reverse.length cv,jI jJ 0])) wr from⟨.inl ⟨_,_,by rw[X,if_pos hq],rfl,N⟩,r⟩)
        obtain⟨k,hk⟩:∃k,k=R.reverse.length:=⟨_,rfl⟩
        have f2:(k:Int)<=4000:=by rw[hk,zS];omega
        rw[<-hk]at d0 HF
        clear hk m A u B t o r X b5 N hq
        go_wp2_with fail
        go_ret2
        exact HF.out
      · have HF:=zA (show iE w (bX meets inside lev) (.returned (.tuple #[.slice none 0 0,jI jJ 4])) wr from⟨.inr ⟨by rw[X,if_neg hq],rfl⟩,r⟩)
        obtain⟨k,hk⟩:∃k,k=R.reverse.length:=⟨_,rfl⟩
        have f2:¬(k:Int)<=4000:=by rw[hk,zS];omega
        rw[<-hk]at d0
        clear hk m A u B t o r X b5 N hq
        go_wp2_with fail
        go_ret2
        exact HF.out
end
section
open Go.RowKit Rg
attribute [local go_sem] Oper.semAt_some
def SB(w:World)(g:Nat)(cs:Value)(lev n:Int)(v:Value):Prop:=w.heap[g]? =some (jC #[cs,jI jJ lev,jI jJ n,v] 174 (0,0))
section
variable {w w' : World} {g : Nat} {cs v : Value} {lev n : Int}
theorem SB.lt(h:SB w g cs lev n v):g<w.heap.size:=(Array.getElem?_eq_some_iff.1 h).1
theorem SB.next(h:SB w g cs lev n v)(a:Below w.heap.size w w'):SB w' g cs lev n v:=(a.block g h.lt).trans h
theorem SB.kept{row:Option Nat}(h:SB w g cs lev n v)(a:w.grownBy w' row)(b:some g≠row):SB w' g cs lev n v:=(a.block g h.lt b).trans h
theorem SB.keep(h:SB w g cs lev n v):w.cell? ⟨g,0,none⟩=some cs/\w.cell? ⟨g,1,none⟩=some (jI jJ lev)/\w.cell? ⟨g,2,none⟩=some (jI jJ n)/\w.cell? ⟨g,3,none⟩=some v/\w.frozen? ⟨g,2,none⟩=false/\w.frozen? ⟨g,3,none⟩=false:=by
 unfold SB at h;refine⟨?_,?_,?_,?_,?_,?_⟩<;>simp[World.cell?,World.frozen?,h]
theorem SB.set2(h:SB w g cs lev n v)(m:Int):SB (w.setCell ⟨g,2,none⟩ (jI jJ m)) g cs lev m v:=by
 unfold SB at*;simp[qK,h,Array.getElem?_modify]
theorem SB.set3(h:SB w g cs lev n v)(u:Value):SB (w.setCell ⟨g,3,none⟩ u) g cs lev n u:=by
 unfold SB at*;simp[qK,h,Array.getElem?_modify]
end
structure SgRel (w:World) (sb:Nat) (o:Option Nat) (cs:Value) (lev:Int) (w':World) (n:Nat) (v:Value) (L:List Blk):Prop where
 box:SB w' sb cs lev (n:Int) v
 own:RC w' (sb+1) v L
 gr:Gr2 w w' sb o
 ob:v.ownBlock=o\/∀k,v.ownBlock=some k->w.heap.size<=k
theorem SgRel.trans{w w1 f:World}{a l c:Nat}{o:Option Nat}{cs d e:Value}{lev:Int}{g b:List Blk}(h:SgRel w a o cs lev w1 l d g)(k:SgRel w1 a d.ownBlock cs lev f c e b):SgRel w a o cs lev f c e b:=
 ⟨k.box,k.own,h.gr.trans k.gr h.ob,by
  rcases k.ob with h1|h1
  ·rw[h1];exact h.ob
  ·exact .inr fun j i=>zJ h.gr.size (h1 j i)⟩
theorem SgRel.from_{w w1 w':World}{b n:Nat}{o:Option Nat}{cs v:Value}{lev:Int}{L:List Blk}(h:SgRel w1 b o cs lev w' n v L)(a:Below w.heap.size w w1):SgRel w b o cs lev w' n v L:=
 ⟨h.box,h.own,(Gr2.of a).trans h.gr (.inl rfl),by
  rcases h.ob with h1|h1
  ·exact .inl h1
  ·exact .inr fun j c=>zJ a.size (h1 j c)⟩
structure AgrH (w00:World) (cs:Value) (agrees sure:Blk->Bool):Prop where
 agr:∀b:Blk,b.l<=5->b.n<2*4^b.l->∀x y z:Int,fW b=[jI jJ x,jI jJ y,jI jJ z]->∀(w:World) (bp:Nat),Below w00.heap.size w00 w->B3 w 63 bp x y z->
  Calls zB 61 #[cs,.func (.func 205) #[] #[.pointer (some ⟨bp,0,none⟩)]] w (GP (.bool (!agrees b)) w)
 sure:∀b:Blk,b.l<=5->b.n<2*4^b.l->∀w:World,Below w00.heap.size w00 w->Calls zB 207 #[cs,dD b] w (GP (.bool (sure b)) w)
def wI(w:World)(sb:Nat)(o:Option Nat)(cs:Value)(lev:Int)(c:Option (Nat×List Blk))(e:Ending)(w':World):Prop:=
 (∃n' L' v',c=some (n',L')/\e=.returned (.bool true)/\SgRel w sb o cs lev w' n' v' L')\/(c=none/\e=.returned (.bool false)/\Gr2 w w' sb o)
def LkH(w00:World)(cs:Value)(agrees sure:Blk->Bool)(level k:Nat):Prop:=
 ∀(b:Blk) (n:Nat) (L:List Blk),b.l+k=16->b.l<=5->b.n<2*4^b.l->n<=100000->L.length<=n->∀(w:World) (v:Value) (sb:Nat),w00.heap.size<=sb->Below w00.heap.size w00 w->SB w sb cs (level:Int) (n:Int) v->RC w (sb+1) v L->
  Calls zB 141 #[.pointer (some ⟨sb,0,none⟩),dD b] w (wI w sb v.ownBlock cs (level:Int) (dI agrees sure level k b (n,L)))
def tD(agrees sure:Blk->Bool)(level k:Nat):List Blk->Nat×List Blk->Option (Nat×List Blk)
 | [],s=>some s
 |b::l,s=>(dI agrees sure level k b s).bind (tD agrees sure level k l)
theorem YL{agrees sure:Blk->Bool}{level k:Nat}{b:Blk}{n:Nat}{L:List Blk}(c:¬100000<n+1)(a:agrees b=true)(d:¬(level<=b.l\/sure b=true)):dI agrees sure level (k+1) b (n,L)=tD agrees sure level k [b.kid 0,b.kid 1,b.kid 2,b.kid 3] (n+1,L):=by
 unfold dI;rw[if_neg c,if_pos a,if_neg d];simp only[tD];congr 1;funext s0;congr 1;funext s1;congr 1;funext s2;generalize dI agrees sure level k (b.kid 3) s2=x;cases x<;>rfl
theorem kP{agrees sure:Blk->Bool}{level:Nat}:∀(k:Nat) (b:Blk) (n:Nat) (L:List Blk) (a:Nat) (c:List Blk),L.length<=n->dI agrees sure level k b (n,L)=some (a,c)->a<=100000/\c.length<=a
 |k,b,n,L,a,c,q,h=>by
  unfold dI at h;split at h
  ·cases h
  split at h
  ·split at h
   ·cases h;exact⟨by omega,by simp;omega⟩
   ·split at h
    ·cases h
    ·rename_i k;obtain⟨⟨r,m⟩,g,h⟩:=bE h;obtain⟨⟨s,o⟩,i,h⟩:=bE h;obtain⟨⟨t,p⟩,j,l⟩:=bE h;obtain⟨_,d⟩:=kP k _ _ _ _ _ (by omega) g;obtain⟨_,e⟩:=kP k _ _ _ _ _ d i;obtain⟨_,f⟩:=kP k _ _ _ _ _ e j;exact kP k _ _ _ _ _ f l
  ·cases h;exact⟨by omega,by omega⟩
def DK(w:World)(sb:Nat)(o:Option Nat)(cs:Value)(lev:Int)(c:Option (Nat×List Blk))(e:Ending)(w':World):Prop:=
 (∃n' L' v',c=some (n',L')/\e=.returned (.bool false)/\SgRel w sb o cs lev w' n' v' L')\/(c=none/\e=.returned (.bool true)/\Gr2 w w' sb o)
theorem Qb{g:World}{cs:Value}{agrees sure:Blk->Bool}{level k:Nat}(t:LkH g cs agrees sure level k){b:Blk}{n:Nat}{L:List Blk}(o:b.l+k=16)(Q:b.l<=5)(p:b.n<2*4^b.l)(R:n<=100000)(G:L.length<=n){w:World}{v:Value}{h K:Nat}(O:g.heap.size<=h)(d:Below g.heap.size g w)(H:SB w h cs (level:Int) (n:Int) v)(I:RC w (h+1) v L)
  (D:w.cell? ⟨K,0,none⟩=some (.pointer (some ⟨h,0,none⟩))){x y z:Int}(J:fW b=[jI jJ x,jI jJ y,jI jJ z]):
  Calls zB 208 #[.agg #[jI jJ x,jI jJ y,jI jJ z],.pointer (some ⟨K,0,none⟩)] w (DK w h v.ownBlock cs (level:Int) (dI agrees sure level k b (n,L))):=by
 have c:=Below.new (w:=w) (jC #[jI jJ x,jI jJ y,jI jJ z] 63);have a:=t b n L o Q p R G _ v h O (d.trans (c.mono d.size)) (H.next c) (I.next c);have r:dD b=.agg #[jI jJ x,jI jJ y,jI jJ z]:=by unfold dD;rw[J]
 rw[r]at a;have f:=B3.new w 63 x y z;have E:=(c.cell (World.block_lt_of_cell? w _ D)).trans D;have i:=zA c;obtain⟨W,B⟩:∃W,W=w.alloc (jC #[jI jJ x,jI jJ y,jI jJ z] 63):=⟨_,rfl⟩;rw[<-B]at a f E i;have j:=zA a;have m:=zA f;clear t o p G H I D J r a f c d;go_enter Tryz.func208,Tryz.ntmps208;go_upto_region 1 with fail
 rw[<-B];clear B;obtain⟨e0,e1,e2⟩:=m.out.keep;go_wp2_with fail
 refine j.out.mono ?_;rintro e M (⟨U,N,V,q,rfl,u⟩|⟨q,rfl,s⟩)
 ·have A:=zA (show DK w h v.ownBlock cs (level:Int) (dI agrees sure level k b (n,L)) (.returned (.bool false)) M from .inl ⟨U,N,V,q,rfl,u.from_ i.out⟩);clear q u;go_wp2_with fail
  go_ret;exact A.out
 ·have A:=zA (show DK w h v.ownBlock cs (level:Int) (dI agrees sure level k b (n,L)) (.returned (.bool true)) M from .inr ⟨q,rfl,(Gr2.of i.out).trans s (.inl rfl)⟩);clear q s;go_wp2_with fail
  go_ret;exact A.out
theorem aAx{w q z r:World}{c d a n:Nat}{v cs:Value}{L:List Blk}{b:Blk}{lev:Int}{o:Option Nat}(x:Gr2 w q c o)(y:o=v.ownBlock)(u:SB q c cs lev (n:Int) v)(f:Below q.heap.size q z)(l:z.grownBy r v.ownBlock)
  (B:RC r (c+1) (.slice (some ⟨d,0,none⟩) (L.length+1) a) (L++[b]))(i:v.ownBlock=some d\/q.heap.size<=d)(p:∀j,v.ownBlock=some j->c<j):
  SgRel w c o cs lev (r.setCell ⟨c,3,none⟩ (.slice (some ⟨d,0,none⟩) (L.length+1) a)) n (.slice (some ⟨d,0,none⟩) (L.length+1) a) (L++[b]):=by
 have A:=u.lt;have s:d≠c:=by
  rcases i with h|h
  ·have:=p d h;omega
  ·omega
 have g:=gM r ⟨c,3,none⟩ (.slice (some ⟨d,0,none⟩) (L.length+1) a);have t:some c≠v.ownBlock:=fun e=>by have:=p c e.symm;omega
 refine⟨((u.next f).kept l t).set3 _,B.kept g (.inr (by simp[Value.ownBlock];exact s)),?_,?_⟩
 ·exact((x.trans (Gr2.of (b:=c) (o:=o) f) (.inl rfl)).grown l (fun k m=>.inr (.inl (by rw[y];exact m)))).grown g (fun k m=>.inl (zL.inj m).symm)
 ·rcases i with h|h
  ·exact .inl (by rw[y,h];rfl)
  ·exact .inr fun k m=>by have:d=k:=zL.inj m;have:=x.size;omega
theorem aAw{i o h:World}{b c:Nat}{v cs:Value}{lev n:Int}(r:SB i b cs lev n v)(a:Below i.heap.size i o)(d:o.grownBy h v.ownBlock)(g:∀j,v.ownBlock=some j->j<c/\b<j)(m:i.heap[c]? =some (jC #[.pointer (some ⟨b,0,none⟩)] 172 (0,0))):
  h.cell? ⟨c,0,none⟩=some (.pointer (some ⟨b,0,none⟩))/\h.cell? ⟨b,3,none⟩=some v/\h.frozen? ⟨b,3,none⟩=false:=by
 have l:some b≠v.ownBlock:=fun e=>by have:=g b e.symm;omega
 have f:=(a.block c (Array.getElem?_eq_some_iff.1 m).1).trans m;have k:=(d.block c (Array.getElem?_eq_some_iff.1 f).1 (fun e=>by have:=g c e.symm;omega)).trans f;obtain⟨_,_,_,p,_,q⟩:=((r.next a).kept d l).keep;exact⟨by simp[World.cell?,k],p,q⟩
def RH(w:World)(sb:Nat)(o:Option Nat)(cs:Value)(lev:Int)(c:Option (Nat×List Blk))(e:Ending)(w':World):Prop:=
 (∃n' L' v',c=some (n',L')/\e=.returned (jI jJ (-1))/\SgRel w sb o cs lev w' n' v' L')\/(c=none/\(∃i:Nat,i<=100/\e=.returned (jI jJ (i:Int)))/\Gr2 w w' sb o)
structure LxRel (w00 w:World) (sb n0:Nat) (o:Option Nat) (cs:Value) (level:Nat) (c:Option (Nat×List Blk)) (agrees sure:Blk->Bool) (k:Nat) (l:List Blk) (kv:Value) (wr:World) (i:Nat) (n:Nat) (L:List Blk) (v:Value):Prop where
 mg:SgRel w sb o cs (level:Int) wr n v L
 cnt:n<=100000
 few:L.length<=n
 ptr:wr.heap[n0]? =some (jC #[.pointer (some ⟨sb,0,none⟩)] 172 (0,0))
 arg:RC wr 0 kv l
 all:tD agrees sure level k (l.drop i) (n,L)=c
 bel:Below w00.heap.size w00 wr
theorem aAv{m:World}{cs:Value}{agrees sure:Blk->Bool}{level k:Nat}(a7:LkH m cs agrees sure level k){l:List Blk}(hl:∀b∈l,b.l+k=16/\b.l<=5/\b.n<2*4^b.l)(c5:l.length<=100){n:Nat}{L:List Blk}(hn:n<=100000)(hf:L.length<=n){r s:Nat}{w:World}{v kv:Value}(Z:m.heap.size<=s)(c:Below m.heap.size m w)(a:w.heap[r]? =some (jC #[.pointer (some ⟨s,0,none⟩)] 172 (0,0)))(c6:s<r)(hb:SB w s cs (level:Int) (n:Int) v)(hr:RC w (s+1) v L)(b0:∀j,v.ownBlock=some j->j<r)
  (K:RC w 0 kv l)(a6:∀j,kv.ownBlock=some j->r+1<=j/\j<w.heap.size):
  Calls zB 34 #[kv,.func (.func 208) #[] #[.pointer (some ⟨r,0,none⟩)]] w (RH w s v.ownBlock cs (level:Int) (tD agrees sure level k l (n,L))):=by
 obtain⟨o,ho⟩:∃o,o=v.ownBlock:=⟨_,rfl⟩;obtain⟨I,J⟩:∃I,I=tD agrees sure level k l (n,L):=⟨_,rfl⟩;rw[<-ho,<-J];obtain⟨A,cp,rfl⟩:=K.slice;have HX:=zA (show LxRel m w s r o cs level I agrees sure k l (.slice A l.length cp) w 0 n L v from⟨⟨hb,hr,Gr2.of (zD _ _),.inl ho.symm⟩,hn,hf,a,K,J.symm,c⟩);have b4:=zA hl;have b6:=zA a7;have V:=zA (show ∀j,o=some j->j<r from fun j u=>b0 j (by rw[<-ho];exact u));have b9:=zA (show ∀j,o=some j->s<j from fun j u=>by have:=(hr.lt j (by rw[<-ho];exact u)).1;omega);have U:=zA a6;have b3:=zA (show r+1<=w.heap.size from(Array.getElem?_eq_some_iff.1 a).1);have G:=zA Z;clear hn hf hb hr b0 K a6 hl a7 ho J a c Z;go_enter Tryz.func34,Tryz.ntmps34;go_wp2_with fail
 go_loopw [8] (fun v8 wr=>∃i n L v,i<=l.length/\v8=jI jJ ((i:Nat):Int)/\LxRel m w s r o cs level I agrees sure k l (.slice A l.length cp) wr i n L v) (fun v8 _=>l.length-(intOf v8).toNat)
 case atStart=>exact⟨0,n,L,v,by omega,rfl,HX.out⟩
 case round=>
  clear HX;obtain⟨i,n2,L2,v2,hi,rfl,d,t,q,a,p,f,c⟩:=hrel;by_cases M:i<l.length
  ·obtain⟨b,hx⟩:∃b,l[i]? =some b:=⟨_,List.getElem?_eq_getElem M⟩;obtain⟨g,c3,he,_,hg,x,y,z,E,Y,c1,c2⟩:=p.cex hx;cases he;obtain⟨a1,a0,a2⟩:=b4.out b (List.mem_of_getElem? hx);have a4:l.drop i=b::l.drop (i+1):=by
    rw[zZ M];congr 1;exact(List.getElem?_eq_some_iff.1 hx).2
   rw[a4]at f;have a9:wr.cell? ⟨r,0,none⟩=some (.pointer (some ⟨s,0,none⟩)):=by simp[World.cell?,a]
   have a3:=Qb b6.out a1 a0 a2 t q G.out c d.box d.own a9 E;have b2:=zA a3;have H:=zA d;have D:=zA a;have R:=zA p;have B:=zA f;have b1:=zA c;have b5:=zA (fun Q N (h:dI agrees sure level k b (n2,L2)=some (Q,N))=>kP k b n2 L2 Q N q h);have X:=zA (show ∀j,v2.ownBlock=some j->(j<r\/r+1<=j)/\s<j from fun j u=>by
    have:=(d.own.lt j u).1;refine⟨?_,by omega⟩;rcases d.ob with h1|h1
    ·exact .inl (V.out j (by rw[<-h1];exact u))
    ·exact .inr (zJ b3.out (h1 j u)))
   have b8:=zA (show ∀j,(Value.slice (some ⟨g,0,none⟩) l.length cp).ownBlock=some j->v2.ownBlock≠some j from fun j u e=>by
    have h2:=U.out j u;rcases d.ob with h1|h1
    ·have:=V.out j (by rw[<-h1];exact e);omega
    ·have:=h1 j e;omega)
   clear d t q a p f a3 hx E a4 a1 a2 a9 c a0;go_wp2_with fail
   refine b2.out.mono ?_;rintro e w1 (⟨Q,N,v',O,rfl,hm⟩|⟨O,rfl,a5⟩)
   ·obtain⟨o1,f1⟩:=b5.out Q N O;have b7:=zA (show LxRel m w s r o cs level I agrees sure k l (.slice (some ⟨g,0,none⟩) l.length cp) w1 (i+1) Q N v' from⟨H.out.trans hm,o1,f1,(hm.gr.block r (Array.getElem?_eq_some_iff.1 D.out).1 (by omega) (fun e=>by have:=(X.out _ e).1;omega)).trans D.out,R.out.gr2 hm.gr (fun e=>by have:=U.out _ e;omega) b8.out,by have:=B.out;simp only[tD]at this;rw[O]at this;exact this,hm.gr.below b1.out G.out (fun j u=>by have:=(X.out j u).2;have:=G.out;omega)⟩);clear O hm o1 f1 Y c1 c2;go_wp2_with fail
    refine⟨⟨i+1,Q,N,v',M,by go_num,b7.out⟩,?_⟩;simp only[intOf];omega
   ·have HF:=zA (show RH w s o cs (level:Int) I (.returned (jI jJ (i:Int))) w1 from .inr ⟨by have:=B.out;simp only[tD]at this;rw[O]at this;exact this.symm,⟨i,by omega,rfl⟩,H.out.gr.trans a5 H.out.ob⟩);clear O a5 Y c1 c2;go_wp2_with fail
    go_ret;exact HF.out
  ·have c4:i=l.length:=by omega
   have HF:=zA (show RH w s o cs (level:Int) I (.returned (jI jJ (-1))) wr from .inl ⟨n2,L2,v2,by rw[<-f,yP (by omega)];rfl,rfl,d⟩);clear d t q a p f c;go_wp2_with fail
   go_ret;exact HF.out
theorem aAq{w:World}{f k:Nat}{o:Option Nat}{cs:Value}{lev:Int}{c:Option (Nat×List Blk)}{A:Option Addr}{n h:Nat}
  (d:Calls zB 34 #[.slice A n h,.func (.func 208) #[] #[.pointer (some ⟨k,0,none⟩)]] w (RH w f o cs lev c)):
  Calls zB 14 #[.slice A n h,.func (.func 208) #[] #[.pointer (some ⟨k,0,none⟩)]] w (DK w f o cs lev c):=by
 have m:=zA d;clear d;go_enter Tryz.func14,Tryz.ntmps14;go_wp2_with fail
 refine m.out.mono ?_;rintro e l (⟨r,p,s,a,rfl,j⟩|⟨a,⟨i,hi,rfl⟩,b⟩)
 ·have g:=zA (show DK w f o cs lev c (.returned (.bool false)) l from .inl ⟨r,p,s,a,rfl,j⟩);clear a j;go_wp2_with fail
  go_ret;exact g.out
 ·have g:=zA (show DK w f o cs lev c (.returned (.bool true)) l from .inr ⟨a,rfl,b⟩);have q:(0:Int)<=(i:Int):=by omega
  clear a b;go_wp2_with fail
  go_ret;exact g.out
end
section
open Go.RowKit Rg
attribute [local go_sem] Oper.semAt_some
theorem aBx(w:World)(d:Nat)(X Y Z:Int)(W:World)(c:W=(w.alloc (jC #[.pointer (some ⟨d,0,none⟩)] 172)).alloc (jC #[jI jJ X,jI jJ Y,jI jJ Z] 63)):
  Below w.heap.size w W/\W.heap[w.heap.size]? =some (jC #[.pointer (some ⟨d,0,none⟩)] 172 (0,0))/\B3 W 63 (w.heap.size+1) X Y Z/\W.heap.size=w.heap.size+2:=by
 have e:=heap_alloc_new w (jC #[.pointer (some ⟨d,0,none⟩)] 172);obtain⟨b,a⟩:∃b,b=w.alloc (jC #[.pointer (some ⟨d,0,none⟩)] 172):=⟨_,rfl⟩;have s1:b.heap.size=w.heap.size+1:=by rw[a];simp
 have g:Below w.heap.size w b:=by rw[a];exact Below.new _
 rw[<-a]at e c;have c1:Below b.heap.size b W:=by rw[c];exact Below.new _
 have f:=B3.new b 63 X Y Z;rw[<-c,s1]at f;exact⟨g.trans (c1.mono (by omega)),(c1.block _ (by omega)).trans e,f,by rw[c];simp[s1]⟩
theorem YN(hc:CelH){D:World}{cs:Value}{agrees sure:Blk->Bool}(e8:AgrH D cs agrees sure){level k:Nat}(l1:∀k',k=k'+1->LkH D cs agrees sure level k')(h5:level<=5)(b:Blk)(n:Nat)(L:List Blk)(n6:b.l+k=16)(e9:b.l<=5)(r:b.n<2*4^b.l)(hn:n<=100000)(hf:L.length<=n)(w:World)(v:Value)(a:Nat)(e4:D.heap.size<=a)(g:Below D.heap.size D w)(hb:SB w a cs (level:Int) (n:Int) v)(hr:RC w (a+1) v L):
  Calls zB 141 #[.pointer (some ⟨a,0,none⟩),dD b] w (wI w a v.ownBlock cs (level:Int) (dI agrees sure level k b (n,L))):=by
 obtain⟨X,Y,Z,G,hX,hY,hZ,x0,x1,y0,y1,z0,z1⟩:=uG e9 r;have c0:=e8.agr b e9 r X Y Z G;have g8:=e8.sure b e9 r;have a1:dD b=.agg #[jI jJ X,jI jJ Y,jI jJ Z]:=by unfold dD;rw[G]
 rw[a1]at g8 ⊢;obtain⟨o,ho⟩:∃o,o=v.ownBlock:=⟨_,rfl⟩;rw[<-ho];have HO:=zA ho;clear ho;obtain⟨B,e5⟩:∃B:Int,B=(level:Int):=⟨_,rfl⟩;obtain⟨N,hN⟩:∃N:Int,N=(n:Int):=⟨_,rfl⟩;rw[<-e5]at hb ⊢;rw[<-hN]at hb;have k4:B<=X↔level<=b.l:=by omega
 have n5:0<=N:=by omega
 have e6:N<=100000:=by omega
 obtain⟨W,hW⟩:∃W,W=(w.alloc (jC #[.pointer (some ⟨a,0,none⟩)] 172)).alloc (jC #[jI jJ X,jI jJ Y,jI jJ Z] 63):=⟨_,rfl⟩;obtain⟨hB,a4,c2,i0⟩:=aBx w a X Y Z W hW;have f6:=hb.next hB;have c6:=hb.lt;have z:=gM W ⟨a,2,none⟩ (jI jJ (N+1));have I:=zA (show ∀j,v.ownBlock=some j->j<w.heap.size/\a<j from fun j M=>by have:=hr.lt j M;exact⟨this.2,by omega⟩);have b4:=zA (f6.set2 (N+1));have d7:=zA ((hr.next hB).kept z (by
  rcases hq:v.ownBlock with _|j
  ·exact .inl rfl
  ·refine .inr fun e=>?_;have:=I.out j hq;have:j=a:=zL.inj e;omega))
 have a7:=zA ((Gr2.of (b:=a) (o:=o) hB).grown z (fun j M=>.inl (zL.inj M).symm));have H:=zA ((z.block w.heap.size (by omega) (by simp;omega)).trans a4);have U:=zA (c2.kept z (by simp;omega));have Q:=zA (show Below D.heap.size D (W.setCell ⟨a,2,none⟩ (jI jJ (N+1)))from(g.trans (hB.mono g.size)).setCell e4 _);obtain⟨d0,d1,d2,d3,d4,d5⟩:=f6.keep;have b7:W.cell? ⟨w.heap.size,0,none⟩=some (.pointer (some ⟨a,0,none⟩)):=by simp[World.cell?,a4]
 have i2:=zA c0;have j4:=zA g8;have k0:=zA k4;have k1:=zA G;have m1:=zA l1;have j3:=zA e5;have HN:=zA hN;have l8:=zA e4;have b9:=zA c6;obtain⟨f,g5⟩:∃f,f=w.heap.size:=⟨_,rfl⟩;clear hX hY hZ G c0 g8 a1 e5 hN k4 hB a4 c2 f6 z e8 l1 g hb hr e4 c6;go_enter Tryz.func141,Tryz.ntmps141;go_upto_region 1 with fail
 rw[<-hW];rw[<-g5]at b7 H U I b9 i0 ⊢;clear hW;have n4:=zA g5;clear g5;go_upto_region 2 with fail
 obtain⟨W1,e7⟩:∃W1,W1=W.setCell ⟨a,2,none⟩ (jI jJ (N+1)):=⟨_,rfl⟩;have k3:W1.heap.size=f+2:=by rw[e7];simp[i0]
 rw[<-e7]at b4 d7 a7 H U Q ⊢;clear e7 d0 d1 d2 d3 d4 d5 b7 i0;obtain⟨d0,d1,d2,d3,d4,d5⟩:=b4.out.keep;have a3:=H.out;have b7:W1.cell? ⟨f,0,none⟩=some (.pointer (some ⟨a,0,none⟩)):=by simp[World.cell?,a3]
 clear a3;by_cases c3:N=100000
 ·have HF:=zA (show wI w a o cs B (dI agrees sure level k b (n,L)) (.returned (.bool false)) W1 from .inr ⟨by unfold dI;exact if_pos (by have:=HN.out;omega),rfl,a7.out⟩);subst c3;go_wp2_with fail
  go_ret;exact HF.out
 ·have f8:¬N+1>100000:=by omega
  have l2:¬100000<n+1:=by have:=HN.out;omega
  have a6:=zA l2;have i1:=zA (i2.out W1 (f+1) Q.out U.out);clear c3 l2;go_wp2_with fail
  refine i1.out.mono ?_;rintro e s ⟨rfl,u⟩;have R:=zA (Q.out.trans (u.mono Q.out.size));have c8:=zA (a7.out.trans (Gr2.of (b:=a) (o:=o) u) (.inl rfl));have b3:=zA (b4.out.next u);have d6:=zA (d7.out.next u);have d8:=zA ((u.block f (Array.getElem?_eq_some_iff.1 H.out).1).trans H.out);have c7:=zA (U.out.next u);have l5:f+2<=s.heap.size:=by have:=u.size;omega
  clear u i1 i2 Q a7 b4 d7 H U d0 d1 d2 d3 d4 d5 b7 f8 k3;cases ha:agrees b with
  |false=>
   have HF:=zA (show wI w a o cs B (dI agrees sure level k b (n,L)) (.returned (.bool true)) s from .inl ⟨n+1,L,v,by unfold dI;rw[if_neg a6.out,if_neg (by rw[ha];simp)],rfl,by have:=b3.out;rw[HN.out]at this;exact this,d6.out,c8.out,.inl HO.out.symm⟩);clear ha;go_wp2_with fail
   go_ret;exact HF.out
  |true=>
   have HA:=zA ha;clear ha;go_upto_region 6 with fail
   have V:=zA (show ∀m,Below s.heap.size s m->(m.cell? ⟨f,0,none⟩=some (.pointer (some ⟨a,0,none⟩))/\m.cell? ⟨f+1,0,none⟩=some (jI jJ X)/\m.cell? ⟨f+1,1,none⟩=some (jI jJ Y)/\m.cell? ⟨f+1,2,none⟩=some (jI jJ Z)/\m.cell? ⟨a,0,none⟩=some cs/\m.cell? ⟨a,1,none⟩=some (jI jJ B))/\Below s.heap.size s m from fun m h=>by
    obtain⟨f0,f1,f2⟩:=(c7.out.next h).keep;obtain⟨g0,g1,_⟩:=(b3.out.next h).keep;have hq:=(h.block f (by omega)).trans d8.out;exact⟨⟨by simp[World.cell?,hq],f0,f1,f2,g0,g1⟩,h⟩)
   have HX:=zA (V.out s (zD _ _));have k2:=zA (V.out s.drew (zD _ _).drew);go_cut [39]from 7 to 58 (fun n2 wx=>n2=.bool (decide (level<=b.l)||sure b)/\Below s.heap.size s wx)
   case first=>
    by_cases hq:B<=X
    ·have m8:decide (B<=X)=true:=decide_eq_true hq;have HD:=zA (show(decide (level<=b.l)||sure b)=true by rw[decide_eq_true (k0.out.1 hq)];rfl);obtain⟨⟨f0,f1,f2,f3,f4,f5⟩,_⟩:=HX.out;go_quiet (fail)
     go_wp2_with fail
     go_meet
     exact⟨by rw[HD.out],(zD _ _).trans (Below.drewN s _)⟩
    ·have m8:decide (B<=X)=false:=decide_eq_false hq;have HD:=zA (show(decide (level<=b.l)||sure b)=sure b by rw[decide_eq_false (fun h=>hq (k0.out.2 h))];rfl);have e3:=zA (show ∀m,Below s.heap.size s m->Calls zB 207 #[cs,.agg #[jI jJ X,jI jJ Y,jI jJ Z]] m (GP (.bool (sure b)) m)from fun m h=>j4.out m (R.out.trans (h.mono R.out.size)));go_region_held3 (fun m=>(m.cell? ⟨f,0,none⟩=some (.pointer (some ⟨a,0,none⟩))/\m.cell? ⟨f+1,0,none⟩=some (jI jJ X)/\m.cell? ⟨f+1,1,none⟩=some (jI jJ Y)/\m.cell? ⟨f+1,2,none⟩=some (jI jJ Z)/\m.cell? ⟨a,0,none⟩=some cs/\m.cell? ⟨a,1,none⟩=some (jI jJ B))/\Below s.heap.size s m)
      (first
       |(with_reducible exact HX.out)
       |(with_reducible exact k2.out)
       |(with_reducible exact SS.out)
       |(with_reducible exact m4.out)
       |fail)
      (first
       |(go_at_call 207;(with_reducible refine(e3.out _ (And.right (by assumption))).mono ?_);rintro e w4 ⟨rfl,b5⟩;have f9:=Below.trans (And.right (show(_/\Below s.heap.size s _) by assumption)) (b5.mono (Below.size (And.right (show(_/\Below s.heap.size s _) by assumption))));have SS:=zA (V.out w4 f9);have m4:=zA (V.out w4.drew f9.drew);clear b5 f9)
       |fail)
     go_wp2_with fail
     go_meet
     exact⟨by rw[HD.out],SS.out.2⟩
   case rest=>
    obtain⟨rfl,y⟩:=hcut;obtain⟨O,n1⟩:∃x,x=wc:=⟨_,rfl⟩;subst n1;have i3:=zA (R.out.trans (y.mono R.out.size));have j2:=zA (c8.out.trans (Gr2.of (b:=a) (o:=o) y) (.inl rfl));have a5:=b3.out.next y;rw[HN.out]at a5;have c4:SB O a cs B ((n+1:Nat):Int) v:=a5;have t:=zA c4;have a9:=zA (d6.out.next y);have d9:=zA ((y.block f (by omega)).trans d8.out);have i7:=zA (c7.out.next y);have m9:f+2<=O.heap.size:=zJ l5 y.size;clear y a5 c4 R c8 b3 d6 d8 c7 V HX k2 j4 l5;cases hw:(decide (level<=b.l)||sure b)with
    |true=>
     have K:level<=b.l\/sure b=true:=by
      rcases Bool.or_eq_true_iff.1 hw with h|h
      ·exact .inl (of_decide_eq_true h)
      ·exact .inr h
     have m2:=zA (show dI agrees sure level k b (n,L)=some (n+1,L++[b]) by unfold dI;rw[if_neg a6.out,if_pos HA.out,if_pos K]);obtain⟨A,c,rfl⟩:=a9.out.slice;obtain⟨N1,e6⟩:∃N1,N1=L.length:=⟨_,rfl⟩;rw[<-e6]at t a9 I HO;have m3:=zA (show L.length<=1000000000 by omega);have m0:=zA (show a+1<=O.heap.size from t.out.lt);have j0:=zA (show AH.enc b=(#[jI jJ X,jI jJ Y,jI jJ Z]:Array Value).toList from k1.out);obtain⟨_,_,_,f0,_,f1⟩:=t.out.keep;obtain⟨b0,b1,b2⟩:=i7.out.keep;have a3:=d9.out;have p0:O.cell? ⟨f,0,none⟩=some (.pointer (some ⟨a,0,none⟩)):=by simp[World.cell?,a3]
     have r:=Below.new (w:=O) (jC #[jI jJ X,jI jJ Y,jI jJ Z] 63);have f7:=(zD O.heap.size O).drew.alloc (zC _) (jC #[jI jJ X,jI jJ Y,jI jJ Z] 63);have k5:=(r.cell (p:=⟨f,0,none⟩) (by show f<_;omega)).trans p0;have k6:=(f7.cell (p:=⟨f,0,none⟩) (by show f<_;omega)).trans p0;have k8:=(t.out.next r).keep.2.2.2.1;have k9:=(t.out.next f7).keep.2.2.2.1;have g6:=aiQ O _ p0;have g7:=aiQ O _ f0;have l3:¬f=O.heap.size:=fun e=>g6 e.symm;have l4:¬a=O.heap.size:=fun e=>g7 e.symm;clear a3 e6 hw K r f7;go_upto_region 7 with fail
     go_cut []from 40 to 58 (fun wx=>∃v2,SgRel w a o cs B wx (n+1) v2 (L++[b]))
     case first=>
      go_region_law (first
       |(refine rJ (E:=AH) O (by (repeat' first|(with_reducible exact zD _ _)|(with_reducible refine xO ?_)|(with_reducible refine Below.alloc ?_ ?_ _)|exact zC _)) (by rfl) _ _ _ (by rfl) 63 (.agg #[jI jJ 0,jI jJ 0,jI jJ 0]) 24 Tryz.underlying60 gW (by rfl) (by decide) (by omega) (a+1) (.slice A N1 c) L (by rfl) a9.out _ b #[jI jJ X,jI jJ Y,jI jJ Z] 1 (by rfl) ⟨_,_,heap_alloc_new _ _⟩ j0.out m3.out m0.out ?_;intro g3 n3 w4 g ho J l0;obtain⟨m5,m6,m7⟩:=aAw t.out g J I.out d9.out;have j1:=zA (aAx j2.out HO.out t.out g J ho l0 (fun j M=>(I.out j M).2));clear g ho J l0)
       |fail)
      all_goals (
       clear m5 m6 m7 k5 k6 k8 k9 g6 g7 l3 l4 b0 b1 b2 p0 f0 f1;go_wp2_with fail
       go_meet
       exact⟨_,j1.out⟩)
     case rest=>
      obtain⟨v2,l6⟩:=hcut;have HF:=zA (show wI w a o cs B (dI agrees sure level k b (n,L)) (.returned (.bool true)) wc from .inl ⟨n+1,L++[b],v2,m2.out,rfl,l6⟩);clear l6 k5 k6 k8 k9 g6 g7 l3 l4 b0 b1 b2 p0 f0 f1;go_wp2_with fail
      go_ret;exact HF.out
    |false=>
     obtain⟨k',rfl⟩:∃k',k=k'+1:=⟨k-1,by omega⟩;have K:¬(level<=b.l\/sure b=true):=by
      intro h;rcases h with h|h
      ·rw[decide_eq_true h]at hw;simp at hw
      ·rw[h]at hw;simp at hw
     have b5:b.l<=4:=by
      have:¬level<=b.l:=fun h=>K (.inl h);omega
     have i5:=zA (YL (k:=k') (L:=L) a6.out HA.out K);have i4:=zA (fun w=>RV hc.cva b5 r w);have a1:dD b=.agg #[jI jJ X,jI jJ Y,jI jJ Z]:=by unfold dD;rw[k1.out]
     rw[a1]at i4;clear hw K a1;obtain⟨b0,b1,b2⟩:=i7.out.keep;go_wp2_with fail
     refine(i4.out _).mono ?_;rintro e w5 ⟨v5,rfl,b8,q⟩;have l9:=zA (i3.out.trans (q.mono i3.out.size));have c9:=zA (j2.out.trans (Gr2.of (b:=a) (o:=o) q) (.inl rfl));have g4:=b8.lt;have l7:=b9.out;have g9:=t.out.next q;rw[j3.out]at g9;have g2:=aAv (m1.out k' rfl) (l:=[b.kid 0,b.kid 1,b.kid 2,b.kid 3]) (fun d hd=>by
      have b6:∀i,i<4->(b.kid i).l+k'=16/\(b.kid i).l<=5/\(b.kid i).n<2*4^(b.kid i).l:=fun i hi=>⟨by show b.l+1+k'=16;omega,by show b.l+1<=5;omega,fV hi r⟩;simp only[zI,abQ,or_false]at hd;rcases hd with rfl|rfl|rfl|rfl
      ·exact b6 0 (by omega)
      ·exact b6 1 (by omega)
      ·exact b6 2 (by omega)
      ·exact b6 3 (by omega)) (by simp) (n:=n+1) (L:=L) (by have:=a6.out;omega) (by omega) l8.out l9.out ((q.block f (by omega)).trans d9.out) l7 g9 (a9.out.next q) (fun j M=>(I.out j M).1) (b8.mono (zO _)) (fun j M=>⟨by have:=(g4 j M).1;omega,(g4 j M).2⟩)
     rw[<-HO.out,<-j3.out]at g2;obtain⟨A5,c5,rfl⟩:=b8.slice;have i6:=zA (aAq g2);clear g2 g4 b8 q b0 b1 b2 g9 l7 m9;go_wp2_with fail
     refine i6.out.mono ?_;rintro e w6 (⟨n',L',v',a0,rfl,a2⟩|⟨a0,rfl,J⟩)
     ·have HF:=zA (show wI w a o cs B (dI agrees sure level (k'+1) b (n,L)) (.returned (.bool true)) w6 from .inl ⟨n',L',v',by rw[i5.out];exact a0,rfl,⟨a2.box,a2.own,c9.out.trans a2.gr (.inl rfl),by
       rcases a2.ob with h1|h1
       ·exact .inl h1
       ·exact .inr fun j M=>zJ c9.out.size (h1 j M)⟩⟩)
      clear a0 a2;go_wp2_with fail
      go_ret;exact HF.out
     ·have HF:=zA (show wI w a o cs B (dI agrees sure level (k'+1) b (n,L)) (.returned (.bool false)) w6 from .inr ⟨by rw[i5.out];exact a0,rfl,c9.out.trans J (.inl rfl)⟩);clear a0 J;go_wp2_with fail
      go_ret;exact HF.out
theorem YM(m:CelH){i:World}{cs:Value}{agrees sure:Blk->Bool}(d:AgrH i cs agrees sure){level:Nat}(j:level<=5):∀k,LkH i cs agrees sure level k
 | 0=>fun b n L g f h p o w v r c a l q=>YN m d (fun s e=>by cases e) j b n L g f h p o w v r c a l q
 |k+1=>fun b n L g f h p o w v r c a l q=>YN m d (fun s e=>by cases e;exact YM m d j k) j b n L g f h p o w v r c a l q
end
section
open Go.RowKit Rg
attribute [local go_sem] Oper.semAt_some
theorem pF{agrees sure:Blk->Bool}{level:Nat}(c:level<=5):∀(k:Nat) (b:Blk) (s g:Nat×List Blk),b.l<=5->b.n<2*4^b.l->DH s.2->dI agrees sure level k b s=some g->DH g.2
 |k,b,(n,L),g,r,a,f,h=>by
  unfold dI at h;split at h
  ·cases h
  split at h
  ·split at h
   ·cases h;intro d hd;rcases List.mem_append.1 hd with hd|hd
    ·exact f d hd
    ·rw[List.mem_singleton.1 hd];exact⟨r,a⟩
   ·rename_i t;split at h
    ·cases h
    ·rename_i k;obtain⟨u,j,h⟩:=bE h;obtain⟨s1,m,h⟩:=bE h;obtain⟨v,o,p⟩:=bE h;have e:∀i,(b.kid i).l<=5:=fun i=>by
      show b.l+1<=5;have:¬level<=b.l:=fun q=>t (.inl q);omega
     exact pF c k _ _ _ (e 3) (fV (by omega) a) (pF c k _ _ _ (e 2) (fV (by omega) a) (pF c k _ _ _ (e 1) (fV (by omega) a) (pF c k _ (n+1,L) _ (e 0) (fV (by omega) a) f j) m) o) p
  ·cases h;exact f
def pM(w:World)(c:Option (Nat×List Blk))(e:Ending)(w':World):Prop:=
 ((∃s v,c=some s/\(AJ s.2 []).length<=4000/\e=.returned (.tuple #[v,jI jJ 0])/\RC w' w.heap.size v (AJ s.2 []).reverse)\/(∃s,c=some s/\4000<(AJ s.2 []).length/\e=.returned (.tuple #[.slice none 0 0,jI jJ 4]))\/(c=none/\e=.returned (.tuple #[.slice none 0 0,jI jJ 6])))/\Below w.heap.size w w'
structure OfRel (w:World) (cs:Value) (level:Nat) (agrees sure:Blk->Bool) (l:List Blk) (kv:Value) (wr:World) (i n:Nat) (L:List Blk) (v:Value):Prop where
 box:SB wr w.heap.size cs (level:Int) (n:Int) v
 own:RC wr (w.heap.size+1) v L
 all:looks agrees sure level (l.drop i) (n,L)=looks agrees sure level l (0,[])
 cnt:n<=100000
 few:L.length<=n
 okc:DH L
 bel:Below w.heap.size w wr
 arg:RC wr 0 kv l
theorem aDy(hc:CelH){w:World}{A:Option Addr}{O J:Nat}{agrees sure:Blk->Bool}(a5:AgrH w (.slice A O J) agrees sure){level:Nat}(h5:level<=5){l:List Blk}{kv:Value}(hl:DH l)(c8:l.length<=4000)(hk:RC w 0 kv l):
  Calls zB 106 #[.slice A O J,kv,jI jJ (level:Int)] w (pM w (looks agrees sure level l (0,[]))):=by
 obtain⟨cs,c6⟩:∃cs,cs=Value.slice A O J:=⟨_,rfl⟩;obtain⟨K,kc,rfl⟩:=hk.slice;have X:=Below.new (w:=w) (jC #[.slice A O J,jI jJ (level:Int),jI jJ 0,.slice none 0 0] 174);have HX:=zA (show OfRel w (.slice A O J) level agrees sure l (.slice K l.length kc) (w.alloc (jC #[.slice A O J,jI jJ (level:Int),jI jJ 0,.slice none 0 0] 174)) 0 0 [] (.slice none 0 0)from
  ⟨heap_alloc_new w _,bT.nil,rfl,by omega,by simp,(fun d hd=>by cases hd),X,hk.next X⟩)
 have b7:=zA (YM hc a5 h5);have HL:=zA hl;have HC:=zA hc;obtain⟨N,hN⟩:∃N,N=l.length:=⟨_,rfl⟩;rw[<-hN]at HX ⊢;have a4:=zA (show ∀j,(Value.slice K N kc).ownBlock=some j->j<w.heap.size from fun j E=>by rw[hN]at E;exact(hk.lt j E).2);have HN:=zA hN;have d5:N<=4000:=by omega
 obtain⟨LV,V⟩:∃LV:Int,LV=(level:Int):=⟨_,rfl⟩;rw[<-V]at HX ⊢;have c9:=zA V;clear a5 hl c8 hk X hc hN V c6;go_enter Tryz.func106,Tryz.ntmps106;go_wp2_with fail
 go_loopw [17] (fun a2 wr=>∃i n L v,i<=N/\a2=jI jJ ((i:Nat):Int)/\OfRel w (.slice A O J) level agrees sure l (.slice K N kc) wr i n L v) (fun a2 _=>N-(intOf a2).toNat)
 case atStart=>exact⟨0,0,_,_,by omega,rfl,HX.out⟩
 case round=>
  clear HX;obtain⟨i,n,L,v,hi,rfl,r,m,f,D,s,t,a,q⟩:=hrel;by_cases Z:i<N
  ·obtain⟨b,hx⟩:∃b,l[i]? =some b:=⟨_,List.getElem?_eq_getElem (by rw[<-HN.out];exact Z)⟩;obtain⟨g,d0,he,_,hg,x,y,z,M,c0,c1,c2⟩:=q.cex hx;injection he with hA b3 c4;subst hA;clear b3 c4;obtain⟨k,Y⟩:=HL.out b (List.mem_of_getElem? hx);have a7:l.drop i=b::l.drop (i+1):=by
    rw[zZ (by rw[<-HN.out];exact Z)];congr 1;exact(List.getElem?_eq_some_iff.1 hx).2
   rw[a7]at f;have p:=Below.new (w:=wr) (jC #[jI jJ x,jI jJ y,jI jJ z] 63);have c:=b7.out (16-b.l) b n L (by omega) k Y D s _ v w.heap.size (zC _) (a.trans (p.mono a.size)) (r.next p) (m.next p);have a6:dD b=.agg #[jI jJ x,jI jJ y,jI jJ z]:=by unfold dD;rw[M]
   rw[a6]at c;have h8:=B3.new wr 63 x y z;have o:=q.next p;obtain⟨wv,a1⟩:∃wv,wv=wr.alloc (jC #[jI jJ x,jI jJ y,jI jJ z] 63):=⟨_,rfl⟩;rw[<-a1]at c h8 o p;have Q:=zA c;have H:=zA (a.trans (p.mono a.size));have a3:=zA o;have G:=zA f;have R:=zA (show ∀j,v.ownBlock=some j->w.heap.size<j from fun j E=>by have:=(m.lt j E).1;omega);have b6:=zA (fun n' U (h:dI agrees sure level (16-b.l) b (n,L)=some (n',U))=>And.intro (kP _ b n L n' U s h) (pF h5 _ b (n,L) (n',U) k Y t h));have c3:=h8.keep;go_upto_region 5 with fail
   rw[<-a1];clear a1 c p r m q o f a D s t hx M a7 k Y a6 c0 c1 c2 h8;obtain⟨e0,e1,e2⟩:=c3;go_wp2_with fail
   refine Q.out.mono ?_;rintro e w5 (⟨n',U,v',u,rfl,hm⟩|⟨u,rfl,a9⟩)
   ·obtain⟨⟨o1,f1⟩,b5⟩:=b6.out n' U u;have b8:=zA (show OfRel w (.slice A O J) level agrees sure l (.slice (some ⟨g,0,none⟩) N kc) w5 (i+1) n' U v' from⟨hm.box,hm.own,by have:=G.out;simp only[looks]at this ⊢;rw[u]at this;exact this,o1,f1,b5,hm.gr.below H.out (zC _) (fun j E=>qZ (R.out j E)),a3.out.gr2 hm.gr (fun e=>by have:=a4.out _ e;omega) (fun j E e=>by have:=a4.out j E;have:=R.out j e;omega)⟩);clear u hm o1 f1 b5 e0 e1 e2;go_wp2_with fail
    refine⟨⟨i+1,n',U,v',Z,by go_num,b8.out⟩,?_⟩;simp only[intOf];omega
   ·have HF:=zA (show pM w (looks agrees sure level l (0,[])) (.returned (.tuple #[.slice none 0 0,jI jJ 6])) w5 from⟨.inr (.inr ⟨by have:=G.out;simp only[looks]at this;rw[u]at this;exact this.symm,rfl⟩),a9.below H.out (zC _) (fun j E=>qZ (R.out j E))⟩);clear u a9 e0 e1 e2;go_wp2_with fail
    go_ret2
    exact HF.out
  ·have c7:i=N:=by omega
   subst c7;have b4:looks agrees sure level l (0,[])=some (n,L):=by
    rw[<-f,yP (by rw[<-HN.out];exact zC _)];rfl
   have b9:=zA (Hu HC.out t (by omega) wr (m.mono (zO _)));have I:=zA b4;have B:=zA a;obtain⟨_,_,_,d3,_,_⟩:=r.keep;clear r m f D s t a q b4;go_wp2_with fail
   refine b9.out.mono ?_;rintro e w5 ⟨⟨b2,v5,rfl,a0⟩|⟨b0,rfl⟩,k⟩
   ·have HF:=zA (show pM w (looks agrees sure level l (0,[])) (.returned (.tuple #[v5,jI jJ 0])) w5 from⟨.inl ⟨_,_,I.out,b2,rfl,a0.mono B.out.size⟩,B.out.trans (k.mono B.out.size)⟩);obtain⟨A5,c5,rfl⟩:=a0.slice;obtain⟨k5,b1⟩:∃k5,k5=(AJ (n,L).2 []).reverse.length:=⟨_,rfl⟩;rw[<-b1]at HF ⊢;clear b2 a0 k b1;go_wp2_with fail
    go_ret2
    exact HF.out
   ·have HF:=zA (show pM w (looks agrees sure level l (0,[])) (.returned (.tuple #[.slice none 0 0,jI jJ 4])) w5 from⟨.inr (.inl ⟨_,I.out,b0,rfl⟩),B.out.trans (k.mono B.out.size)⟩);clear b0 k;go_wp2_with fail
    go_ret2
    exact HF.out
end
section
open Go.RowKit Rg
attribute [local go_sem] Oper.semAt_some
structure CirH (w00:World) (A:Option Addr) (nc cc:Nat) (agrees sure:Blk->Bool):Prop where
 ok:∀w,Below w00.heap.size w00 w->Calls zB 61 #[.slice A nc cc,.func (.func 204) #[] #[]] w (GP (.bool false) w)
 few:nc<=40
 agr:AgrH w00 (.slice A nc cc) agrees sure
theorem AgrH.below{a w:World}{cs:Value}{agrees sure:Blk->Bool}(h:AgrH a cs agrees sure)(c:Below a.heap.size a w):AgrH w cs agrees sure:=
 ⟨fun b d e x y z j g i f=>h.agr b d e x y z j g i (c.trans (f.mono c.size)),fun b d e g f=>h.sure b d e g (c.trans (f.mono c.size))⟩
theorem Px{a w:World}{A:Option Addr}{d g:Nat}{agrees sure:Blk->Bool}(h:CirH a A d g agrees sure)(i:Below a.heap.size a w):Calls zB 140 #[.slice A d g] w (GP (jI jJ 0) w):=by
 have f:=zA (h.ok w i);have j:(d:Int)<=40:=by have:=h.few;omega
 clear h i;go_enter Tryz.func140,Tryz.ntmps140;go_wp2_with fail
 refine f.out.mono ?_;rintro e k ⟨rfl,b⟩;have c:=zA b;clear b f;go_wp2_with fail
 go_ret;exact⟨rfl,c.out⟩
theorem On(o:CelH){b w:World}{A:Option Addr}{q m:Nat}{agrees sure:Blk->Bool}(h:CirH b A q m agrees sure)(n:Below b.heap.size b w){L:List Blk}{v:Value}(p:Reg L)(j:RC w 0 v L)(g:∀k,v.ownBlock=some k->k<w.heap.size){lev:Int}(u:0<=lev)(x:lev<=5):
  Calls zB 105 #[.slice A q m,v,jI jJ lev] w (GP (jI jJ 0) w):=by
 have l:=zA (Px h n);have c:=zA (fun(w:World) (h:RC w 0 v L) g=>DB o p w h g);have s:=zA j;have r:=zA g;obtain⟨K,k,rfl⟩:=j.slice;clear o h n p j g;go_enter Tryz.func105,Tryz.ntmps105;go_wp2_with fail
 refine l.out.mono ?_;rintro e y ⟨rfl,d⟩;have a:=zA d;clear d l;go_wp2_with fail
 refine(c.out _ (s.out.next a.out) (fun k t=>zT (r.out k t) a.out.size)).mono ?_;rintro e z ⟨rfl,f⟩;have i:=zA (a.out.trans (f.mono a.out.size));clear f a c;go_wp2_with fail
 go_ret;exact⟨rfl,i.out⟩
theorem aAY(x:CelH){j w:World}{A:Option Addr}{I D:Nat}{agrees sure:Blk->Bool}(h:CirH j A I D agrees sure)(r:Below j.heap.size j w){L:List Blk}{v:Value}(t:Reg L)(u:RC w 0 v L)(G:∀k,v.ownBlock=some k->k<w.heap.size){level:Nat}(E:level<=5):
  Calls zB 70 #[.slice A I D,v,jI jJ (level:Int)] w (pM w (looks agrees sure level L (0,[]))):=by
 have g:=zA (On x h r t u G (lev:=(level:Int)) (by omega) (by omega));have m:=zA (fun(M:World) (a:Below w.heap.size w M)=>aDy x (h.agr.below (r.trans (a.mono r.size))) E t.okc t.few (u.next a));obtain⟨K,k,rfl⟩:=u.slice;obtain⟨B,n⟩:∃B:Int,B=(level:Int):=⟨_,rfl⟩;rw[<-n]at g m ⊢;clear x h r t u G n E;go_enter Tryz.func70,Tryz.ntmps70;go_wp2_with fail
 refine g.out.mono ?_;rintro e M ⟨rfl,a⟩;have b:=zA a;clear a g;go_wp2_with fail
 refine(m.out _ b.out).mono ?_;rintro e z ⟨y,c⟩;have f:=zA (b.out.trans (c.mono b.out.size));rcases y with⟨s,J,d,q,rfl,i⟩|⟨s,d,o,rfl⟩|⟨d,rfl⟩
 ·have l:=zA (show pM w (looks agrees sure level L (0,[])) (.returned (.tuple #[J,jI jJ 0])) z from⟨.inl ⟨s,J,d,q,rfl,i.mono b.out.size⟩,f.out⟩);obtain⟨N,O,rfl⟩:=i.slice;obtain⟨H,p⟩:∃H,H=(AJ s.2 []).reverse.length:=⟨_,rfl⟩;rw[<-p]at l ⊢;clear d q i c p;go_wp2_with fail
  go_ret2
  exact l.out
 ·have l:=zA (show pM w (looks agrees sure level L (0,[])) (.returned (.tuple #[.slice none 0 0,jI jJ 4])) z from⟨.inr (.inl ⟨s,d,o,rfl⟩),f.out⟩);clear d o c;go_wp2_with fail
  go_ret2
  exact l.out
 ·have l:=zA (show pM w (looks agrees sure level L (0,[])) (.returned (.tuple #[.slice none 0 0,jI jJ 6])) z from⟨.inr (.inr ⟨d,rfl⟩),f.out⟩);clear d c;go_wp2_with fail
  go_ret2
  exact l.out
end
section
open Go.RowKit Rg
attribute [local go_sem] Oper.semAt_some
theorem AF{b:Blk}(a:b.l<=5)(h:b.hi<=8589934592):b.n<2*4^b.l:=by
 have e:sz b.l*(2*4^b.l)=8589934592:=by
  unfold sz;rw[qH 2,<-Nat.mul_assoc,<-Nat.pow_add,show 16-b.l+b.l=16 by omega]
 unfold Blk.hi at h;rw[<-e,qH]at h;have:=Nat.le_of_mul_le_mul_left h (nN b.l);omega
theorem Reg.nil:Reg []:=⟨pN.nil,(fun d a=>by cases a),by simp⟩
theorem Reg.union{A B:List Blk}(b:Reg A)(c:Reg B)(h:(iH A B).length<=4000):Reg (iH A B):=by
 obtain⟨u1,u2,_⟩:=QR b.tidy c.tidy b.top c.top;have e:Lv (iH A B) 5:=Hw (by omega) (fun d a=>(b.okc d a).1) (fun d a=>(c.okc d a).1);exact⟨u1,fun d a=>⟨e d a,AF (e d a) (u2 d a)⟩,h⟩
def Ob(d:Int×Int):Value:=.agg #[jI jJ d.1,jI jJ d.2]
def MvH(d1 d2:Int×Int)(level:Nat)(f:Blk->Int ⊕ List Blk):Prop:=
 ∀b:Blk,b.l<=5->b.n<2*4^b.l->∃(q:Int×Int×Int×Int) (e:Int),(∀w,Calls zB 138 #[dD b,Ob d1,Ob d2] w (GP (.tuple #[QV q,jI jJ e]) w))/\
  ((e≠0/\f b=.inl e)\/(e=0/\∃c,(∀w,Calls zB 68 #[QV q,jI jJ (level:Int)] w (iE w c))/\(c=none->f b=.inl 4)/\(∀A,c=some A->f b=.inr A/\Reg A/\0<A.length)))
def kH(w:World)(c:Int ⊕ List Blk)(e:Ending)(w':World):Prop:=
 ((∃L v,c=.inr L/\e=.returned (.tuple #[v,jI jJ 0])/\RC w' w.heap.size v L)\/(∃x:Int,c=.inl x/\e=.returned (.tuple #[.slice none 0 0,jI jJ x])))/\Below w.heap.size w w'
def St(wr:World)(B:Nat)(v10 v11:Value)(f:Blk->Int ⊕ List Blk)(l:List Blk)(c:Int ⊕ List Blk):Prop:=
 (∃S,v11=.bool false/\RC wr B v10 S/\Reg S/\iM f l (some S)=c)\/(v11=.bool true/\v10=.slice none 0 0/\iM f l none=c)
theorem Az(w:World)(a b c d:Int)(W:World)(e:W=(w.alloc (jC #[jI jJ a,jI jJ b] 31)).alloc (jC #[jI jJ c,jI jJ d] 31)):
  Below w.heap.size w W/\B2 W 31 w.heap.size a b/\B2 W 31 (w.heap.size+1) c d:=by
 subst e;refine⟨((zD _ _).alloc (zC _) _).alloc (by simp) _,(B2.new w _ a b).next (Below.new _),?_⟩;have:=B2.new (w.alloc (jC #[jI jJ a,jI jJ b] 31)) 31 c d;simp only[World.size_alloc]at this;exact this
theorem Te(hc:CelH){d1 d2:Int×Int}{level:Nat}{f:Blk->Int ⊕ List Blk}(hm:MvH d1 d2 level f)(V:∀w,Calls zB 137 #[Ob d1,Ob d2] w (GP (.bool true) w))(h5:level<=5){l:List Blk}(hr:Reg l){w:World}{v:Value}(hv:RC w 0 v l)(hl:∀k,v.ownBlock=some k->k<w.heap.size):
  Calls zB 104 #[v,Ob d1,Ob d2,jI jJ (level:Int)] w (kH w (iM f l (some []))):=by
 have c6:=zA (fun(w:World) (h:RC w 0 v l) hl=>DB hc hr w h hl);obtain⟨a,b⟩:=d1;obtain⟨c,d⟩:=d2;unfold MvH Ob at hm;unfold Ob at V ⊢;dsimp only at hm V ⊢;have b8:=zA V;have HM:=zA hm;have HC:=zA hc;have HR:=zA hr;have HL:=zA hl;obtain⟨LV,c9⟩:∃LV:Int,LV=(level:Int):=⟨_,rfl⟩;have l0:0<=LV:=by omega
 have l5:LV<=5:=by omega
 rw[<-c9]at HM ⊢;obtain⟨K,kc,rfl⟩:=hv.slice;obtain⟨W,hW⟩:∃W,W=(w.alloc (jC #[jI jJ a,jI jJ b] 31)).alloc (jC #[jI jJ c,jI jJ d] 31):=⟨_,rfl⟩;obtain⟨hB,h1,h2⟩:=Az w a b c d W hW;have HB:=zA hB;have H1:=zA h1;have H2:=zA h2;have HV:=zA (hv.next hB);clear hm V hc hr hl hv hB h1 h2 c9;go_enter Tryz.func104,Tryz.ntmps104;go_upto_block 0 with fail
 rw[<-hW];clear hW;obtain⟨p0,p1,_,_⟩:=H1.out.keep;obtain⟨q0,q1,_,_⟩:=H2.out.keep;go_wp2_with fail
 refine(c6.out _ HV.out (fun k n=>zT (HL.out k n) HB.out.size)).mono ?_;rintro e w1 ⟨rfl,q⟩;have t:=zA (HB.out.trans (q.mono HB.out.size));have a1:=zA (H1.out.next q);have a2:=zA (H2.out.next q);have c4:=zA (HV.out.next q);clear p0 p1 q0 q1 q c6 HB H1 H2 HV;obtain⟨p0,p1,_,_⟩:=a1.out.keep;obtain⟨q0,q1,_,_⟩:=a2.out.keep;go_wp2_with fail
 refine(b8.out _).mono ?_;rintro e Y ⟨rfl,G⟩;have p:=zA (t.out.trans (G.mono t.out.size));have e7:=zA (a1.out.next G);have e8:=zA (a2.out.next G);have c5:=zA (c4.out.next G);clear p0 p1 q0 q1 G b8 t a1 a2 c4;obtain⟨N,hN⟩:∃N,N=l.length:=⟨_,rfl⟩;rw[<-hN]at c5 ⊢;have HN:=zA hN;have g6:N<=4000:=by have:=HR.out.few;omega
 clear hN;obtain⟨Z,a6⟩:∃Z,Z=iM f l (some []):=⟨_,rfl⟩;have Q:=zA a6;have c3:=zA (show St Y Y.heap.size (.slice none 0 0) (.bool false) f (l.drop 0) Z from .inl ⟨[],rfl,bT.nil,Reg.nil,a6.symm⟩);clear a6;go_wp2_with fail
 go_loopw [36,10,11] (fun b5 f9 g4 wr=>∃i:Nat,i<=N/\b5=jI jJ (i:Int)/\Below Y.heap.size Y wr/\St wr Y.heap.size f9 g4 f (l.drop i) Z) (fun b5 _ _ _=>N-(intOf b5).toNat)
 case atStart=>exact⟨0,by omega,rfl,zD _ _,c3.out⟩
 case round=>
  clear c3;obtain⟨i,hi,rfl,j,L⟩:=hrel;by_cases H:i<N
  ·obtain⟨b,hx⟩:∃b,l[i]? =some b:=⟨_,List.getElem?_eq_getElem (by rw[<-HN.out];exact H)⟩;obtain⟨g,g5,he,_,hg,x,y,z,a0,f6,c1,c2⟩:=(c5.out.next j).cex hx;injection he with hA d8 f7;subst hA;clear d8 f7;obtain⟨s,d5⟩:=HR.out.okc b (List.mem_of_getElem? hx);have d7:l.drop i=b::l.drop (i+1):=by
    rw[zZ (by rw[<-HN.out];exact H)];congr 1;exact(List.getElem?_eq_some_iff.1 hx).2
   rw[d7]at L;obtain⟨⟨q1,q2,q3,q4⟩,e,I,d9⟩:=HM.out b s d5;have d6:dD b=.agg #[jI jJ x,jI jJ y,jI jJ z]:=by unfold dD;rw[a0]
   rw[d6]at I;unfold QV at I;dsimp only at I;have b9:=zA I;have f3:=zA d9;have r:=zA L;have q:=Below.new (w:=wr) (jC #[jI jJ x,jI jJ y,jI jJ z] 63);have a3:=zA (j.trans (q.mono j.size));have t:=zA q;have h8:=(B3.new wr 63 x y z).keep;obtain⟨wv,b4⟩:∃wv,wv=wr.alloc (jC #[jI jJ x,jI jJ y,jI jJ z] 63):=⟨_,rfl⟩;rw[<-b4]at a3 t h8;go_upto_region 10 with fail
   rw[<-b4];clear b4 q I d9 L d7 hx a0 d6 f6 c1 c2 s d5;obtain⟨e0,e1,e2⟩:=h8;obtain⟨p0,p1,_,_⟩:=(e7.out.next a3.out).keep;obtain⟨r0,r1,_,_⟩:=(e8.out.next a3.out).keep;go_wp2_with fail
   refine(b9.out _).mono ?_;rintro e' w3 ⟨rfl,a4⟩;have d0:=Below.new (w:=w3) (jC #[jI jJ q1,jI jJ q2,jI jJ q3,jI jJ q4] 33);have u:=heap_alloc_new w3 (jC #[jI jJ q1,jI jJ q2,jI jJ q3,jI jJ q4] 33);have O:=zA (t.out.trans ((a4.trans (d0.mono a4.size)).mono t.out.size));obtain⟨w4,b3⟩:∃w4,w4=w3.alloc (jC #[jI jJ q1,jI jJ q2,jI jJ q3,jI jJ q4] 33):=⟨_,rfl⟩;rw[<-b3]at O u;have M:=zA (j.trans (O.out.mono j.size));go_upto_region 11 with fail
   rw[<-b3];clear b3 a4 d0 e0 e1 e2 p0 p1 r0 r1 b9;rcases f3.out with⟨a7,m⟩|⟨a7,cA,R,c7,c8⟩
   ·have HF:=zA (show kH w (iM f l (some [])) (.returned (.tuple #[.slice none 0 0,jI jJ e])) w4 from⟨.inr ⟨e,by
     rw[<-Q.out];rcases r.out with⟨S,_,_,_,n⟩|⟨_,_,n⟩
     ·rw[<-n];simp only[iM];rw[m]
     ·rw[<-n];simp only[iM];rw[m],rfl⟩,p.out.trans (M.out.mono p.out.size)⟩)
    have g8:(e != 0)=true:=by simpa using a7
    clear m u;go_wp2_with fail
    go_ret2
    exact HF.out
   ·subst a7;unfold QV at R;dsimp only at R;have f0:=zA R;have e9:=zA c7;have f1:=zA c8;have g0:w4.cell? ⟨w3.heap.size,0,none⟩=some (jI jJ q1):=by simp[World.cell?,u]
    have g1:w4.cell? ⟨w3.heap.size,1,none⟩=some (jI jJ q2):=by simp[World.cell?,u]
    have g2:w4.cell? ⟨w3.heap.size,2,none⟩=some (jI jJ q3):=by simp[World.cell?,u]
    have g3:w4.cell? ⟨w3.heap.size,3,none⟩=some (jI jJ q4):=by simp[World.cell?,u]
    clear R c7 c8 u;go_wp2_with fail
    refine(f0.out _).mono ?_;rintro e5 w5 ⟨e3,s⟩;have D:=zA (M.out.trans (s.mono M.out.size));have f2:=zA (O.out.trans (s.mono O.out.size));clear g0 g1 g2 g3;rcases e3 with⟨A,vA,B,rfl,b1⟩|⟨B,rfl⟩
    ·obtain⟨m,X,b0⟩:=f1.out A B;have o:RC w5 Y.heap.size vA A:=b1.mono M.out.size;rcases r.out with⟨S,rfl,hS,J,n⟩|⟨rfl,rfl,n⟩
     ·have U:=hS.next f2.out;have f5:=zA (Rs HC.out J X b0 w5 (U.mono (zO _)) (o.mono (zO _)) (fun k n=>(U.lt k n).2) (fun k n=>(o.lt k n).2));have b7:=zA (show iM f (l.drop (i+1)) (if (iH S A).length<=4000 then some (iH S A) else none)=Z by rw[<-n];simp only[iM];rw[m]);have f4:=zA (fun h=>Reg.union J X h);obtain⟨Z1,z1,rfl⟩:=U.slice;obtain⟨Z2,z2,rfl⟩:=o.slice;clear hS U b1 o n m X b0 J B s r;go_wp2_with fail
      refine f5.out.mono ?_;rintro e6 w6 ⟨e4,a5⟩;have b6:=zA (D.out.trans (a5.mono D.out.size));rcases e4 with⟨a9,vU,rfl,b2⟩|⟨f8,rfl⟩
      ·have E:=zA (show St w6 Y.heap.size vU (.bool false) f (l.drop (i+1)) Z from .inl ⟨_,rfl,b2.mono D.out.size,f4.out a9,by have:=b7.out;rw[if_pos a9]at this;exact this⟩);obtain⟨Z3,z3,rfl⟩:=b2.slice;clear a9 b2 a5;go_wp2_with fail
       refine⟨⟨i+1,H,by go_num,b6.out,E.out⟩,?_⟩;simp only[intOf];omega
      ·have E:=zA (show St w6 Y.heap.size (.slice none 0 0) (.bool true) f (l.drop (i+1)) Z from .inr ⟨rfl,rfl,by have:=b7.out;rw[if_neg (by omega)]at this;exact this⟩);clear f8 a5;go_wp2_with fail
       refine⟨⟨i+1,H,by go_num,b6.out,E.out⟩,?_⟩;simp only[intOf];omega
     ·have E:=zA (show St w5 Y.heap.size (.slice none 0 0) (.bool true) f (l.drop (i+1)) Z from .inr ⟨rfl,rfl,by rw[<-n];simp only[iM];rw[m]⟩);obtain⟨Z2,z2,rfl⟩:=o.slice;clear b1 o n m X b0 B s r;go_wp2_with fail
      refine⟨⟨i+1,H,by go_num,D.out,E.out⟩,?_⟩;simp only[intOf];omega
    ·have m:=e9.out B;have HF:=zA (show kH w (iM f l (some [])) (.returned (.tuple #[.slice none 0 0,jI jJ 4])) w5 from⟨.inr ⟨4,by
      rw[<-Q.out];rcases r.out with⟨S,_,_,_,n⟩|⟨_,_,n⟩
      ·rw[<-n];simp only[iM];rw[m]
      ·rw[<-n];simp only[iM];rw[m],rfl⟩,p.out.trans (D.out.mono p.out.size)⟩)
     clear m B s;go_wp2_with fail
     go_ret2
     exact HF.out
  ·have g7:i=N:=by omega
   have hd:l.drop i=[]:=yP (by rw[<-HN.out];omega);rw[hd]at L;rcases L with⟨S,rfl,hS,J,n⟩|⟨rfl,rfl,n⟩
   ·have HF:=zA (show kH w (iM f l (some [])) (.returned (.tuple #[u10,jI jJ 0])) wr from⟨.inl ⟨S,u10,by rw[<-Q.out,<-n];rfl,rfl,hS.mono p.out.size⟩,p.out.trans (j.mono p.out.size)⟩);obtain⟨Z1,z1,rfl⟩:=hS.slice;clear hS J n j hd;go_wp2_with fail
    go_ret2
    exact HF.out
   ·have HF:=zA (show kH w (iM f l (some [])) (.returned (.tuple #[.slice none 0 0,jI jJ 4])) wr from⟨.inr ⟨4,by rw[<-Q.out,<-n];rfl,rfl⟩,p.out.trans (j.mono p.out.size)⟩);clear n j hd;go_wp2_with fail
    go_ret2
    exact HF.out
end
end Go.Proofs.YtlbklncoihhfcaaGreatDoor
