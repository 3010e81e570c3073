/-
  TopRunning answers true for every input and leaves it alone. No condition.
-/
import Derived.Test.YtlbklncoihhfcaaGreatDoorJ
import Derived.Test.YtlbklncoihhfcaaGreatDoorU24
import Derived.Test.YtlbklncoihhfcaaGreatDoorTc
import Derived.Test.YtlbklncoihhfcaaGreatDoorTf
import Derived.Deep.Strs
import Derived.Deep.Slices
import Derived.Test.YtlbklncoihhfcaaGreatDoorTie
import Derived.Test.YtlbklncoihhfcaaGreatDoorCards
import Derived.ProofKit
import Derived.LaidMore
import Derived.OpenShut
import Derived.Stop.Joined
import Derived.SevenTiedAt
set_option maxRecDepth 100000
set_option maxHeartbeats 4000000
open _root_.Option renaming bind_some→yL,some→zL
open Go.Proofs.Tryz renaming prog→zB
namespace Go.Proofs.YtlbklncoihhfcaaGreatDoor
attribute [local instance] Ev.gl0
open Go.ChangeShapes Go.WideShapes Go.ChangeAt Go.RowKit Go.Joins
theorem QO{cs:List Value}{s t:Int}(c:cs.length=2)(e1:(cs.drop 0).take 1=[.int .i64 s])(e2:(cs.drop 1).take 1=[.int .i64 t]):∃a b,cs=[.int .i64 a,.int .i64 b]:=by
 match cs,c with
 | [d,c1],_=>
  simp at e1 e2;exact⟨s,t,by rw[e1,e2]⟩
section
variable {H : Type} {enc : TypeId × Value -> H} {w : World} {base : Nat} {spare : Nat -> Bool} {held : Bool}
theorem TS{n:Nat}{cs:List Value}{x:DataW H×List MemPlace}(h:DataW.trod enc zB w base spare held n 23 cs=some x):∃a b,cs=[.int .i64 a,.int .i64 b]:=by
 obtain⟨i,j,m,_,c,d,e⟩:=trod_struct2 Tryz.underlying23 h;have g:zB.cellsOf 23=2:=by kernel_rfl
 have f:zB.cellsOf 3=1:=by kernel_rfl
 rw[g]at c;obtain⟨s,e1,_⟩:=DataW.trod_int Tryz.underlying3 d;obtain⟨t,e2,_⟩:=DataW.trod_int Tryz.underlying3 e;rw[f]at e1 e2;exact QO c e1 e2
theorem ZA{r:Reach}{c:Nat}{v:Value}{d:DataW H}{p:List MemPlace}(j:Value.okWide zB w r c 23 v)(h:DataW.Trod enc zB w base spare held 23 v d p):∃a b,v=.agg #[.int .i64 a,.int .i64 b]:=by
 obtain⟨f,rfl,_⟩:=okWide_struct Tryz.underlying23 j;obtain⟨fuel,i⟩:=h;obtain⟨a,b,e⟩:=TS i;have g:f= #[.int .i64 a,.int .i64 b]:=Array.toList_inj.1 e;exact⟨a,b,by rw[g]⟩
theorem BN{n:Nat}{cs:List Value}{x:DataW H×List MemPlace}(h:DataW.trod enc zB w base spare held n 31 cs=some x):∃a b,cs=[.int .i64 a,.int .i64 b]:=by
 obtain⟨i,j,m,_,c,d,e⟩:=trod_struct2 Tryz.underlying31 h;have g:zB.cellsOf 31=2:=by kernel_rfl
 have f:zB.cellsOf 3=1:=by kernel_rfl
 rw[g]at c;obtain⟨s,e1,_⟩:=DataW.trod_int Tryz.underlying3 d;obtain⟨t,e2,_⟩:=DataW.trod_int Tryz.underlying3 e;rw[f]at e1 e2;exact QO c e1 e2
theorem Xy{cs:List Value}{a b c d:Int}(e:cs.length=4)(e1:(cs.drop 0).take 2=[.int .i64 a,.int .i64 b])(e2:(cs.drop 2).take 2=[.int .i64 c,.int .i64 d]):
  ∃a b c d,cs=[.int .i64 a,.int .i64 b,.int .i64 c,.int .i64 d]:=by
 match cs,e with
 | [f,c1,g,h],_=>
  simp at e1 e2;exact⟨a,b,c,d,by rw[e1.1,e1.2,e2.1,e2.2]⟩
theorem Ad{cs:List Value}{a b c p q r s:Int}(f:cs.length=7)(e1:(cs.drop 0).take 1=[.int .i64 a])(e2:(cs.drop 1).take 1=[.int .i64 b])(e:(cs.drop 2).take 1=[.int .i64 c])(d:(cs.drop 3).take 4=[.int .i64 p,.int .i64 q,.int .i64 r,.int .i64 s]):
  ∃a b c p q r s,cs=[.int .i64 a,.int .i64 b,.int .i64 c,.int .i64 p,.int .i64 q,.int .i64 r,.int .i64 s]:=by
 match cs,f with
 | [g,c1,h,i,j,k,l],_=>
  simp at e1 e2 e d;exact⟨a,b,c,p,q,r,s,by rw[e1,e2,e,d.1,d.2.1,d.2.2.1,d.2.2.2]⟩
theorem Qc{n:Nat}{cs:List Value}{x:DataW H×List MemPlace}(h:DataW.trod enc zB w base spare held n 37 cs=some x):∃a b c d,cs=[.int .i64 a,.int .i64 b,.int .i64 c,.int .i64 d]:=by
 obtain⟨k,l,m,_,e,f,g⟩:=trod_struct2 Tryz.underlying37 h;have j:zB.cellsOf 37=4:=by kernel_rfl
 have i:zB.cellsOf 31=2:=by kernel_rfl
 rw[j]at e;obtain⟨a,b,e1⟩:=BN f;obtain⟨c,d,e2⟩:=BN g;rw[i]at e1 e2;exact Xy e e1 e2
theorem Bi{n:Nat}{cs:List Value}{x:DataW H×List MemPlace}(h:DataW.trod enc zB w base spare held n 39 cs=some x):∃a b c p q r s,cs=[.int .i64 a,.int .i64 b,.int .i64 c,.int .i64 p,.int .i64 q,.int .i64 r,.int .i64 s]:=by
 obtain⟨u,v,y,z,m,_,f,g,i,j,k⟩:=trod_struct4 Tryz.underlying39 h;have l:zB.cellsOf 39=7:=by kernel_rfl
 have o:zB.cellsOf 3=1:=by kernel_rfl
 have t:zB.cellsOf 37=4:=by kernel_rfl
 rw[l]at f;obtain⟨a,e1,_⟩:=DataW.trod_int Tryz.underlying3 g;obtain⟨b,e2,_⟩:=DataW.trod_int Tryz.underlying3 i;obtain⟨c,d,_⟩:=DataW.trod_int Tryz.underlying3 j;obtain⟨p,q,r,s,e⟩:=Qc k;rw[o]at e1 e2 d;rw[t]at e;exact Ad f e1 e2 d e
theorem TR{v:Value}{fuel:Nat}{x:DataW H×List MemPlace}(h:DataW.trod enc zB w base spare held fuel 24 [v]=some x):
  ∃(A:Option Addr) (n c b o:Nat) (s:Nat->Sig),v=.slice A n c/\(1<=n->A=some ⟨b,o,none⟩)/\(∀i,i<n->SigAt w b o i (s i))/\n<=c/\c<=9223372036854775807:=by
 have G:zB.cellsOf 39=7:=by kernel_rfl
 rcases Go.Deep.open_slice Tryz.underlying24 h with⟨l,_⟩|⟨a,len,y,m,n,D,Pl,l,_,L,hm,I,_,hx⟩
 ·simp at l;subst l;exact⟨none,0,0,0,0,fun _=>⟨0,0,0,0,0,0,0⟩,rfl,fun h=>absurd h (by omega),fun i h=>absurd h (by omega),Nat.le_refl _,by omega⟩
 ·simp at l;subst l;have a0:len<=m:=by rw[I];split<;>omega
  unfold maxLen at hm;have each:∀i,∃s:Sig,i<len->w.cell? ((a.add (i*7)).add 0)=some (.int .i64 s.dec)/\w.cell? ((a.add (i*7)).add 1)=some (.int .i64 s.gha)/\w.cell? ((a.add (i*7)).add 2)=some (.int .i64 s.noi)/\w.cell? ((a.add (i*7)).add 3)=some (.int .i64 s.leg.1)/\w.cell? ((a.add (i*7)).add 4)=some (.int .i64 s.leg.2.1)/\w.cell? ((a.add (i*7)).add 5)=some (.int .i64 s.leg.2.2.1)/\w.cell? ((a.add (i*7)).add 6)=some (.int .i64 s.leg.2.2.2):=by
   intro i;by_cases hi:i<len
   ·obtain⟨N,J,h2⟩:=hx i (by omega);rw[G]at J;obtain⟨_,M,k⟩:=World.cells?_some J;obtain⟨d,g,z,p,q,r,s,E⟩:=Bi h2;subst E;have O:=k 0 (by omega);have Q:=k 1 (by omega);have R:=k 2 (by omega);have U:=k 3 (by omega);have V:=k 4 (by omega);have X:=k 5 (by omega);have Y:=k 6 (by omega);exact⟨⟨d,g,z,p,q,r,s⟩,fun _=>⟨by simpa using O,by simpa using Q,by simpa using R,by simpa using U,by simpa using V,by simpa using X,by simpa using Y⟩⟩
   ·exact⟨⟨0,0,0,0,0,0,0⟩,fun h=>absurd h hi⟩
  obtain⟨f,K⟩:=Classical.axiomOfChoice each;by_cases Z:len=0
  ·subst Z;exact⟨some a,0,y,0,0,f,rfl,fun h=>absurd h (by omega),fun i h=>absurd h (by omega),L,by omega⟩
  obtain⟨b,off,B⟩:=a;have u:B=none:=by simpa[Addr.add]using World.cell?_spot (K 0 (by omega)).1
  subst u;have t:∀o j,(⟨b,o,none⟩:Addr).add j=⟨b,o+j,none⟩:=fun o j=>by unfold Addr.add;split<;>simp_all
  refine⟨some ⟨b,off,none⟩,len,y,b,off,f,rfl,fun _=>rfl,fun i hi=>?_,L,by omega⟩;have e:=K i hi;rw[t,t,t,t,t,t,t,t]at e;exact⟨e.1,e.2.1,e.2.2.1,e.2.2.2.1,e.2.2.2.2.1,e.2.2.2.2.2.1,e.2.2.2.2.2.2⟩
end
theorem Xb{W:World}(h:laidMetH zB [("almucantar/halfangle.quarter",Rows.laid_almucantar_halfangle_quarter)] W):Ev.iX W:=by
 rw[MakeChecks.laidMetH_plain _ _ _ (by kernel_rfl)]at h;obtain⟨L,⟨J,N,d,I,K,M,g,p,c,n,_,_⟩,_,_⟩:=h;obtain rfl:=zL.inj ((show zB.globalNamed "almucantar/halfangle.quarter" =some 0 by kernel_rfl).symm.trans g);obtain rfl:=zL.inj ((show(zB.globals[0]?).map (·.type)=some 31 by kernel_rfl).symm.trans p);obtain⟨O,Q,m,r,q,v,w⟩:=trod_struct2 Tryz.underlying31 n;have A:zB.cellsOf 31=2:=by kernel_rfl
 have x:zB.cellsOf 3=1:=by kernel_rfl
 rw[A]at q;obtain⟨s,e1,i,_⟩:=DataW.trod_int Tryz.underlying3 v;obtain⟨t,e2,j,_⟩:=DataW.trod_int Tryz.underlying3 w;rw[x]at e1 e2;subst i j;simp only[Rows.laid_almucantar_halfangle_quarter,Prod.mk.injEq,DataW.agg.injEq,List.cons.injEq,DataW.lit.injEq,Lit.int.injEq,true_and,and_true]at r;obtain⟨⟨rfl,rfl⟩,_⟩:=r;obtain⟨a,b,f,y,z⟩:∃a b,d.toList=[.int .i64 a,.int .i64 b]/\a=5400000/\b=5400000:=by
  match k:d.toList,q with
  | [G,c1],_=>
   rw[k]at e1 e2;simp at e1 e2;exact⟨5400000,5400000,by rw[e1,e2],rfl,rfl⟩
 subst y z;intro e B;have o:e=(0,[.int .i64 5400000,.int .i64 5400000]):=List.mem_singleton.1 B;subst o;unfold World.var? at c;rw[g]at c;simp only[yL]at c;split at c
 ·rename_i H E u D;cases c;refine⟨E,u,?_⟩;rw[D];obtain⟨l⟩:=d;simp only at f;subst f;rfl
 ·cases c
theorem Vv(os:Os)(args:Array Value):laidMetH zB [("almucantar/halfangle.quarter",Rows.laid_almucantar_halfangle_quarter)] ((World.doorLaid zB 400 os).forCall (fun _ _=>0) ⟨#[],args,[]⟩).memory:=
 laidMetH_of_parts3 (fuel:=8) (laidMet_of_run' 8 (by kernel_rfl) (by kernel_rfl)) (by kernel_rfl) (by kernel_rfl)
theorem Rq(os:Os)(g:os.Started)(H:Type)(enc:TypeId×Value->H):
  ReturnsInHanded {} Tryz.checked os 3 .any (fun w args=>(Rows.topRunningSpec.pre enc zB Tryz.f3 [] false w args/\laidMetH zB [("almucantar/halfangle.quarter",Rows.laid_almucantar_halfangle_quarter)] w)/\sizedMet enc zB Tryz.f3 (OpenSpec.ofChange Rows.topRunningSpec) false w args)
   (Rows.topRunningSpec.post enc zB Tryz.f3 false true false false):=by
 refine returnsInHanded_of_change_and (C:=Tryz.checked) (X:=fun w _=>laidMetH zB [("almucantar/halfangle.quarter",Rows.laid_almucantar_halfangle_quarter)] w) (fun _ _ _ Y h=>h.of_heap Y) Tryz.own g (by kernel_rfl) Tryz.func3
  (ChangeSpec.witness_shaped (enc:=enc) (C:=Tryz.checked) (os:=os) (X:=fun w _=>laidMetH zB [("almucantar/halfangle.quarter",Rows.laid_almucantar_halfangle_quarter)] w) false (World.doorLaid zB 400 os) #[.agg #[.int .i64 0,.int .i64 0],.slice none 0 0,.int .u32 0,.int .u8 0] 8 rfl (World.shaped_of_RefB (by kernel_rfl) (by kernel_rfl)) (by kernel_rfl) (by kernel_rfl) (by kernel_rfl) (Vv os _)) ?_
 intro W base args L gs o i E _ _ Q _;have f:∀(j:Nat) t v,Tryz.f3.params[j]? =some t->args[j]? =some v->Value.okWide zB W .any base t v:=i;have l:=E;obtain⟨p,q,y,R,rfl,V,Z⟩:=E;have x:DataW.TrodAll enc zB W 0 (fun _=>true) true Tryz.f3.params.toList args.toList L p:=y;have k:=x;rw[Tryz.params3]at x f;obtain⟨v0,v1,v2,v3,d0,d1,d2,d3,p0,p1,p2,p3,rfl,rfl,rfl,N,s,u,O⟩:=trodAll_four x;obtain⟨rfl,rfl⟩:=trodVars_none R;obtain⟨a,b,rfl⟩:=ZA (f 0 23 v0 rfl rfl) N;obtain⟨D,G,c1,rfl⟩:=okWide_slice Tryz.underlying24 (f 1 24 v1 rfl rfl);obtain⟨r,B⟩:=s;obtain⟨A2,n2,c2,I,o1,s1,M,z,A,n,m⟩:=TR (v:=.slice D G c1) B;injection M with i1 i2 i3;subst i1 i2 i3;obtain⟨c,rfl,rfl,rfl,w2⟩:=open_int Tryz.underlying25 (f 2 25 v2 rfl rfl) u;have J:0<=c/\c<=4294967295:=by
  have s:IntKind.u32.min=0:=rfl;have u:IntKind.u32.max=4294967295:=rfl;simp only[Lit.wf,Bool.and_eq_true,decide_eq_true_eq]at w2;omega
 obtain⟨d,rfl,rfl,rfl,w3⟩:=open_int Tryz.underlying5 (f 3 5 v3 rfl rfl) O;have K:0<=d/\d<=255:=by
  have s:IntKind.u8.min=0:=rfl;have u:IntKind.u8.max=255:=rfl;simp only[Lit.wf,Bool.and_eq_true,decide_eq_true_eq]at w3;omega
 simp only[List.append_nil]at l k;refine(aBt a b D G c1 I o1 s1 c d W (Xb Q) z A n m J K).mono fun e W' ⟨U,hw⟩=>?_;subst U;exact⟨_,rfl,Xx l rfl k rfl rfl rfl rfl (by rw[Tryz.params3];decide+kernel) hw⟩
theorem tn_holds:Rows.TopRunningSaid:=
 OpenClaim.holds_of_wide 3 Tryz.f3 rfl rfl rfl rfl rfl rfl rfl ⟨rfl,rfl,rfl,rfl,rfl⟩ rfl rfl rfl rfl rfl J5 Tryz.func3 Rp
  (of_decide_eq_true (by kernel_rfl)) (by unfold Func.isWrapper;first|(rw[if_pos (by decide+kernel)];kernel_rfl)|(rw[if_neg (by decide+kernel)];exact⟨rfl,rfl⟩))
  (fun b a H enc _=>Rq b a H enc)
#print axioms tn_holds
theorem tn_card:Rows.TopRunningCardSaid:=
 Claim7.holds_tied_plain_at .later [] [.data] true (true,"5442f93b15594f5a111abc80afe5709e36e753656a1284318e198eec6efb8e67") false
  tn_holds (fun _ h=>by cases h) cd_wf (fun _ h=>by cases h) topRunning_row_tie rfl ⟨rfl,rfl⟩ cd_main rfl
  (fun f d e b=>by
   obtain rfl:f=3:=zL.inj ((show zB.funcNamed "almucantar/almucantartop.TopRunning" =some 3 by kernel_rfl).symm.trans e)|>.symm;obtain rfl:d=Tryz.f3:=(zL.inj (Tryz.func3.symm.trans b)).symm;exact⟨cd_looks,fun j t c=>by
    rw[Tryz.params3]at c;have g:t∈[23,24,25,5]:=by simpa using Array.mem_of_getElem? c
    have a:([23,24,25,5].all fun u=> !zB.wantsStandIn u)=true:=by kernel_rfl
    exact(show zB.wantsStandIn t=false by simpa using List.all_eq_true.1 a t g)⟩)
  cd_goes
#print axioms tn_card
end Go.Proofs.YtlbklncoihhfcaaGreatDoor
