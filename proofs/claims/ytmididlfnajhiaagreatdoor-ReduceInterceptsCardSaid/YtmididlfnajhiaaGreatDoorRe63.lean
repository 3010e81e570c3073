/-
  ReduceIntercepts answers true for every input and leaves it alone. No condition.
-/
import Derived.Test.YtmididlfnajhiaaGreatDoorJ
import Derived.Test.YtmididlfnajhiaaGreatDoorV63
import Derived.Deep.Strs
import Derived.Test.YtmididlfnajhiaaGreatDoorTie
import Derived.Test.YtmididlfnajhiaaGreatDoorCards
import Derived.ProofKit
import Derived.LaidMore
import Derived.OpenShut
import Derived.Stop.Joined
import Derived.SevenTiedAt
set_option maxRecDepth 100000
set_option maxHeartbeats 4000000
open _root_.Array renaming toList_inj→asJ
open _root_.Option renaming some→afJ
open Go.World renaming doorLaid→bbZ
namespace Go.Proofs.YtmididlfnajhiaaGreatDoor
open Go.ChangeShapes Go.WideShapes Go.ChangeAt Go.RowKit Go.Joins
theorem rW {cs:List Value} {s t:Int} (hl:cs.length=2) (e1:(cs.drop 0).take 1=[.int .i64 s]) (e2:(cs.drop 1).take 1=[.int .i64 t]):∃a b,cs=[.int .i64 a,.int .i64 b]:=by
 match cs,hl with
 | [c0,c1],_=>
  simp at e1 e2;exact ⟨s,t,by rw [e1,e2]⟩
theorem rR {cs:List Value} {a b c d e f:Int} (hl:cs.length=6) (e1:(cs.drop 0).take 2=[.int .i64 a,.int .i64 b]) (e2:(cs.drop 2).take 2=[.int .i64 c,.int .i64 d]) (e3:(cs.drop 4).take 2=[.int .i64 e,.int .i64 f]):
  ∃a b c d e f,cs=[.int .i64 a,.int .i64 b,.int .i64 c,.int .i64 d,.int .i64 e,.int .i64 f]:=by
 match cs,hl with
 | [c0,c1,c2,c3,c4,c5],_=>
  simp at e1 e2 e3;exact ⟨a,b,c,d,e,f,by rw [e1.1,e1.2,e2.1,e2.2,e3.1,e3.2]⟩
section
variable {H : Type} {enc : TypeId × Value → H} {w : World} {base : Nat} {spare : Nat → Bool} {held : Bool}
theorem dY {n:Nat} {cs:List Value} {x:DataW H×List MemPlace} (h:DataW.trod enc Tryz.prog w base spare held n 23 cs=some x):∃a b,cs=[.int .i64 a,.int .i64 b]:=by
 obtain ⟨y0,y1,m,_,hl,h0,h1⟩:=trod_struct2 Tryz.underlying23 h;have hc:Tryz.prog.cellsOf 23=2:=by kernel_rfl
 have h3:Tryz.prog.cellsOf 3=1:=by kernel_rfl
 rw [hc] at hl;obtain ⟨s,e1,_⟩:=DataW.trod_int Tryz.underlying3 h0;obtain ⟨t,e2,_⟩:=DataW.trod_int Tryz.underlying3 h1;rw [h3] at e1 e2;exact rW hl e1 e2
theorem ZO {r:Reach} {b0:Nat} {v:Value} {d:DataW H} {p:List MemPlace} (hv:Value.okWide Tryz.prog w r b0 23 v) (h:DataW.Trod enc Tryz.prog w base spare held 23 v d p):∃a b,v=.agg #[.int .i64 a,.int .i64 b]:=by
 obtain ⟨cs,rfl,_⟩:=okWide_struct Tryz.underlying23 hv;obtain ⟨fuel,hf⟩:=h;obtain ⟨a,b,e⟩:=dY hf;have e':cs= #[.int .i64 a,.int .i64 b]:=asJ.1 e;exact ⟨a,b,by rw [e']⟩
theorem rV {n:Nat} {cs:List Value} {x:DataW H×List MemPlace} (h:DataW.trod enc Tryz.prog w base spare held n 25 cs=some x):∃a b c d e f,cs=[.int .i64 a,.int .i64 b,.int .i64 c,.int .i64 d,.int .i64 e,.int .i64 f]:=by
 obtain ⟨y0,y1,y2,m,_,hl,h0,h1,h2⟩:=Go.Deep.trod_struct3 Tryz.underlying25 h;have hc:Tryz.prog.cellsOf 25=6:=by kernel_rfl
 have h3:Tryz.prog.cellsOf 23=2:=by kernel_rfl
 rw [hc] at hl;obtain ⟨a,b,e1⟩:=dY h0;obtain ⟨c,d,e2⟩:=dY h1;obtain ⟨e,f,e3⟩:=dY h2;rw [h3] at e1 e2 e3;exact rR hl e1 e2 e3
theorem wL {r:Reach} {b0:Nat} {v:Value} {d:DataW H} {p:List MemPlace} (hv:Value.okWide Tryz.prog w r b0 25 v) (h:DataW.Trod enc Tryz.prog w base spare held 25 v d p):
  ∃a b c d e f,v=.agg #[.int .i64 a,.int .i64 b,.int .i64 c,.int .i64 d,.int .i64 e,.int .i64 f]:=by
 obtain ⟨cs,rfl,_⟩:=okWide_struct Tryz.underlying25 hv;obtain ⟨fuel,hf⟩:=h;obtain ⟨a,b,c,d,e,f,q⟩:=rV hf;have e':cs= #[.int .i64 a,.int .i64 b,.int .i64 c,.int .i64 d,.int .i64 e,.int .i64 f]:=asJ.1 q;exact ⟨a,b,c,d,e,f,by rw [e']⟩
end
theorem vZ {W:World} (h:laidMetH Tryz.prog [("almucantar/halfangle.quarter",Rows.laid_almucantar_halfangle_quarter)] W):Ev.gF W:=by
 rw [MakeChecks.laidMetH_plain _ _ _ (by kernel_rfl)] at h;obtain ⟨ps,⟨g0,t0,cs0,f0,p0,q0,hg0,ht0,hv0,hd0,_,_⟩,_,_⟩:=h;obtain rfl:=afJ.inj ((show Tryz.prog.globalNamed "almucantar/halfangle.quarter" =some 0 by kernel_rfl).symm.trans hg0);obtain rfl:=afJ.inj ((show (Tryz.prog.globals[0]?).map (·.type)=some 23 by kernel_rfl).symm.trans ht0);obtain ⟨y0,y1,m,hx,hl,h0,h1⟩:=trod_struct2 Tryz.underlying23 hd0;have hc:Tryz.prog.cellsOf 23=2:=by kernel_rfl
 have h3:Tryz.prog.cellsOf 3=1:=by kernel_rfl
 rw [hc] at hl;obtain ⟨s,e1,e1',_⟩:=DataW.trod_int Tryz.underlying3 h0;obtain ⟨t,e2,e2',_⟩:=DataW.trod_int Tryz.underlying3 h1;rw [h3] at e1 e2;subst e1' e2';simp only [Rows.laid_almucantar_halfangle_quarter,Prod.mk.injEq,DataW.agg.injEq,List.cons.injEq,DataW.lit.injEq,Lit.int.injEq,true_and,and_true] at hx;obtain ⟨⟨rfl,rfl⟩,_⟩:=hx;obtain ⟨a,b,hab,ha,hb⟩:∃a b,cs0.toList=[.int .i64 a,.int .i64 b]∧a=5400000∧b=5400000:=by
  match hcs:cs0.toList,hl with
  | [c0,c1],_=>
   rw [hcs] at e1 e2;simp at e1 e2;exact ⟨5400000,5400000,by rw [e1,e2],rfl,rfl⟩
 subst ha hb;intro e he;have he':e=(0,[.int .i64 5400000,.int .i64 5400000]):=by simpa [Ev.GS] using he
 subst he';unfold World.var? at hv0;rw [hg0] at hv0;simp only [Option.bind_some] at hv0;split at hv0
 ·rename_i cs ty fz hh;cases hv0;refine ⟨ty,fz,?_⟩;rw [hh];obtain ⟨l⟩:=cs0;simp only at hab;subst hab;rfl
 ·cases hv0
theorem vP (os:Os) (args:Array Value):laidMetH Tryz.prog [("almucantar/halfangle.quarter",Rows.laid_almucantar_halfangle_quarter)] ((bbZ Tryz.prog 400 os).forCall (fun _ _=>0) ⟨#[],args,[]⟩).memory:=
 laidMetH_of_parts3 (fuel:=8) (laidMet_of_run' 8 (by kernel_rfl) (by kernel_rfl)) (by kernel_rfl) (by kernel_rfl)
theorem aAb (os:Os) (started:os.Started) (H:Type) (enc:TypeId×Value→H):
  ReturnsInHanded {} Tryz.checked os 8 .any (fun w args=>(Rows.reduceInterceptsSpec.pre enc Tryz.prog Tryz.f8 [] false w args∧laidMetH Tryz.prog [("almucantar/halfangle.quarter",Rows.laid_almucantar_halfangle_quarter)] w)∧sizedMet enc Tryz.prog Tryz.f8 (OpenSpec.ofChange Rows.reduceInterceptsSpec) false w args)
   (Rows.reduceInterceptsSpec.post enc Tryz.prog Tryz.f8 false true false false):=by
 refine returnsInHanded_of_change_and (C:=Tryz.checked) (X:=fun w _=>laidMetH Tryz.prog [("almucantar/halfangle.quarter",Rows.laid_almucantar_halfangle_quarter)] w) (fun _ _ _ hh h=>h.of_heap hh) Tryz.own started (by kernel_rfl) Tryz.func8
  (ChangeSpec.witness_shaped (enc:=enc) (C:=Tryz.checked) (os:=os) (X:=fun w _=>laidMetH Tryz.prog [("almucantar/halfangle.quarter",Rows.laid_almucantar_halfangle_quarter)] w) false (bbZ Tryz.prog 400 os) #[.agg #[.int .i64 0,.int .i64 0,.int .i64 0,.int .i64 0,.int .i64 0,.int .i64 0],.agg #[.int .i64 0,.int .i64 0]] 8 rfl (World.shaped_of_RefB (by kernel_rfl) (by kernel_rfl)) (by kernel_rfl) (by kernel_rfl) (by kernel_rfl) (vP os _)) ?_
 intro W base args ds gs before hval0 hW _ _ hL _;have hval:∀(j:Nat) t v,Tryz.f8.params[j]? =some t→args[j]? =some v→Value.okWide Tryz.prog W .any base t v:=hval0;have hW':=hW;obtain ⟨p,q,hA0,hV,rfl,hfz,hnd⟩:=hW;have hA:DataW.TrodAll enc Tryz.prog W 0 (fun _=>true) true Tryz.f8.params.toList args.toList ds p:=hA0;have hAk:=hA;rw [Tryz.params8] at hA hval;obtain ⟨v0,v1,d0,d1,p0,p1,rfl,rfl,rfl,h0,h1⟩:=trodAll_two hA;obtain ⟨rfl,rfl⟩:=trodVars_none hV;obtain ⟨a,b,c,d,e,f,rfl⟩:=wL (hval 0 25 v0 rfl rfl) h0;obtain ⟨u,v,rfl⟩:=ZO (hval 1 23 v1 rfl rfl) h1;simp only [List.append_nil] at hW' hAk;refine (KO a b c d e f u v W (vZ hL)).mono fun e W' ⟨he,hw⟩=>?_;subst he;exact ⟨_,rfl,LF hW' rfl hAk rfl rfl rfl rfl (by rw [Tryz.params8];decide+kernel) hw⟩
theorem re63_holds:Rows.ReduceInterceptsSaid:=
 OpenClaim.holds_of_wide 8 Tryz.f8 rfl rfl rfl rfl rfl rfl rfl ⟨rfl,rfl,rfl,rfl,rfl⟩ rfl rfl rfl rfl rfl (by kernel_rfl) Tryz.func8 (by kernel_rfl)
  (of_decide_eq_true (by kernel_rfl)) (by unfold Func.isWrapper;first | (rw [if_pos (by decide+kernel)];kernel_rfl) | (rw [if_neg (by decide+kernel)];exact ⟨rfl,rfl⟩))
  (fun os started H enc _=>aAb os started H enc)
#print axioms re63_holds
theorem re63_card:Rows.ReduceInterceptsCardSaid:=
 Claim7.holds_tied_plain_at .later [] [.data] true (true,"8cfefaddb83d23289332c3a6c0d85871fed7cb0636be8185e43260805103d721") false
  re63_holds (fun _ h=>by cases h) (by kernel_rfl) (fun _ h=>by cases h) reduceIntercepts_row_tie rfl ⟨rfl,rfl⟩ (by kernel_rfl) rfl
  (fun f fn hf hfn=>by
   obtain rfl:f=8:=afJ.inj ((show Tryz.prog.funcNamed "almucantar/almucantarlaw30.ReduceIntercepts" =some 8 by kernel_rfl).symm.trans hf) |>.symm;obtain rfl:fn=Tryz.f8:=(afJ.inj (Tryz.func8.symm.trans hfn)).symm;exact ⟨by kernel_rfl,fun j t ht=>by
    rw [Tryz.params8] at ht;have hm:t∈[25,23]:=by simpa using Array.mem_of_getElem? ht
    have hall:([25,23].all fun u=> !Tryz.prog.wantsStandIn u)=true:=by kernel_rfl
    exact (show Tryz.prog.wantsStandIn t=false by simpa using List.all_eq_true.1 hall t hm)⟩)
  (by kernel_rfl)
#print axioms re63_card
end Go.Proofs.YtmididlfnajhiaaGreatDoor
