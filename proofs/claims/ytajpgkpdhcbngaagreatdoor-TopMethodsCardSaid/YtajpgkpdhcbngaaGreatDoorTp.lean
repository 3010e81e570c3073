/- TopMethods. -/
import Derived.Test.YtajpgkpdhcbngaaGreatDoorJ
import Derived.Test.YtajpgkpdhcbngaaGreatDoorTw
import Derived.Deep.Strs
import Derived.Test.YtajpgkpdhcbngaaGreatDoorTie
import Derived.Test.YtajpgkpdhcbngaaGreatDoorCards
import Derived.ProofKit
import Derived.LaidMore
import Derived.OpenShut
import Derived.Stop.Joined
import Derived.SevenTiedAt
set_option maxRecDepth 100000
set_option maxHeartbeats 4000000
open _root_.Option renaming some→afZ
open Go.Proofs.Tryz renaming prog→aaZ
namespace Go.Proofs.YtajpgkpdhcbngaaGreatDoor
open Go.ChangeShapes Go.WideShapes Go.ChangeAt Go.RowKit Go.Joins
open _root_.Go.Proofs.YtajpgkpdhcbngaaGreatDoor.Rows renaming laid_almucantar_halfangle_quarter→zq
theorem two_cells {cs:List Value} {s t:Int} (hl:cs.length=2) (e1:(cs.drop 0).take 1=[.int .i64 s]) (e2:(cs.drop 1).take 1=[.int .i64 t]):∃a b,cs=[.int .i64 a,.int .i64 b]:=by
 match cs,hl with
 | [c0,c1],_=>
  simp at e1 e2;exact ⟨s,t,by rw [e1,e2]⟩
theorem six_cells {cs:List Value} {a b c d e f:Int} (hl:cs.length=6) (e1:(cs.drop 0).take 2=[.int .i64 a,.int .i64 b]) (e2:(cs.drop 2).take 2=[.int .i64 c,.int .i64 d]) (e3:(cs.drop 4).take 2=[.int .i64 e,.int .i64 f]):
  ∃a b c d e f,cs=[.int .i64 a,.int .i64 b,.int .i64 c,.int .i64 d,.int .i64 e,.int .i64 f]:=by
 match cs,hl with
 | [c0,c1,c2,c3,c4,c5],_=>
  simp at e1 e2 e3;exact ⟨a,b,c,d,e,f,by rw [e1.1,e1.2,e2.1,e2.2,e3.1,e3.2]⟩
section
variable {H : Type} {enc : TypeId × Value → H} {w : World} {base : Nat} {spare : Nat → Bool} {held : Bool}
theorem sB {n:Nat} {cs:List Value} {x:DataW H×List MemPlace} (h:DataW.trod enc aaZ w base spare held n 23 cs=some x):∃a b,cs=[.int .i64 a,.int .i64 b]:=by
 obtain ⟨y0,y1,m,_,hl,h0,h1⟩:=trod_struct2 Tryz.underlying23 h;have hc:aaZ.cellsOf 23=2:=by kernel_rfl
 have h3:aaZ.cellsOf 3=1:=by kernel_rfl
 rw [hc] at hl;obtain ⟨s,e1,_⟩:=DataW.trod_int Tryz.underlying3 h0;obtain ⟨t,e2,_⟩:=DataW.trod_int Tryz.underlying3 h1;rw [h3] at e1 e2;exact two_cells hl e1 e2
theorem tri_cells {n:Nat} {cs:List Value} {x:DataW H×List MemPlace} (h:DataW.trod enc aaZ w base spare held n 25 cs=some x):∃a b c d e f,cs=[.int .i64 a,.int .i64 b,.int .i64 c,.int .i64 d,.int .i64 e,.int .i64 f]:=by
 obtain ⟨y0,y1,y2,m,_,hl,h0,h1,h2⟩:=Go.Deep.trod_struct3 Tryz.underlying25 h;have hc:aaZ.cellsOf 25=6:=by kernel_rfl
 have h3:aaZ.cellsOf 23=2:=by kernel_rfl
 rw [hc] at hl;obtain ⟨a,b,e1⟩:=sB h0;obtain ⟨c,d,e2⟩:=sB h1;obtain ⟨e,f,e3⟩:=sB h2;rw [h3] at e1 e2 e3;exact six_cells hl e1 e2 e3
theorem open_tri {r:Reach} {b0:Nat} {v:Value} {d:DataW H} {p:List MemPlace} (hv:Value.okWide aaZ w r b0 25 v) (h:DataW.Trod enc aaZ w base spare held 25 v d p):
  ∃a b c d e f,v=.agg #[.int .i64 a,.int .i64 b,.int .i64 c,.int .i64 d,.int .i64 e,.int .i64 f]:=by
 obtain ⟨cs,rfl,_⟩:=okWide_struct Tryz.underlying25 hv;obtain ⟨fuel,hf⟩:=h;obtain ⟨a,b,c,d,e,f,q⟩:=tri_cells hf;have e':cs= #[.int .i64 a,.int .i64 b,.int .i64 c,.int .i64 d,.int .i64 e,.int .i64 f]:=Array.toList_inj.1 q;exact ⟨a,b,c,d,e,f,by rw [e']⟩
end
theorem glob_met {W:World} (h:laidMetH aaZ [("almucantar/halfangle.quarter",zq)] W):Ev.eJ W:=by
 rw [MakeChecks.laidMetH_plain _ _ _ (by kernel_rfl)] at h;obtain ⟨ps,⟨g0,t0,cs0,f0,p0,q0,hg0,ht0,hv0,hd0,_,_⟩,_,_⟩:=h;obtain rfl:=afZ.inj ((show aaZ.globalNamed "almucantar/halfangle.quarter" =some 0 by kernel_rfl).symm.trans hg0);obtain rfl:=afZ.inj ((show (aaZ.globals[0]?).map (·.type)=some 23 by kernel_rfl).symm.trans ht0);obtain ⟨y0,y1,m,hx,hl,h0,h1⟩:=trod_struct2 Tryz.underlying23 hd0;have hc:aaZ.cellsOf 23=2:=by kernel_rfl
 have h3:aaZ.cellsOf 3=1:=by kernel_rfl
 rw [hc] at hl;obtain ⟨s,e1,e1',_⟩:=DataW.trod_int Tryz.underlying3 h0;obtain ⟨t,e2,e2',_⟩:=DataW.trod_int Tryz.underlying3 h1;rw [h3] at e1 e2;subst e1' e2';simp only [zq,Prod.mk.injEq,DataW.agg.injEq,List.cons.injEq,DataW.lit.injEq,Lit.int.injEq,true_and,and_true] at hx;obtain ⟨⟨rfl,rfl⟩,_⟩:=hx;obtain ⟨a,b,hab,ha,hb⟩:∃a b,cs0.toList=[.int .i64 a,.int .i64 b]∧a=5400000∧b=5400000:=by
  match hcs:cs0.toList,hl with
  | [c0,c1],_=>
   rw [hcs] at e1 e2;simp at e1 e2;exact ⟨5400000,5400000,by rw [e1,e2],rfl,rfl⟩
 subst ha hb;intro e he;have he':e=(0,[.int .i64 5400000,.int .i64 5400000]):=by simpa [Ev.GS] using he
 subst he';unfold World.var? at hv0;rw [hg0] at hv0;simp only [Option.bind_some] at hv0;split at hv0
 ·rename_i cs ty fz hh;cases hv0;refine ⟨ty,fz,?_⟩;rw [hh];obtain ⟨l⟩:=cs0;simp only at hab;subst hab;rfl
 ·cases hv0
theorem door_met (os:Os) (args:Array Value):laidMetH aaZ [("almucantar/halfangle.quarter",zq)] ((World.doorLaid aaZ 400 os).forCall (fun _ _=>0) ⟨#[],args,[]⟩).memory:=
 laidMetH_of_parts3 (fuel:=8) (laidMet_of_run' 8 (by kernel_rfl) (by kernel_rfl)) (by kernel_rfl) (by kernel_rfl)
theorem tp_lifted (os:Os) (started:os.Started) (H:Type) (enc:TypeId×Value→H):
  ReturnsInHanded {} Tryz.checked os 3 .any (fun w args=>(Rows.topMethodsSpec.pre enc aaZ Tryz.f3 [] false w args∧laidMetH aaZ [("almucantar/halfangle.quarter",zq)] w)∧sizedMet enc aaZ Tryz.f3 (OpenSpec.ofChange Rows.topMethodsSpec) false w args)
   (Rows.topMethodsSpec.post enc aaZ Tryz.f3 false true false false):=by
 refine returnsInHanded_of_change_and (C:=Tryz.checked) (X:=fun w _=>laidMetH aaZ [("almucantar/halfangle.quarter",zq)] w) (fun _ _ _ hh h=>h.of_heap hh) Tryz.own started (by kernel_rfl) Tryz.func3
  (ChangeSpec.witness_shaped (enc:=enc) (C:=Tryz.checked) (os:=os) (X:=fun w _=>laidMetH aaZ [("almucantar/halfangle.quarter",zq)] w) false (World.doorLaid aaZ 400 os) #[.agg #[.int .i64 0,.int .i64 0,.int .i64 0,.int .i64 0,.int .i64 0,.int .i64 0],.int .u32 0,.int .u32 0,.int .u32 0] 8 rfl (World.shaped_of_RefB (by kernel_rfl) (by kernel_rfl)) (by kernel_rfl) (by kernel_rfl) (by kernel_rfl) (door_met os _)) ?_
 intro W base args ds gs before hval0 hW _ _ hL _;have hval:∀(j:Nat) t v,Tryz.f3.params[j]? =some t→args[j]? =some v→Value.okWide aaZ W .any base t v:=hval0;have hW':=hW;obtain ⟨p,q,hA0,hV,rfl,hfz,hnd⟩:=hW;have hA:DataW.TrodAll enc aaZ W 0 (fun _=>true) true Tryz.f3.params.toList args.toList ds p:=hA0;have hAk:=hA;rw [Tryz.params3] at hA hval;obtain ⟨v0,v1,v2,v3,d0,d1,d2,d3,p0,p1,p2,p3,rfl,rfl,rfl,h0,h1,h2,h3⟩:=trodAll_four hA;obtain ⟨rfl,rfl⟩:=trodVars_none hV;obtain ⟨a,b,c,d,e,f,rfl⟩:=open_tri (hval 0 25 v0 rfl rfl) h0;obtain ⟨u,rfl,rfl,rfl,w1⟩:=open_int Tryz.underlying26 (hval 1 26 v1 rfl rfl) h1;have b1:0≤u∧u≤4294967295:=by
  have h1:IntKind.u32.min=0:=rfl;have h2:IntKind.u32.max=4294967295:=rfl;simp only [Lit.wf,Bool.and_eq_true,decide_eq_true_eq] at w1;omega
 obtain ⟨v,rfl,rfl,rfl,w2⟩:=open_int Tryz.underlying26 (hval 2 26 v2 rfl rfl) h2;have b2:0≤v∧v≤4294967295:=by
  have h1:IntKind.u32.min=0:=rfl;have h2:IntKind.u32.max=4294967295:=rfl;simp only [Lit.wf,Bool.and_eq_true,decide_eq_true_eq] at w2;omega
 obtain ⟨w,rfl,rfl,rfl,w3⟩:=open_int Tryz.underlying26 (hval 3 26 v3 rfl rfl) h3;have b3:0≤w∧w≤4294967295:=by
  have h1:IntKind.u32.min=0:=rfl;have h2:IntKind.u32.max=4294967295:=rfl;simp only [Lit.wf,Bool.and_eq_true,decide_eq_true_eq] at w3;omega
 simp only [List.append_nil] at hW' hAk;refine (top_any a b c d e f u v w b1 b2 b3 W (glob_met hL)).mono fun e W' ⟨he,hw⟩=>?_;subst he;exact ⟨_,rfl,law_post hW' rfl hAk rfl rfl rfl rfl (by rw [Tryz.params3];decide+kernel) hw⟩
theorem tp_holds:Rows.TopMethodsSaid:=
 OpenClaim.holds_of_wide 3 Tryz.f3 rfl rfl rfl rfl rfl rfl rfl ⟨rfl,rfl,rfl,rfl,rfl⟩ rfl rfl rfl rfl rfl (by kernel_rfl) Tryz.func3 (by kernel_rfl)
  (of_decide_eq_true (by kernel_rfl)) (by unfold Func.isWrapper;first | (rw [if_pos (by decide+kernel)];kernel_rfl) | (rw [if_neg (by decide+kernel)];exact ⟨rfl,rfl⟩))
  (fun os started H enc _=>tp_lifted os started H enc)
#print axioms tp_holds
theorem tp_card:Rows.TopMethodsCardSaid:=
 Claim7.holds_tied_plain_at .later [] [.data] true (true,"dfdbc5353478c536fa1e5084cc8046dff1467993da26b875cb9779bebc5c1139") false
  tp_holds (fun _ h=>by cases h) (by kernel_rfl) (fun _ h=>by cases h) topMethods_row_tie rfl ⟨rfl,rfl⟩ (by kernel_rfl) rfl
  (fun f fn hf hfn=>by
   obtain rfl:f=3:=afZ.inj ((show aaZ.funcNamed "almucantar/almucantartop.TopMethods" =some 3 by kernel_rfl).symm.trans hf) |>.symm;obtain rfl:fn=Tryz.f3:=(afZ.inj (Tryz.func3.symm.trans hfn)).symm;exact ⟨by kernel_rfl,fun j t ht=>by
    rw [Tryz.params3] at ht;have hm:t∈[25,26,26,26]:=by simpa using Array.mem_of_getElem? ht
    have hall:([25,26,26,26].all fun u=> !aaZ.wantsStandIn u)=true:=by kernel_rfl
    exact (show aaZ.wantsStandIn t=false by simpa using List.all_eq_true.1 hall t hm)⟩)
  (by kernel_rfl)
#print axioms tp_card
end Go.Proofs.YtajpgkpdhcbngaaGreatDoor
