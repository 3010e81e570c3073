/-
  From a law's walk to its row: every law here answers true and leaves all old memory as it was.
-/
import Derived.Test.YtlbklncoihhfcaaGreatDoorRows
import Derived.WalkKit
import Derived.Below
import Derived.Lib.Hide
import Derived.ProofKit
import Derived.Lib.SmallJoins
set_option maxRecDepth 100000
set_option maxHeartbeats 4000000
open _root_.List renaming append_nil→agX
open Go.Proofs.Tryz renaming prog→zB
namespace Go.Proofs.YtlbklncoihhfcaaGreatDoor
open Go.ChangeShapes Go.WideShapes Go.ChangeAt Go.RowKit Go.Joins
theorem Tryz.own:ownKnob zB.godebug=none:=by kernel_rfl
theorem Tryz.laidOut:laidOutB zB=true:=by kernel_rfl
section
variable {H : Type} {enc : TypeId × Value -> H} {P : Program}
theorem QL(j:laidOutB P=true){W g:World}(i:Below W.heap.size W g):
  ∀{ts:List TypeId} {vs:List Value} {e:List (DataW H)} {b:List MemPlace},(∀t∈ts,P.readableRec t=true/\t<P.types.size)->(∀x∈b,x.block<W.heap.size)->
   DataW.TrodAll enc P W 0 (fun _=>true) true ts vs e b->∀c:Nat->Bool,(∀x∈b,c x.block=true)->DataW.TrodAll enc P g 0 c true ts vs e b
 | [],[],[],_,_,_,h,_,_=>h
 |t::ts,v::vs,d::e,b,f,k,h,c,l=>by
  obtain⟨p,q,m,n,rfl⟩:=h;exact⟨p,q,WideElems.Trod_stays j (f t (by simp)).1 (f t (by simp)).2 m (fun x a=>i.same (k x (by simp[a]))) (fun x a=>l x (by simp[a])),
   QL j i (fun t o=>f t (by simp[o])) (fun x a=>k x (by simp[a])) n c (fun x a=>l x (by simp[a])),rfl⟩
 | [],[],_::_,_,_,_,h,_,_=>h.elim
 | [],_::_,_,_,_,_,h,_,_=>h.elim
 |_::_,[],_,_,_,_,h,_,_=>h.elim
 |_::_,_::_,[],_,_,_,h,_,_=>h.elim
theorem OM{f:Func}{s:ChangeSpec}{apart fresh c k:Bool}{W m:World}{args:Array Value}{v:Value}{n o:List (DataW H)}{a pa pv:List MemPlace}
  (w:DataW.Whole enc P f.params.toList s.vars apart W args.toList n o a)
  (i:∀(b:Nat) (l:Nat->Bool) (A:Bool),DataW.TrodAll enc P m b l A f.resultTypes.toList (v.resultList f.resultTypes.size) (s.fn H (n++o)).results [])
  (d:∀l:Nat->Bool,(∀p∈a,l p.block=true)->DataW.TrodAll enc P m 0 l true f.params.toList args.toList (s.fn H (n++o)).args pa)
  (g:∀l:Nat->Bool,(∀p∈a,l p.block=true)->DataW.TrodVars enc P m l s.vars (s.fn H (n++o)).vars pv)
  (h:a=pa++pv)(y:Below W.heap.size W m)
  (x:∀(j:Nat) (t:TypeId) (r:Value),f.resultTypes[j]? =some t->(v.resultList f.resultTypes.size)[j]? =some r->Value.okWide P m .any 0 t r):
  s.post enc P f apart fresh c k W args v m:=by
 have u:∀p∈a,p.block<W.heap.size:=fun p e=>w.lt p e;have hold:∀p∈a,(fun b=>decide (b<W.heap.size)) p.block=true:=fun p e=>by simpa using u p e
 refine⟨n,o,a,[],pa,pv,w,i _ _ _,d _ hold,g _ hold,World.keptBut_mono (fun p e=>⟨e,?_⟩) (y.frame (· ∈a)),fun _=>?_⟩
 ·rw[h,List.mem_append]at e;exact Or.inr e
 ·obtain⟨_,_,_,_,_,D,B⟩:=w;refine⟨x,_,_,([]++pa)++pv,⟨[]++pa,pv,trodAll_append (d _ (fun _ _=>rfl)) (i _ _ _),g _ (fun _ _=>rfl),rfl,?_,?_⟩,?_⟩
  ·intro b off e;have q:MemPlace.cell b off∈a:=by rw[h];simpa using e
   rw[y.frozen (u _ q)];exact D b off q
  ·intro z;have:=B z;rw[h]at this;simpa using this
  ·intro p e _;rw[h];simpa using e
end
section
variable {H : Type} {enc : TypeId × Value -> H}
theorem Xx{f:Func}{s:ChangeSpec}{W l:World}{args:Array Value}{g:List (DataW H)}{a:List MemPlace}
  (m:DataW.Whole enc zB f.params.toList s.vars false W args.toList g [] a)(u:s.vars=[])
  (q:DataW.TrodAll enc zB W 0 (fun _=>true) true f.params.toList args.toList g a)
  (o:f.resultTypes= #[4])(h:(s.fn H g).results=[.lit (.bool true)])(c:(s.fn H g).args=g)(e:(s.fn H g).vars=[])
  (d:∀t∈f.params.toList,zB.readableRec t=true/\t<zB.types.size)(n:Below W.heap.size W l):
  s.post enc zB f false true false false W args (.bool true) l:=by
 have i:∀p∈a,p.block<W.heap.size:=fun p r=>m.lt p r;refine OM (pa:=a) (pv:=[]) m ?_ ?_ ?_ (by simp) n (ok_one o rfl (okWide_bool_mk Tryz.underlying4 true))
 ·intro b k v;rw[agX,h,o];exact trodAll_mk1 (shut_bool Tryz.underlying4 true)
 ·intro k j;rw[agX,c];exact QL Tryz.laidOut n d i q k j
 ·intro k _;rw[agX,e,u];exact rfl
end
end Go.Proofs.YtlbklncoihhfcaaGreatDoor
