/-
  The runs of region.meets at the boxes of the example.
-/
import Derived.Test.YtajpgkpdhcbngaaGreatDoorU19
set_option maxRecDepth 100000
set_option maxHeartbeats 4000000
open Go.Proofs.Tryz renaming prog→aaZ
namespace Go.Proofs.YtajpgkpdhcbngaaGreatDoor
open Ev
def sc (e:Int×Int×Int×Int×Bool):Int×Int×Int×Int×Bool:=(25000*e.1,25000*e.2.1,25000*e.2.2.1,25000*e.2.2.2.1,e.2.2.2.2)
noncomputable def mtR (e:Int×Int×Int×Int×Bool):Option AV:=evF aaZ Et Cs bkA 20 6 202 [.v (.agg ⟨[.int .i64 0,.int .i64 3000000,.int .i64 0,.int .i64 5400000]⟩),.v (.agg ⟨[.int .i64 e.1,.int .i64 e.2.1,.int .i64 e.2.2.1,.int .i64 e.2.2.2.1]⟩)] [] [] YF
def isB:Option AV→Bool→Bool
 | some (.v (.bool a)),b=>a==b
 | _,_=>false
theorem isB_eq {r:Option AV} {b:Bool} (h:isB r b=true):r=some (.v (.bool b)):=by
 unfold isB at h;split at h
 ·rw [eq_of_beq h]
 ·cases h
def mt0:List (Int×Int×Int×Int×Bool):=[(-216,216,-432,0,true),(-216,0,-432,-216,false),(-216,0,-216,0,true),(-216,-108,-216,-108,false),(-216,-108,-108,0,false),(-108,0,-216,-108,false),(-108,0,-108,0,true),(-108,-54,-108,-54,false),(-108,-54,-54,0,false),(-54,0,-108,-54,false),(-54,0,-54,0,true),(-54,-27,-54,-27,false),(-54,-27,-27,0,false),(-27,0,-54,-27,false),(-27,0,-27,0,true),(0,216,-432,-216,false),(0,216,-216,0,true),(0,108,-216,-108,false),(0,108,-108,0,true),(0,54,-108,-54,false),(0,54,-54,0,true),(0,27,-54,-27,false),(0,27,-27,0,true),(27,54,-54,-27,false),(27,54,-27,0,true),(54,108,-108,-54,false),(54,108,-54,0,true),(54,81,-54,-27,false),(54,81,-27,0,true),(81,108,-54,-27,false),(81,108,-27,0,true),(108,216,-216,-108,false),(108,216,-108,0,true),(108,162,-108,-54,false),(108,162,-54,0,true)].map sc
theorem mt0_ok:(mt0.all fun e=>isB (mtR e) e.2.2.2.2)=true:=by kernel_rfl
def mt1:List (Int×Int×Int×Int×Bool):=[(108,135,-54,-27,false),(108,135,-27,0,true),(135,162,-54,-27,false),(135,162,-27,0,false),(162,216,-108,-54,false),(162,216,-54,0,false),(-216,216,0,432,true),(-216,0,0,216,true),(-216,-108,0,108,false),(-216,-108,108,216,false),(-108,0,0,108,true),(-108,-54,0,54,false),(-108,-54,54,108,false),(-54,0,0,54,true),(-54,-27,0,27,false),(-54,-27,27,54,false),(-27,0,0,27,true),(-27,0,27,54,true),(-54,0,54,108,true),(-54,-27,54,81,false),(-54,-27,81,108,false),(-27,0,54,81,true),(-27,0,81,108,true),(-108,0,108,216,true),(-108,-54,108,162,false),(-108,-54,162,216,false),(-54,0,108,162,true),(-54,-27,108,135,false),(-54,-27,135,162,false),(-27,0,108,135,true),(-27,0,135,162,true),(-54,0,162,216,true),(-54,-27,162,189,false),(-54,-27,189,216,false),(-27,0,162,189,true)].map sc
theorem mt1_ok:(mt1.all fun e=>isB (mtR e) e.2.2.2.2)=true:=by kernel_rfl
def mt2:List (Int×Int×Int×Int×Bool):=[(-27,0,189,216,true),(-216,0,216,432,true),(-216,-108,216,324,false),(-216,-108,324,432,false),(-108,0,216,324,true),(-108,-54,216,270,false),(-108,-54,270,324,false),(-54,0,216,270,true),(-54,-27,216,243,false),(-54,-27,243,270,false),(-27,0,216,243,true),(-27,0,243,270,false),(-54,0,270,324,false),(-108,0,324,432,false),(0,216,0,216,true),(0,108,0,108,true),(0,108,108,216,true),(108,216,0,108,true),(108,162,0,54,true),(108,135,0,27,true),(108,135,27,54,true),(135,162,0,27,false),(135,162,27,54,false),(108,162,54,108,true),(108,135,54,81,true),(108,135,81,108,true),(135,162,54,81,false),(135,162,81,108,false),(162,216,0,54,false),(162,216,54,108,false),(108,216,108,216,true),(108,162,108,162,true),(108,135,108,135,true),(108,135,135,162,true),(135,162,108,135,false)].map sc
theorem mt2_ok:(mt2.all fun e=>isB (mtR e) e.2.2.2.2)=true:=by kernel_rfl
def mt3:List (Int×Int×Int×Int×Bool):=[(135,162,135,162,false),(108,162,162,216,true),(108,135,162,189,true),(108,135,189,216,true),(135,162,162,189,false),(135,162,189,216,false),(162,216,108,162,false),(162,216,162,216,false),(0,216,216,432,true),(0,108,216,324,true),(0,54,216,270,true),(0,27,216,243,true),(0,27,243,270,false),(27,54,216,243,true),(27,54,243,270,false),(0,54,270,324,false),(54,108,216,270,true),(54,81,216,243,true),(54,81,243,270,false),(81,108,216,243,true),(81,108,243,270,false),(54,108,270,324,false),(0,108,324,432,false),(108,216,216,324,true),(108,162,216,270,true),(108,135,216,243,true),(108,135,243,270,false),(135,162,216,243,false),(135,162,243,270,false),(108,162,270,324,false),(162,216,216,270,false),(162,216,270,324,false),(108,216,324,432,false)].map sc
theorem mt3_ok:(mt3.all fun e=>isB (mtR e) e.2.2.2.2)=true:=by kernel_rfl
def mtT:List (Int×Int×Int×Int×Bool):=mt0++mt1++mt2++mt3
theorem mt_ok:(mtT.all fun e=>isB (mtR e) e.2.2.2.2)=true:=by
 unfold mtT;simp only [List.all_append,mt0_ok,mt1_ok,mt2_ok,mt3_ok,Bool.and_true]
def mtM (e f u v:Int) (q:Int×Int×Int×Int×Bool):Bool:=q.1==e&&(q.2.1==f&&(q.2.2.1==u&&q.2.2.2.1==v))
def mtP (a b c d e f u v:Int):Bool:=(a==0&&(b==3000000&&(c==0&&d==5400000)))&&mtT.any (mtM e f u v)
def mtG:List (Int×Int×Int×Int×Bool)→Int→Int→Int→Int→Bool
 | [],_,_,_,_=>false
 | q::l,e,f,u,v=>cond (mtM e f u v q) q.2.2.2.2 (mtG l e f u v)
theorem mtG_at:∀(l:List (Int×Int×Int×Int×Bool)) (e f u v:Int),l.any (mtM e f u v)=true→∃q∈l,q=(e,f,u,v,mtG l e f u v)
 | [],_,_,_,_,h=>by simp at h
 | q::l,e,f,u,v,h=>by
  unfold mtG;cases hb:mtM e f u v q with
  | true=>
   have:=hb;unfold mtM at this;simp only [Bool.and_eq_true,beq_iff_eq] at this;obtain ⟨rfl,rfl,rfl,rfl⟩:=this;exact ⟨q,List.mem_cons_self,rfl⟩
  | false=>
   rw [List.any_cons,hb] at h;obtain ⟨q',h1,h2⟩:=mtG_at l e f u v h;exact ⟨q',List.mem_cons_of_mem _ h1,h2⟩
theorem mt_gives (a b c d e f u v:Int) (h:mtP a b c d e f u v=true):aH aaZ 202 [.agg ⟨[.int .i64 a,.int .i64 b,.int .i64 c,.int .i64 d]⟩,.agg ⟨[.int .i64 e,.int .i64 f,.int .i64 u,.int .i64 v]⟩] (.bool (mtG mtT e f u v)):=by
 unfold mtP at h;simp only [Bool.and_eq_true,beq_iff_eq] at h;obtain ⟨⟨rfl,rfl,rfl,rfl⟩,h5⟩:=h;obtain ⟨q,h1,h2⟩:=mtG_at mtT e f u v h5;have h3:=isB_eq (List.all_eq_true.1 mt_ok q h1);generalize mtG mtT e f u v=r at*;subst h2;exact BR (vs:=[.agg ⟨[.int .i64 0,.int .i64 3000000,.int .i64 0,.int .i64 5400000]⟩,.agg ⟨[.int .i64 e,.int .i64 f,.int .i64 u,.int .i64 v]⟩]) mixed Et_ok GF rN h3
noncomputable def bkM:bJ:=(202,eSSif mtP fun _ _ _ _ e f u v=>.bool (mtG mtT e f u v))::bkA
theorem bkM_ok:aJ aaZ bkM:=aA (eSSif_ok mt_gives) rN
end Go.Proofs.YtajpgkpdhcbngaaGreatDoor
