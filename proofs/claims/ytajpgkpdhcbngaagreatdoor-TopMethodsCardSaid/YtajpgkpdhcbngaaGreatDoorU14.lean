/-
  The tables: what each function gives. The cosine formula holds the true altitude and azimuth. No program here. Small angles, distances on the sphere. No program here. Distances on the sphere:.
-/
import Derived.Test.YtajpgkpdhcbngaaGreatDoorU12
import Derived.Test.YtajpgkpdhcbngaaGreatDoorU13
import Derived.Test.YtajpgkpdhcbngaaGreatDoorU11
set_option maxRecDepth 100000
set_option maxHeartbeats 4000000
open _root_.Int renaming le_refl→abJ,tdiv→arZ,tmod→asZ
open _root_.Rat renaming intCast_add→acQ,intCast_neg→afQ,le_total→abX,mul_nonneg→aaQ
open Go.Proofs.Tryz renaming prog→aaZ
open Go.IntKind (i64 u64)
namespace Go.Proofs.YtajpgkpdhcbngaaGreatDoor
noncomputable section
section
open Ev
open Ev (lt)
def degV (r:Int×Int×Int×Bool):Value:=.tuple ⟨[.int .i64 r.1,aG r.2.1 r.2.2.1,.bool r.2.2.2]⟩
def thrI (r:Int×Int×Int):Value:=.tuple ⟨[.int .i64 r.1,.int .i64 r.2.1,.int .i64 r.2.2]⟩
def qiV (r:Int×Int):Value:=.tuple ⟨[.int .i64 r.1,.int .i64 r.2,.int .i64 0]⟩
def xC (x n d:Int):Int×Int:=(WO (x*n) d,ceQ (x*n) d)
theorem encQ_gives (x n d:Int) (hp:IT x n d=true):aH aaZ 129 [.int .i64 x,.int .i64 n,.int .i64 d] (qiV (xC x n d)):=qenc_any x n d hp
def eIIIif (p:Int→Int→Int→Bool) (F:Int→Int→Int→Value):zC
 | [.v (.int .i64 a),.v (.int .i64 b),.v (.int .i64 c)],[]=>some (p a b c,.v (F a b c),[])
 | _,_=>none
theorem eIIIif_ok {P:Program} {g:FuncId} {p:Int→Int→Int→Bool} {F:Int→Int→Int→Value} (h:∀a b c,p a b c=true→aH P g [.int .i64 a,.int .i64 b,.int .i64 c] (F a b c)) (args:List AV) (L:Ev.cF) (z:Bool) (r:AV) (L':Ev.cF) (q:eIIIif p F args L=some (z,r,L')) (hz:z=true):fI P g args L r L':=by
 unfold eIIIif at q;split at q
 ·cases q;exact cS (h _ _ _ hz)
 ·cases q
def ePPIif (p:Int→Int→Int→Int→Int→Bool) (F:Int→Int→Int→Int→Int→Value):zC
 | [.v (.agg ⟨[.int .i64 a,.int .i64 b]⟩),.v (.agg ⟨[.int .i64 c,.int .i64 d]⟩),.v (.int .i64 e)],[]=>some (p a b c d e,.v (F a b c d e),[])
 | _,_=>none
theorem ePPIif_ok {P:Program} {g:FuncId} {p:Int→Int→Int→Int→Int→Bool} {F:Int→Int→Int→Int→Int→Value} (h:∀a b c d e,p a b c d e=true→aH P g [.agg ⟨[.int .i64 a,.int .i64 b]⟩,.agg ⟨[.int .i64 c,.int .i64 d]⟩,.int .i64 e] (F a b c d e)) (args:List AV) (L:Ev.cF) (z:Bool) (r:AV) (L':Ev.cF) (q:ePPIif p F args L=some (z,r,L')) (hz:z=true):fI P g args L r L':=by
 unfold ePPIif at q;split at q
 ·cases q;exact cS (h _ _ _ _ _ hz)
 ·cases q
def ePPI (F:Int→Int→Int→Int→Int→Value):zC
 | [.v (.agg ⟨[.int .i64 a,.int .i64 b]⟩),.v (.agg ⟨[.int .i64 c,.int .i64 d]⟩),.v (.int .i64 e)],[]=>some (true,.v (F a b c d e),[])
 | _,_=>none
theorem ePPI_ok {P:Program} {g:FuncId} {F:Int→Int→Int→Int→Int→Value} (h:∀a b c d e,aH P g [.agg ⟨[.int .i64 a,.int .i64 b]⟩,.agg ⟨[.int .i64 c,.int .i64 d]⟩,.int .i64 e] (F a b c d e)) (args:List AV) (L:Ev.cF) (z:Bool) (r:AV) (L':Ev.cF) (q:ePPI F args L=some (z,r,L')) (_:z=true):fI P g args L r L':=by
 unfold ePPI at q;split at q
 ·cases q;exact cS (h _ _ _ _ _)
 ·cases q
def ePPPI (F:Int→Int→Int→Int→Int→Int→Int→Value):zC
 | [.v (.agg ⟨[.int .i64 a,.int .i64 b]⟩),.v (.agg ⟨[.int .i64 c,.int .i64 d]⟩),.v (.agg ⟨[.int .i64 e,.int .i64 f]⟩),.v (.int .i64 u)],[]=>some (true,.v (F a b c d e f u),[])
 | _,_=>none
theorem ePPPI_ok {P:Program} {g:FuncId} {F:Int→Int→Int→Int→Int→Int→Int→Value} (h:∀a b c d e f u,aH P g [.agg ⟨[.int .i64 a,.int .i64 b]⟩,.agg ⟨[.int .i64 c,.int .i64 d]⟩,.agg ⟨[.int .i64 e,.int .i64 f]⟩,.int .i64 u] (F a b c d e f u)) (args:List AV) (L:Ev.cF) (z:Bool) (r:AV) (L':Ev.cF) (q:ePPPI F args L=some (z,r,L')) (_:z=true):fI P g args L r L':=by
 unfold ePPPI at q;split at q
 ·cases q;exact cS (h _ _ _ _ _ _ _)
 ·cases q
def eSSPP (F:Int→Int→Int→Int→Int→Int→Int→Int→Int→Int→Int→Int→Value):zC
 | [.v (.agg ⟨[.int .i64 a,.int .i64 b,.int .i64 c,.int .i64 d]⟩),.v (.agg ⟨[.int .i64 e,.int .i64 f,.int .i64 u,.int .i64 v]⟩),.v (.agg ⟨[.int .i64 w,.int .i64 x]⟩),.v (.agg ⟨[.int .i64 y,.int .i64 z]⟩)],[]=>some (true,.v (F a b c d e f u v w x y z),[])
 | _,_=>none
theorem eSSPP_ok {P:Program} {g:FuncId} {F:Int→Int→Int→Int→Int→Int→Int→Int→Int→Int→Int→Int→Value} (h:∀a b c d e f u v w x y z,aH P g [.agg ⟨[.int .i64 a,.int .i64 b,.int .i64 c,.int .i64 d]⟩,.agg ⟨[.int .i64 e,.int .i64 f,.int .i64 u,.int .i64 v]⟩,.agg ⟨[.int .i64 w,.int .i64 x]⟩,.agg ⟨[.int .i64 y,.int .i64 z]⟩] (F a b c d e f u v w x y z)) (args:List AV) (L:Ev.cF) (z:Bool) (r:AV) (L':Ev.cF) (q:eSSPP F args L=some (z,r,L')) (_:z=true):fI P g args L r L':=by
 unfold eSSPP at q;split at q
 ·cases q;exact cS (h _ _ _ _ _ _ _ _ _ _ _ _)
 ·cases q
def eSSP (F:Int→Int→Int→Int→Int→Int→Int→Int→Int→Int→Value):zC
 | [.v (.agg ⟨[.int .i64 a,.int .i64 b,.int .i64 c,.int .i64 d]⟩),.v (.agg ⟨[.int .i64 e,.int .i64 f,.int .i64 u,.int .i64 v]⟩),.v (.agg ⟨[.int .i64 w,.int .i64 x]⟩)],[]=>some (true,.v (F a b c d e f u v w x),[])
 | _,_=>none
theorem eSSP_ok {P:Program} {g:FuncId} {F:Int→Int→Int→Int→Int→Int→Int→Int→Int→Int→Value} (h:∀a b c d e f u v w x,aH P g [.agg ⟨[.int .i64 a,.int .i64 b,.int .i64 c,.int .i64 d]⟩,.agg ⟨[.int .i64 e,.int .i64 f,.int .i64 u,.int .i64 v]⟩,.agg ⟨[.int .i64 w,.int .i64 x]⟩] (F a b c d e f u v w x)) (args:List AV) (L:Ev.cF) (z:Bool) (r:AV) (L':Ev.cF) (q:eSSP F args L=some (z,r,L')) (_:z=true):fI P g args L r L':=by
 unfold eSSP at q;split at q
 ·cases q;exact cS (h _ _ _ _ _ _ _ _ _ _)
 ·cases q
def quoP (_a _b _c _d e:Int):Bool:=decide (-131072≤e∧e≤131072)
def KH (a b c d e:Int):Int:=mn (mn (mn (mn (WO (a*e) c) (WO (a*e) c)) (WO (a*e) d)) (WO (b*e) c)) (WO (b*e) d)
def CI (a b c d e:Int):Int:=mx (mx (mx (mx (ceQ (a*e) c) (ceQ (a*e) c)) (ceQ (a*e) d)) (ceQ (b*e) c)) (ceQ (b*e) d)
def SW (x:Int):Bool:=decide (-1099511627776≤x∧x≤1099511627776)
def nB (a b c d e:Int):Int×Int×Int:=if fS a b c d=true then (if pI c d=true then (0,0,16) else if SW (KH a b c d e)=true∧SW (CI a b c d e)=true then (KH a b c d e,CI a b c d e,0) else (0,0,5)) else (0,0,1)
theorem quo_enc {a b c d e:Int} (h1:fS a b c d=true) (h2:pI c d=false) (hp:quoP a b c d e=true):IT a e c=true∧IT a e d=true∧IT b e c=true∧IT b e d=true:=by
 obtain ⟨b1,b2,b3,b4,b5,b6⟩:=zK h1;obtain ⟨e1,e2⟩:=of_decide_eq_true hp;have z:=of_decide_eq_false h2;refine ⟨decide_eq_true ?_,decide_eq_true ?_,decide_eq_true ?_,decide_eq_true ?_⟩<;>omega
theorem quoF_t {x:Int} (h:SW x=true):decide (x≥-1099511627776)=true∧decide (x≤1099511627776)=true:=by
 have:=of_decide_eq_true h;exact ⟨decide_eq_true (by omega),decide_eq_true (by omega)⟩
def kLk0:bJ:=(21,eT (fun a b c d e f=>.bool (dV a b c d e f)))::(25,eI (fun a=>.int .i64 (jZ a)))::(38,eT (fun a b c d e f=>cU (gQ a b c d e f)))::(65,eP (fun a b=>aP (aK a b)))::(66,eP (fun a b=>aP (aI a b)))::(67,rI (fun a b c d=>aP (bF a b c d)))::(68,rI (fun a b c d=>aP (lJ a b c d)))::(84,eI (fun a=>.int .i64 (rE a)))::(86,rI (fun a b c d=>.bool (fS a b c d)))::(128,eP (fun a b=>.bool (pI a b)))::(129,eIIIif IT (fun a b c=>qiV (xC a b c)))::[]
theorem kLk0_ok:aJ aaZ kLk0:=(aA (lO jP) (aA (IR (fun a W _=>LN a W)) (aA (lO DN) (aA (dD (fun a b W _=>LB a b W)) (aA (dD (fun a b W _=>DL a b W)) (aA (dM jM) (aA (dM sI) (aA (IR ZQ) (aA (dM pR) (aA (dD EN) (aA (eIIIif_ok encQ_gives) fE)))))))))))
theorem quoR_gives (a b c d e:Int) (hp:quoP a b c d e=true):aH aaZ 81 [.agg ⟨[.int .i64 a,.int .i64 b]⟩,.agg ⟨[.int .i64 c,.int .i64 d]⟩,.int .i64 e] (thrI (nB a b c d e)):=by
 refine aF bV kLk0_ok (t:=cond (!(fS a b c d)) (some (.v (.tuple ⟨[.int .i64 0,.int .i64 0,.int .i64 1]⟩))) (cond (decide (e≥(-1099511627776))) (cond (!(decide (e≤1099511627776))) (some (.v (.tuple ⟨[.int .i64 0,.int .i64 0,.int .i64 2]⟩))) (cond (pI c d) (some (.v (.tuple ⟨[.int .i64 0,.int .i64 0,.int .i64 16]⟩))) (lt (xC a e c) fun x1=>cond (IT a e c) (lt (xC a e d) fun x2=>cond (IT a e d) (lt (xC b e c) fun x3=>cond (IT b e c) (lt (xC b e d) fun x4=>cond (IT b e d) (cond (decide ((mn (mn (mn (mn x1.1 x1.1) x2.1) x3.1) x4.1)≥(-1099511627776))) (cond (!(decide ((mn (mn (mn (mn x1.1 x1.1) x2.1) x3.1) x4.1)≤1099511627776))) (some (.v (.tuple ⟨[.int .i64 0,.int .i64 0,.int .i64 5]⟩))) (cond (decide ((mx (mx (mx (mx x1.2 x1.2) x2.2) x3.2) x4.2)≥(-1099511627776))) (cond (!(decide ((mx (mx (mx (mx x1.2 x1.2) x2.2) x3.2) x4.2)≤1099511627776))) (some (.v (.tuple ⟨[.int .i64 0,.int .i64 0,.int .i64 5]⟩))) (some (.v (.tuple ⟨[.int .i64 (mn (mn (mn (mn x1.1 x1.1) x2.1) x3.1) x4.1),.int .i64 (mx (mx (mx (mx x1.2 x1.2) x2.2) x3.2) x4.2),.int .i64 0]⟩)))) (some (.v (.tuple ⟨[.int .i64 0,.int .i64 0,.int .i64 5]⟩))))) (some (.v (.tuple ⟨[.int .i64 0,.int .i64 0,.int .i64 5]⟩)))) (none)) (none)) (none)) (none)))) (some (.v (.tuple ⟨[.int .i64 0,.int .i64 0,.int .i64 2]⟩))))) (by kernel_rfl) ?_;unfold nB;cases h1:fS a b c d with
 | false=>rfl
 | true=>
  have hq:=of_decide_eq_true hp;rw [decide_eq_true (show e≥-1099511627776 by omega),decide_eq_true (show e≤1099511627776 by omega)];cases h2:pI c d with
  | true=>rfl
  | false=>
   obtain ⟨q1,q2,q3,q4⟩:=quo_enc h1 h2 hp;simp only [lt,q1,q2,q3,q4,cond_true,cond_false,Bool.not_true,if_true,if_false,Bool.false_eq_true];have eL:mn (mn (mn (mn (xC a e c).1 (xC a e c).1) (xC a e d).1) (xC b e c).1) (xC b e d).1=KH a b c d e:=rfl;have eH:mx (mx (mx (mx (xC a e c).2 (xC a e c).2) (xC a e d).2) (xC b e c).2) (xC b e d).2=CI a b c d e:=rfl;rw [eL,eH];generalize KH a b c d e=L;generalize CI a b c d e=H;cases f1:SW L with
   | true=>
    obtain ⟨r1,r2⟩:=quoF_t f1;rw [r1,r2];cases f2:SW H with
    | true=>
     obtain ⟨r3,r4⟩:=quoF_t f2;rw [r3,r4];simp [thrI]
    | false=>
     have:=of_decide_eq_false f2;by_cases r3:H≥-1099511627776
     ·rw [decide_eq_true r3,decide_eq_false (show ¬H≤1099511627776 by omega)];simp [thrI]
     ·rw [decide_eq_false r3];simp [thrI]
   | false=>
    have:=of_decide_eq_false f1;by_cases r3:L≥-1099511627776
    ·rw [decide_eq_true r3,decide_eq_false (show ¬L≤1099511627776 by omega)];simp [thrI]
    ·rw [decide_eq_false r3];simp [thrI]
def dnP (_a b:Int):Bool:=decide (0<b)
def NG (a b:Int):Int:=cond (decide (asZ a b<0)) (i64.wrap (i64.wrap (arZ a b)-1)) (i64.wrap (arZ a b))
def kLk1:bJ:=(81,ePPIif quoP (fun a b c d e=>thrI (nB a b c d e)))::kLk0
theorem kLk1_ok:aJ aaZ kLk1:=(aA (ePPIif_ok quoR_gives) kLk0_ok)
theorem dnI_gives (a b:Int) (hp:dnP a b=true):aH aaZ 75 [.int .i64 a,.int .i64 b] (.int .i64 (NG a b)):=by
 refine aF bV kLk1_ok (t:=cond (b==0) (none) (cond (b==0) (none) (cond (decide ((asZ a b)<0)) (some (.v (.int .i64 (i64.wrap ((i64.wrap (arZ a b))-1))))) (some (.v (.int .i64 (i64.wrap (arZ a b)))))))) (by kernel_rfl) ?_;have hb:=of_decide_eq_true hp;have e0:(b==0)=false:=beq_eq_false_iff_ne.2 (by omega);rw [e0];simp only [cond_false];unfold NG;cases decide (asZ a b<0)<;>rfl
def upI (a b:Int):Int:=i64.wrap (0-NG (i64.wrap (0-a)) b)
def kLk2:bJ:=(75,tE dnP (fun a b=>.int .i64 (NG a b)))::kLk1
theorem kLk2_ok:aJ aaZ kLk2:=(aA (kM dnI_gives) kLk1_ok)
theorem upI_gives (a b:Int) (hp:dnP a b=true):aH aaZ 82 [.int .i64 a,.int .i64 b] (.int .i64 (upI a b)):=by
 refine aF bV kLk2_ok (t:=cond (dnP (i64.wrap (0-a)) b) (some (.v (.int .i64 (i64.wrap (0-(NG (i64.wrap (0-a)) b)))))) (none)) (by kernel_rfl) ?_;have hq:dnP (i64.wrap (0-a)) b=true:=hp;rw [hq];rfl
def LS (a:Int):Int×Int:=(a,a)
def kLk3:bJ:=(82,tE dnP (fun a b=>.int .i64 (upI a b)))::kLk2
theorem kLk3_ok:aJ aaZ kLk3:=(aA (kM upI_gives) kLk2_ok)
theorem onM_gives (a:Int):aH aaZ 37 [.int .i64 a] (aG (LS a).1 (LS a).2):=aF bV kLk3_ok (by kernel_rfl) rfl
def LQ (a b c d e:Int):Int×Int:=((NG (i64.wrap ((i64.wrap (a*(i64.wrap (60000-e))))+(i64.wrap (c*e)))) 60000),(upI (i64.wrap ((i64.wrap (b*(i64.wrap (60000-e))))+(i64.wrap (d*e)))) 60000))
def kLk4:bJ:=(37,eI (fun a=>aG (LS a).1 (LS a).2))::kLk3
theorem kLk4_ok:aJ aaZ kLk4:=(aA (IR onM_gives) kLk3_ok)
theorem kat_gives (a b c d e:Int):aH aaZ 130 [.agg ⟨[.int .i64 a,.int .i64 b]⟩,.agg ⟨[.int .i64 c,.int .i64 d]⟩,.int .i64 e] (aG (LQ a b c d e).1 (LQ a b c d e).2):=aF bV kLk4_ok (by kernel_rfl) rfl
def EX (a b c d e f u:Int):Int×Int:=lt (LQ a b c d e) fun x1=>lt (LQ a b c d f) fun x2=>(i64.wrap ((mn x1.1 x2.1)-u),i64.wrap ((mx x1.2 x2.2)+u))
def kLk5:bJ:=(130,ePPI (fun a b c d e=>aG (LQ a b c d e).1 (LQ a b c d e).2))::kLk4
theorem kLk5_ok:aJ aaZ kLk5:=(aA (ePPI_ok kat_gives) kLk4_ok)
theorem kov_gives (a b c d e f u:Int):aH aaZ 83 [.agg ⟨[.int .i64 a,.int .i64 b]⟩,.agg ⟨[.int .i64 c,.int .i64 d]⟩,.agg ⟨[.int .i64 e,.int .i64 f]⟩,.int .i64 u] (aG (EX a b c d e f u).1 (EX a b c d e f u).2):=aF bV kLk5_ok (by kernel_rfl) rfl
def XZ (a b:Int):Bool:=(decide (i64.wrap (b-a)≥21600000))
def kLk6:bJ:=(83,ePPPI (fun a b c d e f u=>aG (EX a b c d e f u).1 (EX a b c d e f u).2))::kLk5
theorem kLk6_ok:aJ aaZ kLk6:=(aA (ePPPI_ok kov_gives) kLk5_ok)
theorem kal_gives (a b:Int):aH aaZ 76 [.agg ⟨[.int .i64 a,.int .i64 b]⟩] (.bool (XZ a b)):=aF bV kLk6_ok (by kernel_rfl) rfl
def kar:Int×Int:=(0,21600000)
def kLk7:bJ:=(76,eP (fun a b=>.bool (XZ a b)))::kLk6
theorem kLk7_ok:aJ aaZ kLk7:=(aA (dD kal_gives) kLk6_ok)
theorem kar_gives:aH aaZ 77 [] (aG (kar).1 (kar).2):=aF bV kLk7_ok (by kernel_rfl) rfl
def ktuK {α:Type} (K:Int→Int→α) (a b:Int):α:=cond (XZ a b) (lt (kar) fun x1=>K x1.1 x1.2) (K (jZ a) (i64.wrap ((i64.wrap ((jZ a)+b))-a)))
def BA (a b:Int):Int×Int:=ktuK (fun p0 p1=>(p0,p1)) a b
def kLk8:bJ:=(77,e0 (aG (kar).1 (kar).2))::kLk7
theorem kLk8_ok:aJ aaZ kLk8:=(aA (e0_ok kar_gives) kLk7_ok)
theorem ktu_gives (a b:Int):aH aaZ 36 [.agg ⟨[.int .i64 a,.int .i64 b]⟩] (aG (BA a b).1 (BA a b).2):=by
 refine aF bV kLk8_ok (t:=ktuK (fun p0 p1=>some (.v (aG ((p0,p1)).1 ((p0,p1)).2))) a b) (by kernel_rfl) ?_;unfold BA ktuK;repeat' first | (with_reducible refine aO (fun r:Int×Int=>AV.v (aG (r).1 (r).2)) ?_ ?_) | (with_reducible refine aT (fun r:Int×Int=>AV.v (aG (r).1 (r).2)) fun _=>?_) | rfl
def khrK {α:Type} (K:Int→Int→Int→Int→α) (a b c d e f u v w x y z:Int):α:=lt (EX a b e f y z w) fun x1=>lt (kar) fun x2=>cond (!(XZ c d)) (cond (!(XZ u v)) (lt (EX c d (i64.wrap (c+(rE (i64.wrap (u-c))))) (i64.wrap ((i64.wrap ((i64.wrap (c+(rE (i64.wrap (u-c)))))+v))-u)) y z x) fun x3=>lt (BA x3.1 x3.2) fun x4=>K x1.1 x1.2 x4.1 x4.2) (K x1.1 x1.2 x2.1 x2.2)) (K x1.1 x1.2 x2.1 x2.2)
def khr (a b c d e f u v w x y z:Int):Int×Int×Int×Int:=khrK (fun p0 p1 p2 p3=>(p0,p1,p2,p3)) a b c d e f u v w x y z
def kLk9:bJ:=(36,eP (fun a b=>aG (BA a b).1 (BA a b).2))::kLk8
theorem kLk9_ok:aJ aaZ kLk9:=(aA (dD ktu_gives) kLk8_ok)
theorem khr_gives (a b c d e f u v w x y z:Int):aH aaZ 40 [.agg ⟨[.int .i64 a,.int .i64 b,.int .i64 c,.int .i64 d]⟩,.agg ⟨[.int .i64 e,.int .i64 f,.int .i64 u,.int .i64 v]⟩,.agg ⟨[.int .i64 w,.int .i64 x]⟩,.agg ⟨[.int .i64 y,.int .i64 z]⟩] (nD (khr a b c d e f u v w x y z)):=by
 refine aF bV kLk9_ok (t:=khrK (fun p0 p1 p2 p3=>some (.v (nD ((p0,p1,p2,p3))))) a b c d e f u v w x y z) (by kernel_rfl) ?_;unfold khr khrK;repeat' first | (with_reducible refine aO (fun r:Int×Int×Int×Int=>AV.v (nD (r))) ?_ ?_) | (with_reducible refine aT (fun r:Int×Int×Int×Int=>AV.v (nD (r))) fun _=>?_) | rfl
def DW (a b c d:Int):Int:=(mx (i64.wrap (b-a)) (i64.wrap ((i64.wrap ((jZ (i64.wrap (c-a)))+d))-c)))
def kLk10:bJ:=(40,eSSPP (fun a b c d e f u v w x y z=>nD (khr a b c d e f u v w x y z)))::kLk9
theorem XP:aJ aaZ kLk10:=(aA (eSSPP_ok khr_gives) kLk9_ok)
theorem kcv_gives (a b c d:Int):aH aaZ 85 [.agg ⟨[.int .i64 a,.int .i64 b]⟩,.agg ⟨[.int .i64 c,.int .i64 d]⟩] (.int .i64 (DW a b c d)):=aF bV XP (by kernel_rfl) rfl
def kdeK {α:Type} (K:Int→Int→Int→Int→Int→α) (a b c d e f u v w x:Int):α:=cond (decide (i64.wrap ((mx (mx (mx b (i64.wrap (0-a))) f) (i64.wrap (0-e)))+60000)>5100000)) (K 0 0 0 0 24) (lt (LS (i64.wrap ((mx (mx (mx b (i64.wrap (0-a))) f) (i64.wrap (0-e)))+60000))) fun x1=>lt (aK x1.1 x1.2) fun x2=>lt (LS (i64.wrap ((mx (mx (mx b (i64.wrap (0-a))) f) (i64.wrap (0-e)))+60000))) fun x3=>lt (aI x3.1 x3.2) fun x4=>lt (nB x2.1 x2.2.1 x4.1 x4.2.1 131) fun x5=>cond (x5.2.2 != 0) (K 0 0 0 0 x5.2.2) (lt (EX a b e f w x x5.2.1) fun x6=>lt (kar) fun x7=>cond (XZ c d) (K x6.1 x6.2 x7.1 x7.2 0) (cond (XZ u v) (K x6.1 x6.2 x7.1 x7.2 0) (cond (decide ((DW u v c d)<(DW c d u v))) (cond (decide ((DW u v c d)<10800000)) (lt (BA u (i64.wrap (u+(DW u v c d)))) fun x8=>K x6.1 x6.2 x8.1 x8.2 0) (K x6.1 x6.2 x7.1 x7.2 0)) (cond (decide ((DW c d u v)<10800000)) (lt (BA c (i64.wrap (c+(DW c d u v)))) fun x9=>K x6.1 x6.2 x9.1 x9.2 0) (K x6.1 x6.2 x7.1 x7.2 0))))))
def AZ (a b c d e f u v w x:Int):Int×Int×Int×Int×Int:=kdeK (fun p0 p1 p2 p3 p4=>(p0,p1,p2,p3,p4)) a b c d e f u v w x
def kLk11:bJ:=(85,rI (fun a b c d=>.int .i64 (DW a b c d)))::kLk10
theorem XQ:aJ aaZ kLk11:=(aA (dM kcv_gives) XP)
theorem kde_gives (a b c d e f u v w x:Int):aH aaZ 41 [.agg ⟨[.int .i64 a,.int .i64 b,.int .i64 c,.int .i64 d]⟩,.agg ⟨[.int .i64 e,.int .i64 f,.int .i64 u,.int .i64 v]⟩,.agg ⟨[.int .i64 w,.int .i64 x]⟩] (cU (AZ a b c d e f u v w x)):=by
 refine aF bV XQ (t:=kdeK (fun p0 p1 p2 p3 p4=>some (.v (cU ((p0,p1,p2,p3,p4))))) a b c d e f u v w x) (by kernel_rfl) ?_;unfold AZ kdeK;repeat' first | (with_reducible refine aO (fun r:Int×Int×Int×Int×Int=>AV.v (cU (r))) ?_ ?_) | (with_reducible refine aT (fun r:Int×Int×Int×Int×Int=>AV.v (cU (r))) fun _=>?_) | rfl
def kdgK {α:Type} (K:Int→Int→Int→Bool→α) (a b c d:Int):α:=cond (decide ((mn (NG a 60000) d)≥c)) (cond (decide (i64.wrap (a-(i64.wrap ((mn (NG a 60000) d)*60000)))≥0)) (K (mn (NG a 60000) d) (i64.wrap (a-(i64.wrap ((mn (NG a 60000) d)*60000)))) (i64.wrap (b-(i64.wrap ((mn (NG a 60000) d)*60000)))) (decide (i64.wrap (b-(i64.wrap ((mn (NG a 60000) d)*60000)))≤60000))) (K (mn (NG a 60000) d) (i64.wrap (a-(i64.wrap ((mn (NG a 60000) d)*60000)))) (i64.wrap (b-(i64.wrap ((mn (NG a 60000) d)*60000)))) false)) (K (mn (NG a 60000) d) (i64.wrap (a-(i64.wrap ((mn (NG a 60000) d)*60000)))) (i64.wrap (b-(i64.wrap ((mn (NG a 60000) d)*60000)))) false)
def kdg (a b c d:Int):Int×Int×Int×Bool:=kdgK (fun p0 p1 p2 p3=>(p0,p1,p2,p3)) a b c d
def kLk12:bJ:=(41,eSSP (fun a b c d e f u v w x=>cU (AZ a b c d e f u v w x)))::kLk11
theorem XR:aJ aaZ kLk12:=(aA (eSSP_ok kde_gives) XQ)
theorem kdg_gives (a b c d:Int):aH aaZ 35 [.agg ⟨[.int .i64 a,.int .i64 b]⟩,.int .i64 c,.int .i64 d] (degV (kdg a b c d)):=by
 refine aF bV XR (t:=kdgK (fun p0 p1 p2 p3=>some (.v (degV ((p0,p1,p2,p3))))) a b c d) (by kernel_rfl) ?_;unfold kdg kdgK;repeat' first | (with_reducible refine aO (fun r:Int×Int×Int×Bool=>AV.v (degV (r))) ?_ ?_) | (with_reducible refine aT (fun r:Int×Int×Int×Bool=>AV.v (degV (r))) fun _=>?_) | rfl
def kwrK {α:Type} (K:Int→Int→Int→α) (a b c d e:Int):α:=lt (aK a b) fun x1=>lt (aI a b) fun x2=>lt (gQ a b c d (i64.wrap ((i64.wrap (e*60000))+0)) (i64.wrap ((i64.wrap ((i64.wrap (e*60000))+0))+30000))) fun x3=>cond (x3.2.2.2.2 != 0) (K 0 0 x3.2.2.2.2) (lt (aK x3.2.2.1 x3.2.2.2.1) fun x4=>lt (aI x3.2.2.1 x3.2.2.2.1) fun x5=>lt (aK x3.1 x3.2.1) fun x6=>lt (aI x3.1 x3.2.1) fun x7=>lt (bF x2.1 x2.2.1 x4.1 x4.2.1) fun x8=>lt (bF x1.1 x1.2.1 x7.1 x7.2.1) fun x9=>lt (bF x2.1 x2.2.1 x6.1 x6.2.1) fun x10=>lt (bF x10.1 x10.2.1 x5.1 x5.2.1) fun x11=>lt (lJ x9.1 x9.2.1 x11.1 x11.2.1) fun x12=>lt (nB x12.1 x12.2.1 x7.1 x7.2.1 60000) fun x13=>cond (x13.2.2 != 0) (lt (gQ a b c d (i64.wrap ((i64.wrap (e*60000))+30000)) (i64.wrap ((i64.wrap ((i64.wrap (e*60000))+30000))+30000))) fun x14=>cond (x14.2.2.2.2 != 0) (K 0 0 x14.2.2.2.2) (lt (aK x14.2.2.1 x14.2.2.2.1) fun x15=>lt (aI x14.2.2.1 x14.2.2.2.1) fun x16=>lt (aK x14.1 x14.2.1) fun x17=>lt (aI x14.1 x14.2.1) fun x18=>lt (bF x2.1 x2.2.1 x15.1 x15.2.1) fun x19=>lt (bF x1.1 x1.2.1 x18.1 x18.2.1) fun x20=>lt (bF x2.1 x2.2.1 x17.1 x17.2.1) fun x21=>lt (bF x21.1 x21.2.1 x16.1 x16.2.1) fun x22=>lt (lJ x20.1 x20.2.1 x22.1 x22.2.1) fun x23=>lt (nB x23.1 x23.2.1 x18.1 x18.2.1 60000) fun x24=>cond (x24.2.2 != 0) (K (upI (i64.wrap ((i64.wrap ((mx (mx x8.2.1 x8.2.1) x19.2.1)-(mn (mn x8.1 x8.1) x19.1)))*60000)) 4294967296) 10800000 0) (K (upI (i64.wrap ((i64.wrap ((mx (mx x8.2.1 x8.2.1) x19.2.1)-(mn (mn x8.1 x8.1) x19.1)))*60000)) 4294967296) 10800000 0))) (lt (gQ a b c d (i64.wrap ((i64.wrap (e*60000))+30000)) (i64.wrap ((i64.wrap ((i64.wrap (e*60000))+30000))+30000))) fun x25=>cond (x25.2.2.2.2 != 0) (K 0 0 x25.2.2.2.2) (lt (aK x25.2.2.1 x25.2.2.2.1) fun x26=>lt (aI x25.2.2.1 x25.2.2.2.1) fun x27=>lt (aK x25.1 x25.2.1) fun x28=>lt (aI x25.1 x25.2.1) fun x29=>lt (bF x2.1 x2.2.1 x26.1 x26.2.1) fun x30=>lt (bF x1.1 x1.2.1 x29.1 x29.2.1) fun x31=>lt (bF x2.1 x2.2.1 x28.1 x28.2.1) fun x32=>lt (bF x32.1 x32.2.1 x27.1 x27.2.1) fun x33=>lt (lJ x31.1 x31.2.1 x33.1 x33.2.1) fun x34=>lt (nB x34.1 x34.2.1 x29.1 x29.2.1 60000) fun x35=>cond (x35.2.2 != 0) (K (upI (i64.wrap ((i64.wrap ((mx (mx x8.2.1 x8.2.1) x30.2.1)-(mn (mn x8.1 x8.1) x30.1)))*60000)) 4294967296) 10800000 0) (cond (decide ((upI (i64.wrap ((mx (mx x13.2.1 x13.2.1) x35.2.1)-(mn (mn x13.1 x13.1) x35.1))) 4)>10800000)) (K (upI (i64.wrap ((i64.wrap ((mx (mx x8.2.1 x8.2.1) x30.2.1)-(mn (mn x8.1 x8.1) x30.1)))*60000)) 4294967296) 10800000 0) (K (upI (i64.wrap ((i64.wrap ((mx (mx x8.2.1 x8.2.1) x30.2.1)-(mn (mn x8.1 x8.1) x30.1)))*60000)) 4294967296) (upI (i64.wrap ((mx (mx x13.2.1 x13.2.1) x35.2.1)-(mn (mn x13.1 x13.1) x35.1))) 4) 0)))))
def kwr (a b c d e:Int):Int×Int×Int:=kwrK (fun p0 p1 p2=>(p0,p1,p2)) a b c d e
def kLk13:bJ:=(35,ePII (fun a b c d=>degV (kdg a b c d)))::kLk12
theorem XS:aJ aaZ kLk13:=(aA (ePII_ok kdg_gives) XR)
theorem kwr_gives (a b c d e:Int):aH aaZ 39 [.agg ⟨[.int .i64 a,.int .i64 b]⟩,.agg ⟨[.int .i64 c,.int .i64 d]⟩,.int .i64 e] (aP (kwr a b c d e)):=by
 refine aF bV XS (t:=kwrK (fun p0 p1 p2=>some (.v (aP ((p0,p1,p2))))) a b c d e) (by kernel_rfl) ?_;unfold kwr kwrK;repeat' first | (with_reducible refine aO (fun r:Int×Int×Int=>AV.v (aP (r))) ?_ ?_) | (with_reducible refine aT (fun r:Int×Int×Int=>AV.v (aP (r))) fun _=>?_) | rfl
def klkK {α:Type} (K:Int→Int→Int→Int→Int→α) (a b c d e f:Int):α:=cond (!(dV a b c d e f)) (K 0 0 0 0 1) (cond (a != b) (K 0 0 0 0 2) (cond ((asZ a 60000) != 0) (K 0 0 0 0 2) (lt (kdg c d (-90) 89) fun x1=>lt (BA e f) fun x2=>cond (decide (x2.2>10800000)) (cond (decide (x2.1<10800000)) (K 0 0 0 0 24) (cond (decide (x2.2>21600000)) (K 0 0 0 0 24) (lt (kdg (i64.wrap (21600000-x2.2)) (i64.wrap (21600000-x2.1)) 0 179) fun x3=>cond (!x1.2.2.2) (K 0 0 0 0 24) (cond (!x3.2.2.2) (K 0 0 0 0 24) (lt (LS (i64.wrap ((i64.wrap (x1.1+0))*60000))) fun x4=>lt (LS (i64.wrap ((i64.wrap (x3.1+0))*60000))) fun x5=>lt (gQ a b x4.1 x4.2 x5.1 x5.2) fun x6=>cond (x6.2.2.2.2 != 0) (K 0 0 0 0 x6.2.2.2.2) (lt (LS (i64.wrap ((i64.wrap (x3.1+1))*60000))) fun x7=>lt (gQ a b x4.1 x4.2 x7.1 x7.2) fun x8=>cond (x8.2.2.2.2 != 0) (K 0 0 0 0 x8.2.2.2.2) (lt (kwr a b x4.1 x4.2 x3.1) fun x9=>cond (x9.2.2 != 0) (K 0 0 0 0 x9.2.2) (lt (khr x6.1 x6.2.1 x6.2.2.1 x6.2.2.2.1 x8.1 x8.2.1 x8.2.2.1 x8.2.2.2.1 x9.1 x9.2.1 x3.2.1 x3.2.2.1) fun x10=>lt (LS (i64.wrap ((i64.wrap (x1.1+1))*60000))) fun x11=>lt (LS (i64.wrap ((i64.wrap (x3.1+0))*60000))) fun x12=>lt (gQ a b x11.1 x11.2 x12.1 x12.2) fun x13=>cond (x13.2.2.2.2 != 0) (K 0 0 0 0 x13.2.2.2.2) (lt (LS (i64.wrap ((i64.wrap (x3.1+1))*60000))) fun x14=>lt (gQ a b x11.1 x11.2 x14.1 x14.2) fun x15=>cond (x15.2.2.2.2 != 0) (K 0 0 0 0 x15.2.2.2.2) (lt (kwr a b x11.1 x11.2 x3.1) fun x16=>cond (x16.2.2 != 0) (K 0 0 0 0 x16.2.2) (lt (khr x13.1 x13.2.1 x13.2.2.1 x13.2.2.2.1 x15.1 x15.2.1 x15.2.2.1 x15.2.2.2.1 x16.1 x16.2.1 x3.2.1 x3.2.2.1) fun x17=>lt (AZ x10.1 x10.2.1 x10.2.2.1 x10.2.2.2 x17.1 x17.2.1 x17.2.2.1 x17.2.2.2 x1.2.1 x1.2.2.1) fun x18=>cond (x18.2.2.2.2 != 0) (K 0 0 0 0 x18.2.2.2.2) (cond (decide (x2.2>10800000)) (lt (BA (i64.wrap (0-x18.2.2.2.1)) (i64.wrap (0-x18.2.2.1))) fun x19=>K x18.1 x18.2.1 x19.1 x19.2 0) (K x18.1 x18.2.1 x18.2.2.1 x18.2.2.2.1 0))))))))))))) (lt (kdg x2.1 x2.2 0 179) fun x20=>cond (!x1.2.2.2) (K 0 0 0 0 24) (cond (!x20.2.2.2) (K 0 0 0 0 24) (lt (LS (i64.wrap ((i64.wrap (x1.1+0))*60000))) fun x21=>lt (LS (i64.wrap ((i64.wrap (x20.1+0))*60000))) fun x22=>lt (gQ a b x21.1 x21.2 x22.1 x22.2) fun x23=>cond (x23.2.2.2.2 != 0) (K 0 0 0 0 x23.2.2.2.2) (lt (LS (i64.wrap ((i64.wrap (x20.1+1))*60000))) fun x24=>lt (gQ a b x21.1 x21.2 x24.1 x24.2) fun x25=>cond (x25.2.2.2.2 != 0) (K 0 0 0 0 x25.2.2.2.2) (lt (kwr a b x21.1 x21.2 x20.1) fun x26=>cond (x26.2.2 != 0) (K 0 0 0 0 x26.2.2) (lt (khr x23.1 x23.2.1 x23.2.2.1 x23.2.2.2.1 x25.1 x25.2.1 x25.2.2.1 x25.2.2.2.1 x26.1 x26.2.1 x20.2.1 x20.2.2.1) fun x27=>lt (LS (i64.wrap ((i64.wrap (x1.1+1))*60000))) fun x28=>lt (LS (i64.wrap ((i64.wrap (x20.1+0))*60000))) fun x29=>lt (gQ a b x28.1 x28.2 x29.1 x29.2) fun x30=>cond (x30.2.2.2.2 != 0) (K 0 0 0 0 x30.2.2.2.2) (lt (LS (i64.wrap ((i64.wrap (x20.1+1))*60000))) fun x31=>lt (gQ a b x28.1 x28.2 x31.1 x31.2) fun x32=>cond (x32.2.2.2.2 != 0) (K 0 0 0 0 x32.2.2.2.2) (lt (kwr a b x28.1 x28.2 x20.1) fun x33=>cond (x33.2.2 != 0) (K 0 0 0 0 x33.2.2) (lt (khr x30.1 x30.2.1 x30.2.2.1 x30.2.2.2.1 x32.1 x32.2.1 x32.2.2.1 x32.2.2.2.1 x33.1 x33.2.1 x20.2.1 x20.2.2.1) fun x34=>lt (AZ x27.1 x27.2.1 x27.2.2.1 x27.2.2.2 x34.1 x34.2.1 x34.2.2.1 x34.2.2.2 x1.2.1 x1.2.2.1) fun x35=>cond (x35.2.2.2.2 != 0) (K 0 0 0 0 x35.2.2.2.2) (cond (decide (x2.2>10800000)) (lt (BA (i64.wrap (0-x35.2.2.2.1)) (i64.wrap (0-x35.2.2.1))) fun x36=>K x35.1 x35.2.1 x36.1 x36.2 0) (K x35.1 x35.2.1 x35.2.2.1 x35.2.2.2.1 0))))))))))))))
def klk (a b c d e f:Int):Int×Int×Int×Int×Int:=klkK (fun p0 p1 p2 p3 p4=>(p0,p1,p2,p3,p4)) a b c d e f
def kLk14:bJ:=(39,ePPI (fun a b c d e=>aP (kwr a b c d e)))::kLk13
theorem kLk14_ok:aJ aaZ kLk14:=(aA (ePPI_ok kwr_gives) XS)
theorem klk_gives (a b c d e f:Int):aH aaZ 14 [.agg ⟨[.int .i64 a,.int .i64 b,.int .i64 c,.int .i64 d,.int .i64 e,.int .i64 f]⟩] (cU (klk a b c d e f)):=by
 refine aF bV kLk14_ok (t:=klkK (fun p0 p1 p2 p3 p4=>some (.v (cU ((p0,p1,p2,p3,p4))))) a b c d e f) (by kernel_rfl) ?_;unfold klk klkK;repeat' first | (with_reducible refine aO (fun r:Int×Int×Int×Int×Int=>AV.v (cU (r))) ?_ ?_) | (with_reducible refine aT (fun r:Int×Int×Int×Int×Int=>AV.v (cU (r))) fun _=>?_) | rfl
end
section
open SM TB TA
open Ev (lt bG)
def WC (a b c d e f:Int):Int×Int×Int:=
 let m:=bF (aK a b).1 (aK a b).2.1 (aK c d).1 (aK c d).2.1
 let k:=bF (aI a b).1 (aI a b).2.1 (aI c d).1 (aI c d).2.1
 let n:=bF k.1 k.2.1 (aI e f).1 (aI e f).2.1
 gB m.1 m.2.1 n.1 n.2.1
def BO (a b c d e f:Int):Int×Int×Int:=
 let m:=bF (aK c d).1 (aK c d).2.1 (aI a b).1 (aI a b).2.1
 let k:=bF (aI c d).1 (aI c d).2.1 (aI e f).1 (aI e f).2.1
 let n:=bF k.1 k.2.1 (aK a b).1 (aK a b).2.1
 lJ m.1 m.2.1 n.1 n.2.1
def BM (c d e f:Int):Int×Int×Int:=
 let m:=bF (aI c d).1 (aI c d).2.1 (aK e f).1 (aK e f).2.1
 mM m.1 m.2.1
theorem cup_v {a b c d e f:Int} {x y t:Rat} (h:dV a b c d e f=true) (hx:Hs 0 a b x) (hy:Hs 0 c d y) (ht:Hs 0 e f t):
  Vl (WC a b c d e f) (1000*e1) (gJ x y t)∧Vl (BO a b c d e f) (1000*e1) (gS x y t)∧Vl (BM c d e f) (1000*e1) (iQ y t):=by
 obtain ⟨h1,h2,h3⟩:=gA h;have l1:=(bW h1).1;have l2:=(bW h2).1;obtain ⟨w1,w2,w3,w4,w5,w6,w7,w8,w9,w10,w11⟩:=lv;have s1:=aU l1;have c1:=aW l1;have s2:=aU l2;have c2:=aW l2;have s3:=aU h3;have c3:=aW h3;have S1:=kG l1 hx;have C1:=jI l1 hx;have S2:=kG l2 hy;have C2:=jI l2 hy;have S3:=kG h3 ht;have C3:=jI h3 ht;have m1:=fX s1 s2 (by grind) (by grind) S1 S2;have k1:=fX c1 c2 (by grind) (by grind) C1 C2;have n1:=fX (aM c1 c2) c3 (e:=3*(5*e1)) (by grind) (by grind) k1 (C3.wide (by grind));have m2:=fX s2 c1 (by grind) (by grind) S2 C1;have k2:=fX c2 c3 (by grind) (by grind) C2 C3;have n2:=fX (aM c2 c3) s1 (e:=3*(5*e1)) (by grind) (by grind) k2 (S1.wide (by grind));have m3:=fX c2 s3 (by grind) (by grind) C2 S3;refine ⟨?_,?_,?_⟩
 ·exact (MO (aM s1 s2) (aM (aM c1 c2) c3) m1 n1).wide (by grind)
 ·exact (ZW (aM s2 c1) (aM (aM c2 c3) s1) m2 n2).wide (by grind)
 ·exact (neg_v (aM c2 s3) m3).wide (by grind)
theorem ND {a b c d e f:Int} (h:dV a b c d e f=true):
  zL a b c d e f=bE (WC a b c d e f).1 (WC a b c d e f).2.1∧DI a b c d e f=aX (BM c d e f).1 (BM c d e f).2.1 (BO a b c d e f).1 (BO a b c d e f).2.1:=by
 obtain ⟨h1,h2,h3⟩:=gA h;have l1:=(bW h1).1;have l2:=(bW h2).1;have s1:=aU l1;have c1:=aW l1;have s2:=aU l2;have c2:=aW l2;have s3:=aU h3;have c3:=aW h3;have z:((0:Int) != 0)=false:=rfl;constructor
 ·unfold zL GY WC;simp only [lt,sW,xM,sU,xL,qR,uD,MZ,caddC];generalize aK a b=S1 at*;generalize aI a b=C1 at*;generalize aK c d=S2 at*;generalize aI c d=C2 at*;generalize aK e f=S3 at*;generalize aI e f=C3 at*;rw [s1.2.2.2,c1.2.2.2,s2.2.2.2,c2.2.2.2,s3.2.2.2,c3.2.2.2];have m1:=aM s1 s2;have k1:=aM c1 c2;generalize bF S1.1 S1.2.1 S2.1 S2.2.1=M at*;generalize bF C1.1 C1.2.1 C2.1 C2.2.1=K at*;have n1:=aM k1 c3;generalize bF K.1 K.2.1 C3.1 C3.2.1=N at*;have a1:=qP m1 n1;rw [m1.2.2.2,k1.2.2.2,n1.2.2.2,a1.1];simp only [AC,z,cond_false]
 ·unfold DI PU BO BM;simp only [lt,sW,xM,sU,xL,qR,uD,NC,cnegC,NE,csubC];generalize aK a b=S1 at*;generalize aI a b=C1 at*;generalize aK c d=S2 at*;generalize aI c d=C2 at*;generalize aK e f=S3 at*;generalize aI e f=C3 at*;rw [s1.2.2.2,c1.2.2.2,s2.2.2.2,c2.2.2.2,s3.2.2.2,c3.2.2.2];have m1:=aM c2 s3;have k1:=aM s2 c1;have p1:=aM c2 c3;generalize bF C2.1 C2.2.1 S3.1 S3.2.1=M at*;generalize bF S2.1 S2.2.1 C1.1 C1.2.1=K at*;generalize bF C2.1 C2.2.1 C3.1 C3.2.1=P at*;have n1:=aM p1 s1;generalize bF P.1 P.2.1 S1.1 S1.2.1=N at*;have a1:=wG k1 n1;have g1:=wV m1;rw [m1.2.2.2,k1.2.2.2,p1.2.2.2,n1.2.2.2,a1.1,g1.1];simp only [AC,z,cond_false]
theorem uG {a b c d e f:Int} (h:dV a b c d e f=true):∃H Z:Int×Int×Int,gQ a b c d e f=(H.1,H.2.1,Z.1,Z.2.1,0)∧xK a b c d e f=H∧Hold a b c d e f H Z:=by
 obtain ⟨h1,h2,h3⟩:=gA h;have l1:=bW h1;have l2:=bW h2;have l3:=cG h3;obtain ⟨e1,e2⟩:=ND h;have v0:=cup_v h (Hs.at (abJ a) (by omega)) (Hs.at (abJ c) (by omega)) (Hs.at (abJ e) (by omega));obtain ⟨h',z',s'⟩:=vW a c e;have L:=(up_v v0.1 s').1;have D:=(az_v v0.2.2 v0.2.1 s').1;have a1:xK a b c d e f=zL a b c d e f:=by
  unfold xK BJ;rw [h];rfl
 have a2:DH a b c d e f=DI a b c d e f:=by
  unfold DH GX;rw [h];rfl
 refine ⟨bE (WC a b c d e f).1 (WC a b c d e f).2.1,aX (BM c d e f).1 (BM c d e f).2.1 (BO a b c d e f).1 (BO a b c d e f).2.1,?_,?_,L,D,wL v0.2.2.2.1 v0.2.1.2.1,?_,?_⟩
 ·unfold gQ BP;rw [a1,a2,e1,e2];have z:((0:Int) != 0)=false:=rfl;simp only [lt];rw [L.2.2.2,D.2.2.2.2,z];rfl
 ·rw [a1,e1]
 ·intro x y t x0 y0 t0 h' z' s';exact (up_v (cup_v h x0 y0 t0).1 s').2
 ·intro x y t x0 y0 t0 h' z' s';have v:=cup_v h x0 y0 t0;exact (az_v v.2.2 v.2.1 s').2
end
section
open SM TB TA
theorem sn_cub {x:Rat} (h0:0≤x) (h1:x≤8/5):∀m:Nat,x-x*x*x/6≤sm (fun k=>ss k*P k x) (4*(m+1)+1)
 | 0=>by
  have s0:ss 0=0:=by decide+kernel
  have s1:ss 1=1:=by decide+kernel
  have s2:ss 2=0:=by decide+kernel
  have s3:ss 3=-1:=by decide+kernel
  have s4:ss 4=0:=by decide+kernel
  simp only [sm];rw [s0,s1,s2,s3,s4];have e1:P 1 x=x:=by simp [P];grind
  have e3:P 3 x=x*x*x/6:=by simp [P];grind
  rw [e1,e3];generalize P 0 x=p0 at*;generalize P 2 x=p2 at*;generalize P 4 x=p4 at*;grind
 | m+1=>by
  have ih:=sn_cub h0 h1 m;rw [show 4*(m+1+1)+1=4*(m+1)+1+1+1+1+1 by omega,sm,sm,sm,sm];have s1:ss (4*(m+1)+1)=1:=by unfold ss;rw [if_pos (by omega)]
  have s2:ss (4*(m+1)+1+1)=0:=by unfold ss;rw [if_neg (by omega),if_neg (by omega)]
  have s3:ss (4*(m+1)+1+1+1)=-1:=by unfold ss;rw [if_neg (by omega),if_pos (by omega)]
  have s4:ss (4*(m+1)+1+1+1+1)=0:=by unfold ss;rw [if_neg (by omega),if_neg (by omega)]
  rw [s1,s2,s3,s4];have a:=P_two h0 h1 (4*(m+1));rw [show 4*(m+1)+3=4*(m+1)+1+1+1 by omega] at a;generalize sm (fun k=>ss k*P k x) (4*(m+1)+1)=S0 at*;generalize P (4*(m+1)+1) x=p1 at*;generalize P (4*(m+1)+1+1) x=p2 at*;generalize P (4*(m+1)+1+1+1) x=p3 at*;generalize P (4*(m+1)+1+1+1+1) x=p4 at*;grind
theorem TR {q:Rat} (h0:0≤q) (h1:q≤5400000):tb*q-tb*q*(tb*q)*(tb*q)/6≤si q∧si q≤tb*q:=by
 have t:=tb_q h0 h1;refine ⟨?_,(iW h0 h1).2⟩;unfold si;rw [qG (by grind) (by grind)];exact sn_cub t.1 t.2 162
theorem TS {q:Rat} (h0:-3000000≤q) (h1:q≤3000000):Cl (tb*q*(tb*q)) (si q) (tb*q):=by
 have key:∀q:Rat,0≤q→q≤3000000→Cl (tb*q*(tb*q)) (si q) (tb*q):=fun q h0 h1=>by
  have c:=TR h0 (by grind);have t:=pF (p:=q) (c:=3000000) (d:=1) (by grind) h1 (by grind);have t0:=(tb_q h0 (by grind)).1;generalize tb*q=x at*;have m1:=aaQ (aaQ t0 t0) (show 0≤1-x by grind);have m2:=aaQ t0 t0;unfold Cl;constructor<;>grind
 rcases (abX:0≤q∨q≤0) with h | h
 ·exact key q h h1
 ·have k:=key (-q) (by grind) (by grind);rw [(gL (q:=q) (by grind) (by grind)).1] at k;have:=k.neg;rw [show -(-si q)=si q by grind,show -(tb*-q)=tb*q by grind,show tb*-q*(tb*-q)=tb*q*(tb*q) by grind] at this;exact this
def qK:Rat:=pw 580
theorem gT:0<qK∧2^24*eT≤qK∧2^300*e0≤qK∧qK≤1/2^500∧0<e0∧0<eT:=by decide+kernel
def qL:Rat:=pw 250
theorem xP:0<qL∧qL≤1/2^240∧2^60*qK≤qL*qL∧2^200*qK≤qL:=by decide+kernel
theorem clm {e f a b c d:Rat} (h:Cl e a b) (k:Cl f c d) (hc:-2≤c∧c≤2) (hb:-2≤b∧b≤2):Cl (2*e+2*f) (a*c) (b*d):=Cl.mul 2 2 h k hc hb
theorem co_inv {d1 d2:Rat} (h2:0≤d2) (h1:d1≤10800000) (h:co d2≤co d1+64*qK):d1≤d2+qL:=by
 have b:=gT;have l:=xP;have u:=aY;have e:e0=1048576*u0:=rfl;rcases (abX:d1≤d2+qL∨d2+qL≤d1) with q | q
 ·exact q
 ·exfalso;have g:=JE (p:=5400000-d1) (q:=5400000-d2) (by grind) (by grind) (by grind);have c1:=(yY d1).1;have c2:=(yY d2).1;rw [show 5400000-d2-(5400000-d1)=d1-d2 by grind] at g;have m:=aaQ (show 0≤d1-d2-qL by grind) (show 0≤d1-d2+qL by grind);unfold Cl at c1 c2;generalize si (5400000-d1)=s1 at*;generalize si (5400000-d2)=s2 at*;generalize co d1=k1 at*;generalize co d2=k2 at*;generalize qL=L at*;generalize qK=K at*;have m2:(d1-d2)*(d1-d2)=(d1-d2-L)*(d1-d2+L)+L*L:=by grind
  rw [m2] at g;generalize (d1-d2-L)*(d1-d2+L)=X at*;generalize L*L=LL at*;clear q m2;grind
end
section
open SM TB TA
theorem CT (x y t:Rat):(-2≤gJ x y t∧gJ x y t≤2)∧(-2≤gS x y t∧gS x y t≤2)∧(-2≤iQ y t∧iQ y t≤2):=by
 have s:=LD x y t;have b:=gT;have e:=dY;unfold Cl at s;have a1:=fC (gJ x y t);have a2:=fC (gS x y t);have a3:=fC (iQ y t);exact ⟨yW (by grind),yW (by grind),yW (by grind)⟩
theorem gF {a b:Rat} (ha:-2≤a∧a≤2) (hb:-2≤b∧b≤2):-4≤a*b∧a*b≤4:=by
 have:=aB ha.1 ha.2 hb.1 hb.2;constructor<;>grind
theorem dot_h {x y t h z x' y' t' h' z':Rat} (s:dE x y t h z) (s':dE x' y' t' h' z'):
  gJ x y t*gJ x' y' t'+(gS x y t*gS x' y' t'+iQ y t*iQ y' t')≤co (h'-h)+qK:=by
 obtain ⟨h0,h1,z0,z1,c1,c2,c3⟩:=s;obtain ⟨h0',h1',z0',z1',c1',c2',c3'⟩:=s';have b:=gT;have u:=aY;have e:e0=1048576*u0:=rfl;have l:=CT x y t;have l':=CT x' y' t';have bh:=cL h;have bh':=cL h';have bz:=cL z;have bz':=cL z';have p1:=clm c1 c1' bh'.2 l.1;have q1:-4≤co h'*co z'∧co h'*co z'≤4:=gF bh'.1 bz'.1;have q2:-4≤co h'*si z'∧co h'*si z'≤4:=gF bh'.1 bz'.2;have p2:=Cl.mul 4 2 c2 c2' q1 l.2.1;have p3:=Cl.mul 4 2 c3 c3' q2 l.2.2;have sz:=(qH z z').1;have bd:=(LO (z-z')).1;have kh:=mT h0 h1;have kh':=mT h0' h1';have sh:=(qH h' h).1;have e1:co h*co z*(co h'*co z')+co h*si z*(co h'*si z')=co h*co h'*(co z*co z'+si z*si z'):=by grind
 have hw:co z*co z'+si z*si z'≤1+20000*u0:=by unfold Cl at sz;grind
 have hw2:-4≤co z*co z'+si z*si z':=by unfold Cl at sz;grind
 have m1:=aaQ (show 0≤co h+e0 by grind) (show 0≤co h'+e0 by grind);have m2:=aaQ m1 (show 0≤1+20000*u0-(co z*co z'+si z*si z') by grind);have m3:=aaQ m1 (show 0≤(co z*co z'+si z*si z')+4 by grind);generalize co z*co z'+si z*si z'=Z at*;have hb1:-4≤co h*co h'∧co h*co h'≤4:=gF bh.1 bh'.1;have hb2:-2≤co h∧co h≤2:=bh.1;have hb3:-2≤co h'∧co h'≤2:=bh'.1;have eX:(co h+e0)*(co h'+e0)=co h*co h'+e0*(co h+co h'+e0):=by grind
 have mm:=aaQ (show 0≤e0 by grind) (show 0≤10-(co h+co h'+e0) by grind);have mm2:=aaQ (show 0≤e0 by grind) (show 0≤10+(co h+co h'+e0) by grind);rw [eX] at m2;have key:co h*co h'*Z≤co h*co h'+200*e0:=by
  have n1:(co h*co h'+e0*(co h+co h'+e0))*(1+20000*u0-Z)=co h*co h'+co h*co h'*(20000*u0)-co h*co h'*Z+e0*(co h+co h'+e0)*(1+20000*u0-Z):=by grind
  have v1:=aB (a:=e0*(co h+co h'+e0)) (b:=1+20000*u0-Z) (A:=10*e0) (B:=6) (by grind) (by grind) (by grind) (by grind);have v2:=aB (a:=co h*co h') (b:=20000*u0) (A:=4) (B:=20000*u0) hb1.1 hb1.2 (by grind) (by grind);rw [n1] at m2;generalize e0*(co h+co h'+e0)*(1+20000*u0-Z)=V1 at*;generalize co h*co h'*(20000*u0)=V2 at*;generalize co h*co h'*Z=V3 at*;clear m1 m3 p1 p2 p3 e1 sz sh;grind
 have p23:=p2.add p3;rw [e1] at p23;unfold Cl at p1 p23 sh;generalize gJ x y t*gJ x' y' t'=W1 at*;generalize gS x y t*gS x' y' t'+iQ y t*iQ y' t'=W2 at*;rw [show si h*si h'=si h'*si h by grind] at p1;rw [show co h*co h'=co h'*co h by grind] at key p23;rw [show co h'*co h*Z=co h'*co h*Z by rfl] at p23;generalize co h'*co h*Z=V3 at*;generalize co h'*co h=V4 at*;generalize si h'*si h=V5 at*;clear m1 m2 m3 p2 p3 e1 eX mm mm2 c1 c2 c3 c1' c2' c3';grind
theorem dot_t (x y t t':Rat):co (t'-t)≤gJ x y t*gJ x y t'+(gS x y t*gS x y t'+iQ y t*iQ y t')+qK:=by
 have b:=gT;have u:=aY;have e:e0=1048576*u0:=rfl;have ux:=nE x;have uy:=nE y;have bx:=cL x;have by':=cL y;have bt:=cL t;have bt':=cL t';have k:=(qH t' t).1;have i:gJ x y t*gJ x y t'+(gS x y t*gS x y t'+iQ y t*iQ y t')=(co x*co x+si x*si x-1)*(si y*si y+co y*co t*(co y*co t'))+(si y*si y+co y*co y-1)+(1-co y*co y*(1-(co t'*co t+si t'*si t))):=by unfold gJ gS iQ;grind
 have q1:=gF by'.1 bt.1;have q2:=gF by'.1 bt'.1;have q3:=gF by'.2 by'.2;have q4:=aB q1.1 q1.2 q2.1 q2.2;have v1:=aB (a:=co x*co x+si x*si x-1) (b:=si y*si y+co y*co t*(co y*co t')) (A:=8192*u0) (B:=32) (by unfold Cl at ux;grind) (by unfold Cl at ux;grind) (by grind) (by grind);have bk:=(LO (t'-t)).1;have hK:co t'*co t+si t'*si t≤1+20000*u0:=by unfold Cl at k;grind
 have hK2:-4≤co t'*co t+si t'*si t:=by unfold Cl at k;grind
 have n0:=fC (si y);have hy2:co y*co y≤1+8192*u0:=by unfold Cl at uy;grind
 have hy0:=fC (co y);have m:=aaQ (show 0≤1+8192*u0-co y*co y by grind) (show 0≤1+20000*u0-(co t'*co t+si t'*si t) by grind);have v2:=aB (a:=1-(co t'*co t+si t'*si t)) (b:=8192*u0) (A:=6) (B:=8192*u0) (by grind) (by grind) (by grind) (by grind);have v3:=aB (a:=co y*co y) (b:=20000*u0) (A:=4) (B:=20000*u0) (by grind) (by grind) (by grind) (by grind);rw [i];unfold Cl at k uy;generalize co t'*co t+si t'*si t=K at*;generalize (co x*co x+si x*si x-1)*(si y*si y+co y*co t*(co y*co t'))=V1 at*;have em:(1+8192*u0-co y*co y)*(1+20000*u0-K)=1-K+8192*u0-co y*co y*(1-K)+8192*u0*(20000*u0)-(1-(1-K))*0+(1-K)*(8192*u0)-co y*co y*(20000*u0)+20000*u0-8192*u0:=by grind
 rw [em] at m;generalize co y*co y*(1-K)=V4 at*;generalize (1-K)*(8192*u0)=V2 at*;generalize co y*co y*(20000*u0)=V3 at*;have uu:=aaQ (show 0≤u0 by grind) (show 0≤1-u0 by grind);have eu:8192*u0*(20000*u0)=163840000*(u0*u0):=by grind
 have eu2:u0*(1-u0)=u0-u0*u0:=by grind
 rw [eu] at m;rw [eu2] at uu;generalize u0*u0=U2 at*;clear q1 q2 q3 q4 em i hy0 n0;grind
theorem dot_d (x y y' t:Rat):co (y'-y)≤gJ x y t*gJ x y' t+(gS x y t*gS x y' t+iQ y t*iQ y' t)+qK:=by
 have b:=gT;have u:=aY;have e:e0=1048576*u0:=rfl;have ux:=nE x;have ut:=nE t;have by':=cL y;have by'':=cL y';have bt:=cL t;have k:=(qH y' y).1;have i:gJ x y t*gJ x y' t+(gS x y t*gS x y' t+iQ y t*iQ y' t)=(co x*co x+si x*si x-1)*(si y*si y'+co y*co t*(co y'*co t))+(co y'*co y+si y'*si y)+co y*co y'*(co t*co t+si t*si t-1):=by unfold gJ gS iQ;grind
 have q1:=gF by'.1 bt.1;have q2:=gF by''.1 bt.1;have q3:=gF by'.2 by''.2;have q5:=gF by'.1 by''.1;have q4:=aB q1.1 q1.2 q2.1 q2.2;have v1:=aB (a:=co x*co x+si x*si x-1) (b:=si y*si y'+co y*co t*(co y'*co t)) (A:=8192*u0) (B:=32) (by unfold Cl at ux;grind) (by unfold Cl at ux;grind) (by grind) (by grind);have v2:=aB (a:=co y*co y') (b:=co t*co t+si t*si t-1) (A:=4) (B:=8192*u0) q5.1 q5.2 (by unfold Cl at ut;grind) (by unfold Cl at ut;grind);rw [i];unfold Cl at k;generalize co y'*co y+si y'*si y=K at*;generalize (co x*co x+si x*si x-1)*(si y*si y'+co y*co t*(co y'*co t))=V1 at*;generalize co y*co y'*(co t*co t+si t*si t-1)=V2 at*;clear q1 q2 q3 q4 q5 i;grind
theorem dist_of {h h' d:Rat} (b0:-5400000≤h) (b1:h≤5400000) (b0':-5400000≤h') (b1':h'≤5400000) (hd:0≤d) (k:co d≤co (h'-h)+4*qK):h'-h≤d+qL∧h-h'≤d+qL:=by
 have l:=xP;have e:=gT;have u:=aY;have ee:e0=1048576*u0:=rfl;have n:=(vK (h'-h)).1;rw [show -(h'-h)=h-h' by grind] at n;unfold Cl at n;exact ⟨co_inv hd (by grind) (by grind),co_inv hd (by grind) (by grind)⟩
theorem yF {x y t h z t' h' z':Rat} (s:dE x y t h z) (s':dE x y t' h' z') (h0:t≤t'):h'-h≤t'-t+qL∧h-h'≤t'-t+qL:=by
 have a:=dot_h s s';have b:=dot_t x y t t';have e:=gT;exact dist_of s.1 s.2.1 s'.1 s'.2.1 (by grind) (by grind)
theorem QX {x y t h z y' h' z':Rat} (s:dE x y t h z) (s':dE x y' t h' z') (h0:y≤y'):h'-h≤y'-y+qL∧h-h'≤y'-y+qL:=by
 have a:=dot_h s s';have b:=dot_d x y y' t;have e:=gT;exact dist_of s.1 s.2.1 s'.1 s'.2.1 (by grind) (by grind)
end
section
open SM TB TA
def qM:Rat:=pw 200
theorem qM_bd:0<qM∧qM≤1/2^190∧2^40*qL≤qM∧2^300*qK≤qM∧0<qL:=by decide+kernel
theorem lipA {p q d:Rat} (h0:p-q≤d) (h1:q-p≤d) (hd:d≤5400000):Cl (d/1000000+e0) (co p) (co q)∧Cl (d/1000000+e0) (si p) (si q):=by
 rcases (abX:p≤q∨q≤p) with h | h
 ·have l:=lip h (by grind);exact ⟨(l.2.wide (by grind)).symm,(l.1.wide (by grind)).symm⟩
 ·have l:=lip h (by grind);exact ⟨l.2.wide (by grind),l.1.wide (by grind)⟩
theorem near_of {a b R C1 C2 K f g:Rat} (h:Cl K (C1*a) (R*C2*b)) (hc:Cl f C1 C2) (c1:1/30≤C1) (hR:-2≤R∧R≤2) (hb:0≤b) (hbg:b≤g) (hf:0≤f) (hK:0≤K):Cl (30*(2*g*f+K)) a (R*b):=by
 have hRb:=aB (a:=R) (b:=b) (A:=2) (B:=g) hR.1 hR.2 (by grind) hbg;have v:=aB (a:=R*b) (b:=C2-C1) (A:=2*g) (B:=f) hRb.1 hRb.2 (by unfold Cl at hc;grind) (by unfold Cl at hc;grind);have e1:C1*a-R*C2*b=C1*(a-R*b)-R*b*(C2-C1):=by grind
 unfold Cl at h;rw [e1] at h;generalize R*b*(C2-C1)=V at*;have hg:0≤g:=by grind
 have hgf:=aaQ hg hf;have bnd:-(2*g*f+K)≤C1*(a-R*b)∧C1*(a-R*b)≤2*g*f+K:=by constructor<;>grind
 have hN:0≤2*g*f+K:=by grind
 unfold Cl;generalize 2*g*f+K=N at*;generalize a-R*b=X at*;have k1:X≤30*N:=by
  rcases (abX:X≤30*N∨30*N≤X) with q | q
  ·exact q
  ·have m:=aaQ (show 0≤C1-1/30 by grind) (show 0≤X by grind);grind
 have k2:-(30*N)≤X:=by
  rcases (abX:-(30*N)≤X∨X≤-(30*N)) with q | q
  ·exact q
  ·have m:=aaQ (show 0≤C1-1/30 by grind) (show 0≤-X by grind);grind
 exact ⟨k2,k1⟩
theorem half_h {x y s t h z h' z' hm zm:Rat} (S:dE x y s h z) (S':dE x y t h' z') (Sm:dE x y ((s+t)/2) hm zm):
  Cl qK (co ((h+h')/2)*si ((h'-h)/2)) (co x*si zm*co hm*si ((t-s)/2)):=by
 have b:=gT;have u:=aY;have ee:e0=1048576*u0:=rfl;have f1:=(diff ((h+h')/2) ((h'-h)/2)).1;rw [show (h+h')/2+(h'-h)/2=h' by grind,show (h+h')/2-(h'-h)/2=h by grind] at f1;have f2:=(diff ((s+t)/2) ((t-s)/2)).2;rw [show (s+t)/2+(t-s)/2=t by grind,show (s+t)/2-(t-s)/2=s by grind] at f2;have g2:=S'.2.2.2.2.1.sub S.2.2.2.2.1;have i:gJ x y t-gJ x y s=co x*co y*(co t-co s):=by unfold gJ;grind
 rw [i] at g2;have bx:=cL x;have by':=cL y;have bs:=cL ((t-s)/2);have q1:=gF bx.1 by'.1;have q2:=gF bx.1 bs.2;have v1:=aB (a:=co x*co y) (b:=co t-co s- -(2*(si ((s+t)/2)*si ((t-s)/2)))) (A:=4) (B:=10000*u0) q1.1 q1.2 f2.1 f2.2;have c3:=Sm.2.2.2.2.2.2;have v2:=aB (a:=co x*si ((t-s)/2)) (b:=co hm*si zm-iQ y ((s+t)/2)) (A:=4) (B:=eT) q2.1 q2.2 c3.1 c3.2;have j:co x*co y*(co t-co s- -(2*(si ((s+t)/2)*si ((t-s)/2))))=co x*co y*(co t-co s)-2*(co x*si ((t-s)/2)*iQ y ((s+t)/2)):=by unfold iQ;grind
 rw [j] at v1;have k:co x*si ((t-s)/2)*(co hm*si zm-iQ y ((s+t)/2))=co x*si zm*co hm*si ((t-s)/2)-co x*si ((t-s)/2)*iQ y ((s+t)/2):=by grind
 rw [k] at v2;unfold Cl at*;generalize co x*co y*(co t-co s)=W1 at*;generalize co x*si ((t-s)/2)*iQ y ((s+t)/2)=W2 at*;generalize co x*si zm*co hm*si ((t-s)/2)=W3 at*;generalize co ((h+h')/2)*si ((h'-h)/2)=W4 at*;clear q1 q2 bx by' bs i j k c3 f2;constructor<;>grind
theorem loc_h {x y s t h z h' z' hm zm:Rat} (S:dE x y s h z) (S':dE x y t h' z') (Sm:dE x y ((s+t)/2) hm zm) (h0:s≤t) (h1:t≤s+30000) (hc:1/20≤co hm):
  Cl ((t-s)*(t-s)/10000+qM) (h'-h) (co x*si zm*(t-s)):=by
 have b:=gT;have l:=xP;have e:=qM_bd;have t0:=jY;have D1:=yF S Sm (by grind);have D2:=yF Sm S' (by grind);have D:=yF S S' h0;have hh:=half_h S S' Sm;have hd0:0≤(t-s)/2∧(t-s)/2≤15000:=by constructor<;>grind
 have ed:t-s=2*((t-s)/2):=by grind
 have lp:=(lipA (p:=(h+h')/2) (q:=hm) (d:=(t-s)/2+qL) (by grind) (by grind) (by grind)).1;have bx:=LO x;have bz:=LO zm;have u:=aY;have hR:-2≤co x*si zm∧co x*si zm≤2:=by
  have:=aB bx.1.1 bx.1.2 bz.2.1 bz.2.2;have uu:=aaQ (show 0≤u0 by grind) (show 0≤1-u0 by grind);have e3:(1+8192*u0)*(1+8192*u0)=1+16384*u0+67108864*(u0*u0):=by grind
  have e4:u0*(1-u0)=u0-u0*u0:=by grind
  rw [e3] at this;rw [e4] at uu;generalize u0*u0=U2 at*;constructor<;>grind
 have sd:=iW hd0.1 (by grind);have sd0:=gG hd0.1 (by grind);have ld:=TS (q:=(t-s)/2) (by grind) (by grind);have la:=TS (q:=(h'-h)/2) (by grind) (by grind);have hC1:1/30≤co ((h+h')/2):=by unfold Cl at lp;grind
 have n:=near_of (f:=((t-s)/2+qL)/1000000+e0) (g:=tb*((t-s)/2)) hh lp hC1 hR sd0 sd.2 (by grind) (by grind);generalize co x*si zm=R at*;generalize si ((t-s)/2)=B at*;generalize si ((h'-h)/2)=A at*;clear hh lp S S' Sm hC1 hc bx bz D1 D2 sd;rw [ed];generalize (t-s)/2=d at*;have eX:h'-h=2*((h'-h)/2):=by grind
 rw [eX];have hX1:(h'-h)/2≤d+qL:=by grind
 have hX2:-(d+qL)≤(h'-h)/2:=by grind
 generalize (h'-h)/2=X at*;clear D eX ed h0 h1;have tbp:0≤tb:=by grind
 have a1:tb*d≤d/3437740:=by
  have:=aaQ (show 0≤1/3437740-tb by grind) hd0.1;grind
 have a0:0≤tb*d:=aaQ tbp hd0.1;have d2:0≤d*d:=aaQ hd0.1 hd0.1;have q1:tb*d*(tb*d)≤d*d/10000000000000:=by
  have m1:=aaQ a0 (show 0≤d/3437740-tb*d by grind);have m2:=aaQ hd0.1 (show 0≤d/3437740-tb*d by grind);grind
 have q2:tb*X*(tb*X)≤d*d/10000000000000+qL:=by
  have s1:=aB (a:=X) (b:=X) (A:=d+qL) (B:=d+qL) (by grind) hX1 (by grind) hX1;have s2:=fC X;have s3:=aaQ (show 0≤qL by grind) (show 0≤15000-d by grind);have s4:=aaQ (show 0≤qL by grind) (show 0≤1-qL by grind);have t2:=aaQ (show 0≤1/3437740-tb by grind) (show 0≤1/3437740+tb by grind);have t3:=aaQ (show 0≤1/3437740*(1/3437740)-tb*tb by grind) s2;have ex:tb*X*(tb*X)=tb*tb*(X*X):=by grind
  rw [ex];have exx:(d+qL)*(d+qL)=d*d+2*(qL*d)+qL*qL:=by grind
  rw [exx] at s1;have e3:qL*(15000-d)=15000*qL-qL*d:=by grind
  have e4:qL*(1-qL)=qL-qL*qL:=by grind
  rw [e3] at s3;rw [e4] at s4;have e5:(1/3437740*(1/3437740)-tb*tb)*(X*X)=X*X*(1/3437740*(1/3437740))-tb*tb*(X*X):=by grind
  rw [e5] at t3;generalize tb*tb*(X*X)=T1 at*;generalize X*X=T2 at*;generalize qL*d=T3 at*;generalize qL*qL=T4 at*;generalize d*d=T5 at*;clear t2 e3 e4 e5 exx ex;grind
 have q3:tb*d*((d+qL)/1000000+e0)≤d*d/3437740000000+qL:=by
  have m1:=aaQ (show 0≤d/3437740-tb*d by grind) (show 0≤(d+qL)/1000000+e0 by grind);have m2:=aaQ (show 0≤15000-d by grind) (show 0≤qL/1000000+e0 by grind);have e1:(d/3437740-tb*d)*((d+qL)/1000000+e0)=d*d/3437740000000+d*(qL/1000000+e0)/3437740-tb*d*((d+qL)/1000000+e0):=by grind
  have e2:(15000-d)*(qL/1000000+e0)=15000*(qL/1000000+e0)-d*(qL/1000000+e0):=by grind
  rw [e1] at m1;rw [e2] at m2;generalize d*(qL/1000000+e0)=T1 at*;generalize tb*d*((d+qL)/1000000+e0)=T2 at*;generalize d*d=T3 at*;clear e1 e2;grind
 have hRB:=aB (a:=R) (b:=B-tb*d) (A:=2) (B:=tb*d*(tb*d)) hR.1 hR.2 ld.1 ld.2;have eRB:R*(B-tb*d)=R*B-tb*(R*d):=by grind
 rw [eRB] at hRB;unfold Cl at n la;have n':30*(2*(tb*d)*((d+qL)/1000000+e0)+qK)=60*(tb*d*((d+qL)/1000000+e0))+30*qK:=by grind
 rw [n'] at n;generalize tb*d*((d+qL)/1000000+e0)=T1 at*;generalize tb*d*(tb*d)=T2 at*;generalize tb*X*(tb*X)=T3 at*;generalize R*B=T4 at*;have fin:-(d*d/50000000000+1000*qL)≤tb*(X-R*d)∧tb*(X-R*d)≤d*d/50000000000+1000*qL:=by
  have ef:tb*(X-R*d)=tb*X-tb*(R*d):=by grind
  rw [ef];generalize tb*X=T5 at*;generalize tb*(R*d)=T6 at*;generalize d*d=T7 at*;clear a1 a0 eRB ld n';constructor<;>grind
 have eR2:R*(2*d)=2*(R*d):=by grind
 rw [eR2];generalize R*d=Y at*;have eq:2*d*(2*d)/10000=d*d/2500:=by grind
 rw [eq];generalize d*d=T7 at*;have N0:0≤T7/50000000000+1000*qL:=by grind
 have k1:X-Y≤3437750*(T7/50000000000+1000*qL):=by
  rcases (abX:X-Y≤3437750*(T7/50000000000+1000*qL)∨3437750*(T7/50000000000+1000*qL)≤X-Y) with q | q
  ·exact q
  ·have m:=aaQ (show 0≤tb-1/3437750 by grind) (show 0≤X-Y by grind);grind
 have k2:-(3437750*(T7/50000000000+1000*qL))≤X-Y:=by
  rcases (abX:-(3437750*(T7/50000000000+1000*qL))≤X-Y∨X-Y≤-(3437750*(T7/50000000000+1000*qL))) with q | q
  ·exact q
  ·have m:=aaQ (show 0≤tb-1/3437750 by grind) (show 0≤-(X-Y) by grind);grind
 clear n la hRB fin;unfold Cl;constructor<;>grind
end
section
open SM TB TA
def iJ {α:Type} (S:Rat→α→Prop) (f:α→Rat) (T lo hi a b c e:Rat):Prop:=
 ∀s t p q,a≤s→s≤t→t≤b→S s p→S t q→∃k:Int,lo*(t-s)-((t-s)*(t-s)*c+e)≤f q-f p+T*(k:Rat)∧f q-f p+T*(k:Rat)≤hi*(t-s)+((t-s)*(t-s)*c+e)
theorem iJ.half {α:Type} {S:Rat→α→Prop} {f:α→Rat} {T lo hi a b c e:Rat} (ex:∀t,∃p,S t p) (h:iJ S f T lo hi a b c e):iJ S f T lo hi a b (c/2) (2*e):=by
 intro s t p q h1 h2 h3 hp hq;obtain ⟨r,hr⟩:=ex ((s+t)/2);obtain ⟨k1,a1,a2⟩:=h s ((s+t)/2) p r h1 (by grind) (by grind) hp hr;obtain ⟨k2,b1,b2⟩:=h ((s+t)/2) t r q (by grind) (by grind) h3 hr hq;refine ⟨k1+k2,?_,?_⟩
 ·rw [acQ];rw [show (s+t)/2-s=(t-s)/2 by grind] at a1;rw [show t-(s+t)/2=(t-s)/2 by grind] at b1;grind
 ·rw [acQ];rw [show (s+t)/2-s=(t-s)/2 by grind] at a2;rw [show t-(s+t)/2=(t-s)/2 by grind] at b2;grind
theorem iJ.many {α:Type} {S:Rat→α→Prop} {f:α→Rat} {T lo hi a b c e:Rat} (ex:∀t,∃p,S t p) (h:iJ S f T lo hi a b c e):∀n:Nat,iJ S f T lo hi a b (c/2^n) (2^n*e)
 | 0=>by
  rw [show c/2^0=c by grind,show (2:Rat)^0*e=e by grind];exact h
 | n+1=>by
  have:=(iJ.many ex h n).half ex;rw [show c/2^n/2=c/2^(n+1) by grind,show 2*(2^n*e)=2^(n+1)*e by grind] at this;exact this
theorem pow_100:(1:Rat)/2^100*90000000000≤1/2^62∧(2:Rat)^100*(qM*2^20)≤1/2^62∧0≤(1:Rat)/2^100:=by decide+kernel
theorem iJ.mean {α:Type} {S:Rat→α→Prop} {f:α→Rat} {T lo hi a b:Rat} (ex:∀t,∃p,S t p) (hab:b≤a+30000) (h:iJ S f T lo hi a b 100 (qM*2^20)):iJ S f T lo hi a b 0 (1/2^61):=by
 intro s t p q h1 h2 h3 hp hq;obtain ⟨k,a1,a2⟩:=h.many ex 100 s t p q h1 h2 h3 hp hq;have pw:=pow_100;have l0:0≤t-s:=by grind
 have m1:=aaQ l0 (show 0≤30000-(t-s) by grind);have hs:(t-s)*(t-s)≤900000000:=by grind
 have m2:=aaQ pw.2.2 (show 0≤900000000-(t-s)*(t-s) by grind);refine ⟨k,?_,?_⟩
 ·generalize (t-s)*(t-s)=Q at*;generalize (2:Rat)^100*(qM*2^20)=E at*;generalize (1:Rat)/2^100=C at*;grind
 ·generalize (t-s)*(t-s)=Q at*;generalize (2:Rat)^100*(qM*2^20)=E at*;generalize (1:Rat)/2^100=C at*;grind
theorem iJ.join {α:Type} {S:Rat→α→Prop} {f:α→Rat} {T lo hi a b c e:Rat} (ex:∀t,∃p,S t p) (he:0≤e) (h1:iJ S f T lo hi a b 0 e) (h2:iJ S f T lo hi b c 0 e):iJ S f T lo hi a c 0 (2*e):=by
 intro s t p q g1 g2 g3 hp hq;rcases (abX:t≤b∨b≤t) with tb' | tb'
 ·obtain ⟨k,a1,a2⟩:=h1 s t p q g1 g2 tb' hp hq;exact ⟨k,by grind,by grind⟩
 ·rcases (abX:b≤s∨s≤b) with sb | sb
  ·obtain ⟨k,a1,a2⟩:=h2 s t p q sb g2 g3 hp hq;exact ⟨k,by grind,by grind⟩
  ·obtain ⟨r,hr⟩:=ex b;obtain ⟨k1,a1,a2⟩:=h1 s b p r g1 sb (by grind) hp hr;obtain ⟨k2,b1,b2⟩:=h2 b t r q (by grind) tb' g3 hr hq;refine ⟨k1+k2,?_,?_⟩<;>rw [acQ]<;>grind
theorem lin_err {d0 d1 lo hi u e:Rat} (u0:0≤u) (u1:u≤60000) (a1:lo*u-e≤d0) (a2:d0≤hi*u+e) (b1:lo*(60000-u)-e≤d1) (b2:d1≤hi*(60000-u)+e) (he:0≤e) (hlh:lo≤hi):
  -((hi-lo)*15000+2*e)≤d0-(d0+d1)*u/60000∧d0-(d0+d1)*u/60000≤(hi-lo)*15000+2*e:=by
 have sq:=fC (u-30000);have m0:=aaQ (show 0≤hi-lo by grind) sq;have v0:0≤60000-u:=by grind
 have m1:=aaQ v0 (show 0≤d0-(lo*u-e) by grind);have m2:=aaQ v0 (show 0≤hi*u+e-d0 by grind);have m3:=aaQ u0 (show 0≤d1-(lo*(60000-u)-e) by grind);have m4:=aaQ u0 (show 0≤hi*(60000-u)+e-d1 by grind);have m5:=aaQ u0 he;have m6:=aaQ v0 he;have key:60000*(d0-(d0+d1)*u/60000)=d0*(60000-u)-d1*u:=by grind
 have:-(60000*((hi-lo)*15000+2*e))≤d0*(60000-u)-d1*u∧d0*(60000-u)-d1*u≤60000*((hi-lo)*15000+2*e):=by
  constructor<;>grind
 rw [←key] at this;generalize d0-(d0+d1)*u/60000=X at*;generalize (hi-lo)*15000+2*e=Y at*;clear m0 m1 m2 m3 m4 m5 m6 key sq;constructor<;>grind
end
section
open SM TB TA
theorem small_arc {q:Rat} (h:1/100000≤co q):∃k:Int,-5400000≤q+21600000*(k:Rat)∧q+21600000*(k:Rat)≤5400000∧si (q+21600000*(k:Rat))=si q:=by
 have e:q+21600000*((-tm q:Int):Rat)=jB q:=by
  unfold jB;rw [afQ];grind
 have tq:=eQ q (-tm q);rw [e] at tq;have b:=qF q;refine ⟨-tm q,?_,?_,?_⟩
 ·rw [e];rcases (abX:-5400000≤jB q∨jB q≤-5400000) with k | k
  ·exact k
  ·exfalso;have s:=gG (q:=-(jB q+5400000)) (by grind) (by grind);have n:=(gL (q:=jB q+5400000) (by grind) (by grind)).1;have c:=(yY (-jB q)).1;have c2:=(vK (jB q)).1;have u:=aY;rw [show 5400000- -jB q=jB q+5400000 by grind] at c;rw [←tq.1] at h;unfold Cl at c c2;grind
 ·rw [e];rcases (abX:jB q≤5400000∨5400000≤jB q) with k | k
  ·exact k
  ·exfalso;have s:=gG (q:=jB q-5400000) (by grind) (by grind);have n:=(gL (q:=jB q-5400000) (by grind) (by grind)).1;have c:=(yY (jB q)).1;have u:=aY;rw [show -(jB q-5400000)=5400000-jB q by grind] at n;rw [←tq.1] at h;unfold Cl at c;grind
 ·rw [e];exact tq.2
theorem cross_h {x y s t h z h' z':Rat} (S:dE x y s h z) (S':dE x y t h' z'):
  Cl qK (co h*co h'*si (z'-z)) (gS x y s*iQ y t-iQ y s*gS x y t)∧Cl qK (co h*co h'*co (z'-z)) (gS x y s*gS x y t+iQ y s*iQ y t):=by
 obtain ⟨h0,h1,z0,z1,c1,c2,c3⟩:=S;obtain ⟨h0',h1',z0',z1',c1',c2',c3'⟩:=S';have b:=gT;have u:=aY;have e:e0=1048576*u0:=rfl;have l:=CT x y s;have bh:=cL h;have bh':=cL h';have bz':=cL z';have q1:-4≤co h'*co z'∧co h'*co z'≤4:=gF bh'.1 bz'.1;have q2:-4≤co h'*si z'∧co h'*si z'≤4:=gF bh'.1 bz'.2;have p1:=Cl.mul 4 2 c2 c3' q2 l.2.1;have p2:=Cl.mul 4 2 c3 c2' q1 l.2.2;have p3:=Cl.mul 4 2 c2 c2' q1 l.2.1;have p4:=Cl.mul 4 2 c3 c3' q2 l.2.2;have sz:=qH z' z;have bb:=gF bh.1 bh'.1;have v1:=aB (a:=co h*co h') (b:=si (z'-z)-(si z'*co z-co z'*si z)) (A:=4) (B:=8000*u0) bb.1 bb.2 sz.2.1 sz.2.2;have v2:=aB (a:=co h*co h') (b:=co (z'-z)-(co z'*co z+si z'*si z)) (A:=4) (B:=8000*u0) bb.1 bb.2 sz.1.1 sz.1.2;have e1:co h*co h'*(si (z'-z)-(si z'*co z-co z'*si z))=co h*co h'*si (z'-z)-(co h*co z*(co h'*si z')-co h*si z*(co h'*co z')):=by grind
 have e2:co h*co h'*(co (z'-z)-(co z'*co z+si z'*si z))=co h*co h'*co (z'-z)-(co h*co z*(co h'*co z')+co h*si z*(co h'*si z')):=by grind
 rw [e1] at v1;rw [e2] at v2;have p12:=p1.sub p2;have p34:=p3.add p4;unfold Cl at*;clear e1 e2 c1 c2 c3 c1' c2' c3' sz;generalize co h*co z*(co h'*si z')=W1 at*;generalize co h*si z*(co h'*co z')=W2 at*;generalize co h*co z*(co h'*co z')=W3 at*;generalize co h*si z*(co h'*si z')=W4 at*;generalize gS x y s*iQ y t-iQ y s*gS x y t=W5 at*;generalize gS x y s*gS x y t+iQ y s*iQ y t=W6 at*;generalize co h*co h'*si (z'-z)=W7 at*;generalize co h*co h'*co (z'-z)=W8 at*;refine ⟨⟨by grind,by grind⟩,by grind,by grind⟩
theorem cross_r {x y s t hm zm:Rat} (Sm:dE x y ((s+t)/2) hm zm):
  Cl qK (gS x y s*iQ y t-iQ y s*gS x y t) (2*si ((t-s)/2)*(co hm*(si x*co hm-co x*si hm*co zm))-2*(co y*co y*si x)*si ((t-s)/2)*(1-co ((t-s)/2))):=by
 obtain ⟨h0,h1,z0,z1,c1,c2,c3⟩:=Sm;have b:=gT;have u:=aY;have e:e0=1048576*u0:=rfl;have bx:=cL x;have by':=cL y;have bd:=cL ((t-s)/2);have bh:=cL hm;have bz:=cL zm;have l:=CT x y ((s+t)/2);have f1:=(diff ((s+t)/2) ((t-s)/2)).1;rw [show (s+t)/2+(t-s)/2=t by grind,show (s+t)/2-(t-s)/2=s by grind] at f1;have f2:=(qH t s).2;have f3:=(wZ ((t-s)/2) ((t-s)/2)).2;rw [show (t-s)/2+(t-s)/2=t-s by grind] at f3;have i:gS x y s*iQ y t-iQ y s*gS x y t=-(si y*co x*co y)*(si t-si s)+co y*co y*si x*(si t*co s-co t*si s):=by unfold gS iQ;grind
 have q1:=gF by'.2 bx.1;have q2:=aB (a:=si y*co x) (b:=co y) (A:=4) (B:=2) q1.1 q1.2 by'.1.1 by'.1.2;have q3:=gF by'.1 by'.1;have q4:=aB (a:=co y*co y) (b:=si x) (A:=4) (B:=2) q3.1 q3.2 bx.2.1 bx.2.2;have v1:=aB (a:=si y*co x*co y) (b:=si t-si s-2*(co ((s+t)/2)*si ((t-s)/2))) (A:=8) (B:=10000*u0) (by grind) (by grind) f1.1 f1.2;have f23:Cl (10000*u0) (si t*co s-co t*si s) (2*(si ((t-s)/2)*co ((t-s)/2))):=by
  have:=(f2.symm.trans f3);rw [show si ((t-s)/2)*co ((t-s)/2)+co ((t-s)/2)*si ((t-s)/2)=2*(si ((t-s)/2)*co ((t-s)/2)) by grind] at this;exact this.wide (by grind)
 have v2:=aB (a:=co y*co y*si x) (b:=si t*co s-co t*si s-2*(si ((t-s)/2)*co ((t-s)/2))) (A:=8) (B:=10000*u0) (by grind) (by grind) f23.1 f23.2;have uh:=nE hm;have ux:=nE x;have uy:=nE y;have w1:=clm c1 c2 (by
  have:=aB bh.1.1 bh.1.2 bz.1.1 bz.1.2;have k:=LO hm;have k2:=LO zm;have uu:=aaQ (show 0≤u0 by grind) (show 0≤1-u0 by grind);have m:=aB k.1.1 k.1.2 k2.1.1 k2.1.2;have ex:(1+8192*u0)*(1+8192*u0)=1+16384*u0+67108864*(u0*u0):=by grind
  rw [ex] at m;have e4:u0*(1-u0)=u0-u0*u0:=by grind
  rw [e4] at uu;generalize u0*u0=U2 at*;constructor<;>grind) l.1
 have w2:=clm c1 c1 bh.2 l.1;have sx2:=aB (a:=si x) (b:=co hm*co hm+si hm*si hm-1) (A:=2) (B:=8192*u0) bx.2.1 bx.2.2 uh.1 uh.2;have sx3:=aB (a:=si x) (b:=si hm*si hm-gJ x y ((s+t)/2)*gJ x y ((s+t)/2)) (A:=2) (B:=2*(5*e0)+2*(5*e0)) bx.2.1 bx.2.2 w2.1 w2.2;have sx4:=aB (a:=co x) (b:=si hm*(co hm*co zm)-gJ x y ((s+t)/2)*gS x y ((s+t)/2)) (A:=2) (B:=2*(5*e0)+2*eT) bx.1.1 bx.1.2 w1.1 w1.2;have i2:si x-si x*(gJ x y ((s+t)/2)*gJ x y ((s+t)/2))-co x*(gJ x y ((s+t)/2)*gS x y ((s+t)/2))=-(co y*(si y*co x*co ((s+t)/2)-co y*si x))-gJ x y ((s+t)/2)*si y*(co x*co x+si x*si x-1)-si x*(co y*co y+si y*si y-1):=by unfold gJ gS;grind
 have q5:=gF l.1 by'.2;have v3:=aB (a:=gJ x y ((s+t)/2)*si y) (b:=co x*co x+si x*si x-1) (A:=4) (B:=8192*u0) q5.1 q5.2 ux.1 ux.2;have v4:=aB (a:=si x) (b:=co y*co y+si y*si y-1) (A:=2) (B:=8192*u0) bx.2.1 bx.2.2 uy.1 uy.2;have hW:Cl (200*e0+20*eT) (co hm*(si x*co hm-co x*si hm*co zm)) (-(co y*(si y*co x*co ((s+t)/2)-co y*si x))):=by
  have ew:co hm*(si x*co hm-co x*si hm*co zm)=si x+si x*(co hm*co hm+si hm*si hm-1)-(si x*(gJ x y ((s+t)/2)*gJ x y ((s+t)/2))+si x*(si hm*si hm-gJ x y ((s+t)/2)*gJ x y ((s+t)/2)))-(co x*(gJ x y ((s+t)/2)*gS x y ((s+t)/2))+co x*(si hm*(co hm*co zm)-gJ x y ((s+t)/2)*gS x y ((s+t)/2))):=by grind
  rw [ew];unfold Cl;generalize si x*(co hm*co hm+si hm*si hm-1)=V5 at*;generalize si x*(si hm*si hm-gJ x y ((s+t)/2)*gJ x y ((s+t)/2))=V6 at*;generalize co x*(si hm*(co hm*co zm)-gJ x y ((s+t)/2)*gS x y ((s+t)/2))=V7 at*;generalize si x*(gJ x y ((s+t)/2)*gJ x y ((s+t)/2))=V8 at*;generalize co x*(gJ x y ((s+t)/2)*gS x y ((s+t)/2))=V9 at*;generalize gJ x y ((s+t)/2)*si y*(co x*co x+si x*si x-1)=V3 at*;generalize si x*(co y*co y+si y*si y-1)=V4 at*;generalize co y*(si y*co x*co ((s+t)/2)-co y*si x)=V10 at*;clear w1 w2 f1 f2 f3 f23 c1 c2 c3 ew i;constructor<;>grind
 have v5:=aB (a:=2*si ((t-s)/2)) (b:=co hm*(si x*co hm-co x*si hm*co zm)- -(co y*(si y*co x*co ((s+t)/2)-co y*si x))) (A:=4) (B:=200*e0+20*eT) (by grind) (by grind) hW.1 hW.2;rw [i];have ev1:si y*co x*co y*(si t-si s-2*(co ((s+t)/2)*si ((t-s)/2)))=si y*co x*co y*(si t-si s)-2*(si y*co x*co y)*(co ((s+t)/2)*si ((t-s)/2)):=by grind
 have ev2:co y*co y*si x*(si t*co s-co t*si s-2*(si ((t-s)/2)*co ((t-s)/2)))=co y*co y*si x*(si t*co s-co t*si s)-2*(co y*co y*si x)*(si ((t-s)/2)*co ((t-s)/2)):=by grind
 have ev5:2*si ((t-s)/2)*(co hm*(si x*co hm-co x*si hm*co zm)- -(co y*(si y*co x*co ((s+t)/2)-co y*si x)))=2*si ((t-s)/2)*(co hm*(si x*co hm-co x*si hm*co zm))+2*(si y*co x*co y)*(co ((s+t)/2)*si ((t-s)/2))-2*(co y*co y*si x)*si ((t-s)/2):=by grind
 have ev6:2*(co y*co y*si x)*si ((t-s)/2)*(1-co ((t-s)/2))=2*(co y*co y*si x)*si ((t-s)/2)-2*(co y*co y*si x)*(si ((t-s)/2)*co ((t-s)/2)):=by grind
 have ev7:-(si y*co x*co y)*(si t-si s)=-(si y*co x*co y*(si t-si s)):=by grind
 rw [ev1] at v1;rw [ev2] at v2;rw [ev5] at v5;rw [ev6,ev7];unfold Cl;generalize si y*co x*co y*(si t-si s)=W1 at*;generalize 2*(si y*co x*co y)*(co ((s+t)/2)*si ((t-s)/2))=W2 at*;generalize co y*co y*si x*(si t*co s-co t*si s)=W3 at*;generalize 2*(co y*co y*si x)*(si ((t-s)/2)*co ((t-s)/2))=W4 at*;generalize 2*si ((t-s)/2)*(co hm*(si x*co hm-co x*si hm*co zm))=W5 at*;generalize 2*(co y*co y*si x)*si ((t-s)/2)=W6 at*;clear w1 w2 f1 f2 f3 f23 c1 c2 c3 ev1 ev2 ev5 ev6 ev7 i i2 hW sx2 sx3 sx4 v3 v4;constructor<;>grind
end
section
open SM TB TA
theorem near_gen {a b R C1 C2 K f g c B:Rat} (h:Cl K (C1*a) (R*C2*b)) (hc:Cl f C1 C2) (c0:0<c) (c1:1≤c*C1) (hR:-B≤R∧R≤B) (hb:0≤b) (hbg:b≤g) (hf:0≤f) (hK:0≤K) (hB:0≤B):Cl (c*(B*g*f+K)) a (R*b):=by
 have hRb:=aB (a:=R) (b:=b) (A:=B) (B:=g) hR.1 hR.2 (by grind) hbg;have v:=aB (a:=R*b) (b:=C2-C1) (A:=B*g) (B:=f) hRb.1 hRb.2 (by unfold Cl at hc;grind) (by unfold Cl at hc;grind);have e1:C1*a-R*C2*b=C1*(a-R*b)-R*b*(C2-C1):=by grind
 unfold Cl at h;rw [e1] at h;generalize R*b*(C2-C1)=V at*;have hg:0≤g:=by grind
 have hgf:=aaQ (aaQ hB hg) hf;have bnd:-(B*g*f+K)≤C1*(a-R*b)∧C1*(a-R*b)≤B*g*f+K:=by constructor<;>grind
 have hN:0≤B*g*f+K:=by grind
 unfold Cl;generalize B*g*f+K=N at*;generalize a-R*b=X at*;have k1:X≤c*N:=by
  rcases (abX:X≤c*N∨c*N≤X) with q | q
  ·exact q
  ·have cn:=aaQ (show 0≤c by grind) hN;have m:=aaQ (show 0≤c*C1-1 by grind) (show 0≤X by grind);have m2:=aaQ (show 0≤c by grind) (show 0≤N-C1*X by grind);grind
 have k2:-(c*N)≤X:=by
  rcases (abX:-(c*N)≤X∨X≤-(c*N)) with q | q
  ·exact q
  ·have cn:=aaQ (show 0≤c by grind) hN;have m:=aaQ (show 0≤c*C1-1 by grind) (show 0≤-X by grind);have m2:=aaQ (show 0≤c by grind) (show 0≤N+C1*X by grind);grind
 exact ⟨k2,k1⟩
theorem lG (q:Rat):(-(101/100)≤co q∧co q≤101/100)∧(-(101/100)≤si q∧si q≤101/100):=by
 have b:=LO q;have u:=aY;refine ⟨⟨?_,?_⟩,?_,?_⟩<;>grind
theorem AM {x hm zm r:Rat} (hc:1/20≤co hm) (hr:r*co hm=si x*co hm-co x*si hm*co zm):-42≤r∧r≤42:=by
 have b1:=lG x;have b2:=lG hm;have b3:=lG zm;have m1:=aB b1.2.1 b1.2.2 b2.1.1 b2.1.2;have m2:=aB b1.1.1 b1.1.2 b2.2.1 b2.2.2;have m3:=aB m2.1 m2.2 b3.1.1 b3.1.2;generalize si x*co hm=W1 at*;generalize co x*si hm*co zm=W2 at*;constructor
 ·rcases (abX:-42≤r∨r≤-42) with q | q
  ·exact q
  ·have m:=aaQ (show 0≤co hm-1/20 by grind) (show 0≤-r by grind);grind
 ·rcases (abX:r≤42∨42≤r) with q | q
  ·exact q
  ·have m:=aaQ (show 0≤co hm-1/20 by grind) (show 0≤r by grind);grind
theorem co_near {d:Rat} (h0:0≤d) (h1:d≤5400000):1-2*(tb*d*(tb*d))-qK≤co (d+d):=by
 have a:=(wZ d d).1;have un:=nE d;have s:=iW h0 h1;have s0:=gG h0 h1;have e:=gT;have u:=aY;have ee:e0=1048576*u0:=rfl;have m1:=aaQ (show 0≤tb*d-si d by grind) (show 0≤tb*d+si d by grind);unfold Cl at*;generalize tb*d=x at*;generalize si d=y at*;generalize co d=z at*;have em:(x-y)*(x+y)=x*x-y*y:=by grind
 rw [em] at m1;generalize x*x=X at*;generalize y*y=Y at*;generalize z*z=Z at*;grind
theorem near_dir {x y s t h z h' z':Rat} (S:dE x y s h z) (S':dE x y t h' z') (h0:s≤t) (h1:t≤s+400) (hp:1/500≤co h*co h'):1/100000≤co (z'-z):=by
 have e:=gT;have u:=aY;have ee:e0=1048576*u0:=rfl;have cr:=(cross_h S S').2;have dt:=dot_t x y s t;have l:=CT x y s;have l':=CT x y t;have bh':=cL h';have c:=clm S.2.2.2.2.1 S'.2.2.2.2.1 bh'.2 l.1;have sq:=(qH h' h).1;have b:=LO (h'-h);have hd0:0≤(t-s)/2∧(t-s)/2≤200:=by constructor<;>grind
 have cn:=co_near hd0.1 (by grind);rw [show (t-s)/2+(t-s)/2=t-s by grind] at cn;have tm:=pF (p:=(t-s)/2) (c:=200) (d:=1/10000) (by grind) hd0.2 (by grind);have tq:=(tb_q hd0.1 (by grind)).1;have m:=aB (a:=tb*((t-s)/2)) (b:=tb*((t-s)/2)) (A:=1/10000) (B:=1/10000) (by grind) tm.2 (by grind) tm.2;unfold Cl at*;rw [show co h'*co h=co h*co h' by grind,show si h'*si h=si h*si h' by grind] at sq;generalize co h*co h'=P at*;generalize si h*si h'=Q at*;generalize tb*((t-s)/2)*(tb*((t-s)/2))=Z at*;have key:P-1/10000000≤P*co (z'-z):=by
  generalize P*co (z'-z)=W1 at*;generalize gJ x y s*gJ x y t=W2 at*;generalize gS x y s*gS x y t+iQ y s*iQ y t=W3 at*;clear hp l l' bh' tm tq S S';grind
 rcases (abX:1/100000≤co (z'-z)∨co (z'-z)≤1/100000) with q | q
 ·exact q
 ·have m:=aaQ (show 0≤P by grind) (show 0≤1/100000-co (z'-z) by grind);have e2:P*(1/100000-co (z'-z))=P*(1/100000)-P*co (z'-z):=by grind
  rw [e2] at m;generalize P*co (z'-z)=W1 at*;grind
end
section
open SM TB TA
theorem qM_bd2:2^48*qL≤qM:=by decide+kernel
theorem arc_of {p v:Rat} (h0:-5400000≤p) (h1:p≤5400000) (hs:si p=v) (b0:-(1/50)≤v) (b1:v≤1/50):Cl (4*(v*v)) v (tb*p):=by
 subst hs;have t:=jY;have key:∀p:Rat,0≤p→p≤5400000→si p≤1/50→Cl (4*(si p*si p)) (si p) (tb*p):=fun p g0 g1 g2=>by
  have s:=iW g0 g1;have tp:=(tb_q g0 g1).1;have m:=aaQ (show 0≤tb-1/3437750 by grind) g0;have l:=TS (q:=p) (by grind) (by grind);have m1:=aaQ (show 0≤2*si p-tb*p by grind) (show 0≤2*si p+tb*p by grind);have e:(2*si p-tb*p)*(2*si p+tb*p)=4*(si p*si p)-tb*p*(tb*p):=by grind
  rw [e] at m1;unfold Cl at*;generalize tb*p*(tb*p)=Q1 at*;generalize si p*si p=Q2 at*;constructor<;>grind
 rcases (abX:0≤p∨p≤0) with h | h
 ·exact key p h h1 b1
 ·have n:=(gL (q:=p) (by grind) (by grind)).1;have k:=(key (-p) (by grind) (by grind) (by grind)).neg;rw [n] at k;rw [show -si p*-si p=si p*si p by grind,show -(-si p)=si p by grind,show -(tb*-p)=tb*p by grind] at k;exact k
theorem loc_z {x y s t h z h' z' hm zm r:Rat} (S:dE x y s h z) (S':dE x y t h' z') (Sm:dE x y ((s+t)/2) hm zm) (h0:s≤t) (h1:t≤s+400) (hc:1/20≤co hm)
  (hr:r*co hm=si x*co hm-co x*si hm*co zm):∃k:Int,Cl ((t-s)*(t-s)+qM) (z'-z+21600000*(k:Rat)) (r*(t-s)):=by
 have b:=gT;have l:=xP;have e:=qM_bd;have em2:=qM_bd2;have t0:=jY;have rb:=AM hc hr;have D1:=yF S Sm (by grind);have D2:=yF Sm S' (by grind);have hd0:0≤(t-s)/2∧(t-s)/2≤200:=by constructor<;>grind
 have lp1:=(lipA (p:=h) (q:=hm) (d:=(t-s)/2+qL) (by grind) (by grind) (by grind)).1;have lp2:=(lipA (p:=h') (q:=hm) (d:=(t-s)/2+qL) (by grind) (by grind) (by grind)).1;have cr:=(cross_h S S').1;have cq:=cross_r (x:=x) (y:=y) (s:=s) (t:=t) Sm;have oh:=(lG h).1;have oh':=(lG h').1;have om:=(lG hm).1;have oy:=(lG y).1;have ox:=(lG x).2;have c1:1/22≤co h:=by unfold Cl at lp1;grind
 have c2:1/22≤co h':=by unfold Cl at lp2;grind
 have hP:1/500≤co h*co h':=by
  have:=aaQ (show 0≤co h-1/22 by grind) (show 0≤co h'-1/22 by grind);grind
 have nd:=near_dir S S' h0 h1 hP;obtain ⟨k,k0,k1,k2⟩:=small_arc nd;refine ⟨k,?_⟩;obtain ⟨f,hf⟩:∃f,f=((t-s)/2+qL)/1000000+e0:=⟨_,rfl⟩;have hf0:0≤f:=by rw [hf];grind
 rw [←hf] at lp1 lp2;have hPC:Cl (4*f) (co h*co h') (co hm*co hm):=by
  have v1:=aB (a:=co h) (b:=co h'-co hm) (A:=101/100) (B:=f) oh.1 oh.2 lp2.1 lp2.2;have v2:=aB (a:=co hm) (b:=co h-co hm) (A:=101/100) (B:=f) om.1 om.2 lp1.1 lp1.2;have e1:co h*co h'-co hm*co hm=co h*(co h'-co hm)+co hm*(co h-co hm):=by grind
  unfold Cl;rw [e1];generalize co h*(co h'-co hm)=V1 at*;generalize co hm*(co h-co hm)=V2 at*;constructor<;>grind
 have sd:=iW hd0.1 (by grind);have sd0:=gG hd0.1 (by grind);have ld:=TS (q:=(t-s)/2) (by grind) (by grind);have lc:=(lipA (p:=(t-s)/2) (q:=0) (d:=(t-s)/2+qL) (by grind) (by grind) (by grind)).1;rw [co_0,←hf] at lc;have y1:=aB (a:=co y) (b:=co y) (A:=101/100) (B:=101/100) oy.1 oy.2 oy.1 oy.2;have y2:=aB (a:=co y*co y) (b:=si x) (A:=2) (B:=101/100) (by grind) (by grind) ox.1 ox.2;have y3:=aB (a:=co y*co y*si x) (b:=si ((t-s)/2)) (A:=3) (B:=tb*((t-s)/2)) (by grind) (by grind) (by grind) sd.2;have y4:=aB (a:=co y*co y*si x*si ((t-s)/2)) (b:=1-co ((t-s)/2)) (A:=3*(tb*((t-s)/2))) (B:=f) y3.1 y3.2 (by unfold Cl at lc;grind) (by unfold Cl at lc;grind);have hmain:Cl (2*qK+6*(tb*((t-s)/2))*f) (co h*co h'*si (z'-z)) (2*r*(co hm*co hm)*si ((t-s)/2)):=by
  have:=cr.trans cq;rw [←hr] at this;have e1:2*si ((t-s)/2)*(co hm*(r*co hm))-2*(co y*co y*si x)*si ((t-s)/2)*(1-co ((t-s)/2))=2*r*(co hm*co hm)*si ((t-s)/2)-2*(co y*co y*si x*si ((t-s)/2)*(1-co ((t-s)/2))):=by grind
  rw [e1] at this;unfold Cl at this ⊢;generalize co y*co y*si x*si ((t-s)/2)*(1-co ((t-s)/2))=V at*;generalize 2*r*(co hm*co hm)*si ((t-s)/2)=V2 at*;generalize co h*co h'*si (z'-z)=V3 at*;have eV:3*(tb*((t-s)/2))*f=tb*((t-s)/2)*f*3:=by grind
  have eV2:6*(tb*((t-s)/2))*f=tb*((t-s)/2)*f*6:=by grind
  rw [eV] at y4;rw [eV2];generalize tb*((t-s)/2)*f=V4 at*;clear hPC lp1 lp2 sd ld y1 y2 y3 e1 cr cq;constructor<;>grind
 have tbp:0≤tb:=by grind
 have a0:0≤tb*((t-s)/2):=aaQ tbp hd0.1;have gf0:=aaQ a0 hf0;have n:=near_gen (c:=500) (B:=84) (g:=tb*((t-s)/2)) hmain hPC (by grind) (by grind) (by constructor<;>grind) sd0 sd.2 (by grind) (by grind) (by grind);clear hmain hPC cr cq hP nd c1 c2 oh oh' om oy ox y1 y2 y3 y4 lp1 lp2 lc D1 D2 S S' Sm hr hc;have hsi:=k2;generalize z'-z+21600000*(k:Rat)=p at*;rw [←k2] at n;clear k2 hsi;have ed:t-s=2*((t-s)/2):=by grind
 rw [ed];generalize (t-s)/2=d at*;clear ed h0 h1;have a1:tb*d≤d/3437740:=by
  have:=aaQ (show 0≤1/3437740-tb by grind) hd0.1;grind
 have d2:0≤d*d:=aaQ hd0.1 hd0.1;have q1:tb*d*(tb*d)≤d*d/10000000000000:=by
  have m1:=aaQ a0 (show 0≤d/3437740-tb*d by grind);have m2:=aaQ hd0.1 (show 0≤d/3437740-tb*d by grind);grind
 have q1':0≤tb*d*(tb*d):=aaQ a0 a0;have q3:tb*d*f≤d*d/3437740000000+qL:=by
  rw [hf];have m1:=aaQ (show 0≤d/3437740-tb*d by grind) (show 0≤(d+qL)/1000000+e0 by grind);have m2:=aaQ (show 0≤15000-d by grind) (show 0≤qL/1000000+e0 by grind);have e1:(d/3437740-tb*d)*((d+qL)/1000000+e0)=d*d/3437740000000+d*(qL/1000000+e0)/3437740-tb*d*((d+qL)/1000000+e0):=by grind
  have e2:(15000-d)*(qL/1000000+e0)=15000*(qL/1000000+e0)-d*(qL/1000000+e0):=by grind
  rw [e1] at m1;rw [e2] at m2;generalize d*(qL/1000000+e0)=T1 at*;generalize tb*d*((d+qL)/1000000+e0)=T2 at*;generalize d*d=T3 at*;clear e1 e2 n ld sd;grind
 have hN:500*(84*(tb*d)*(4*f)+(2*qK+6*(tb*d)*f))=171000*(tb*d*f)+1000*qK:=by grind
 rw [hN] at n;have dd:d*d≤40000:=by
  have:=aaQ (show 0≤200-d by grind) (show 0≤200+d by grind);grind
 obtain ⟨E1,hE1⟩:∃E1,E1=d*d/20000000+200000*qL:=⟨_,rfl⟩;have n2:Cl E1 (si p) (2*r*si d):=by
  unfold Cl at n ⊢;rw [hE1];generalize tb*d*f=T1 at*;generalize si p-2*r*si d=T2 at*;generalize d*d=T3 at*;clear ld sd hN;constructor<;>grind
 clear n hN q3 gf0;have hE0:0≤E1∧E1≤1/400:=by rw [hE1];constructor<;>grind
 have r1:=aB (a:=2*r) (b:=si d) (A:=84) (B:=tb*d) (by grind) (by grind) (by grind) sd.2;have tbd:tb*d≤1/17000:=by grind
 have hv0:-(84*(tb*d)+E1)≤si p∧si p≤84*(tb*d)+E1:=by unfold Cl at n2;constructor<;>grind
 have ar:=arc_of k0 k1 rfl (by grind) (by grind);have v2:si p*si p≤2*(84*84*(tb*d*(tb*d)))+E1/200:=by
  have m1:=aaQ (show 0≤84*(tb*d)+E1-si p by grind) (show 0≤84*(tb*d)+E1+si p by grind);have m2:=fC (84*(tb*d)-E1);have m3:=aaQ hE0.1 (show 0≤1/400-E1 by grind);generalize tb*d=T at*;generalize si p=V at*;have e1:(84*T+E1-V)*(84*T+E1+V)=84*84*(T*T)+168*(T*E1)+E1*E1-V*V:=by grind
  have e2:(84*T-E1)*(84*T-E1)=84*84*(T*T)-168*(T*E1)+E1*E1:=by grind
  have e3:E1*(1/400-E1)=E1/400-E1*E1:=by grind
  rw [e1] at m1;rw [e2] at m2;rw [e3] at m3;generalize T*T=T2 at*;generalize T*E1=T3 at*;generalize E1*E1=T4 at*;generalize V*V=T5 at*;clear e1 e2 e3;grind
 have r2:=aB (a:=2*r) (b:=si d-tb*d) (A:=84) (B:=tb*d*(tb*d)) (by grind) (by grind) ld.1 ld.2;have fin:-(d*d/10000000+1000000*qL)≤tb*(p-r*(2*d))∧tb*(p-r*(2*d))≤d*d/10000000+1000000*qL:=by
  have e1:tb*(p-r*(2*d))=tb*p-(2*r*si d-2*r*(si d-tb*d)):=by grind
  rw [e1];unfold Cl at ar n2;generalize 2*r*(si d-tb*d)=U1 at*;generalize 2*r*si d=U2 at*;generalize tb*p=U3 at*;generalize si p*si p=U4 at*;generalize tb*d*(tb*d)=U5 at*;generalize d*d=U6 at*;clear r1 ld sd hv0 e1 a1 tbd;subst hE1;constructor<;>grind
 have hsq:2*d*(2*d)=4*(d*d):=by grind
 rw [hsq];unfold Cl;generalize p-r*(2*d)=Y at*;have kk:-(4*(d*d)+qM)≤Y∧Y≤4*(d*d)+qM:=by
  generalize d*d=T7 at*;clear ar n2 r1 r2 ld sd hv0 v2 q1 q1' a1 hE1 hE0;constructor
  ·rcases (abX:-(4*T7+qM)≤Y∨Y≤-(4*T7+qM)) with q | q
   ·exact q
   ·have m:=aaQ (show 0≤tb-1/3437750 by grind) (show 0≤-Y by grind);grind
  ·rcases (abX:Y≤4*T7+qM∨4*T7+qM≤Y) with q | q
   ·exact q
   ·have m:=aaQ (show 0≤tb-1/3437750 by grind) (show 0≤Y by grind);grind
 exact kk
end
section
open SM TB TA
theorem uF {h:Rat} (h0:-5101000≤h) (h1:h≤5101000):1/20≤co h:=by
 have e:=gT;have u:=aY;have ee:e0=1048576*u0:=rfl;have t:=jY;have key:∀h:Rat,0≤h→h≤5101000→1/18≤co h:=fun h g0 g1=>by
  have c:=(yY h).1;have g:=JE (p:=299000) (q:=5400000-h) (by grind) (by grind) (by grind);have s:=(TR (q:=299000) (by grind) (by grind)).1;have sq:=fC (5400000-h-299000);have t1:1/12≤tb*299000∧tb*299000≤1/10:=by constructor<;>grind
  have m:=aB (a:=tb*299000) (b:=tb*299000) (A:=1/10) (B:=1/10) (by grind) t1.2 (by grind) t1.2;have m2:=aB (a:=tb*299000*(tb*299000)) (b:=tb*299000) (A:=1/10*(1/10)) (B:=1/10) m.1 m.2 (by grind) t1.2;unfold Cl at c;generalize tb*299000*(tb*299000)*(tb*299000)=W at*;generalize (5400000-h-299000)*(5400000-h-299000)=Q at*;generalize si (5400000-h)=S at*;generalize si 299000=S2 at*;generalize co h=C at*;clear m;grind
 rcases (abX:0≤h∨h≤0) with k | k
 ·have:=key h k h1;grind
 ·have:=key (-h) (by grind) (by grind);rw [(gL (q:=h) (by grind) (by grind)).2] at this;grind
def SP (x y:Rat) (t:Rat) (p:Rat×Rat):Prop:=dE x y t p.1 p.2
theorem sp_ex (x y t:Rat):∃p,SP x y t p:=by
 obtain ⟨h,z,s⟩:=vW x y t;exact ⟨(h,z),s⟩
theorem h_piece {x y a b lo hi:Rat} (hab:b≤a+30000) (H:∀m hm zm,a≤m→m≤b→dE x y m hm zm→1/20≤co hm∧lo≤co x*si zm∧co x*si zm≤hi):
  iJ (SP x y) (·.1) 0 lo hi a b 0 (1/2^61):=by
 refine iJ.mean (sp_ex x y) hab ?_;intro s t p q h1 h2 h3 hp hq;obtain ⟨hm,zm,sm⟩:=vW x y ((s+t)/2);obtain ⟨c1,c2,c3⟩:=H ((s+t)/2) hm zm (by grind) (by grind) sm;have l:=loc_h hp hq sm h2 (by grind) c1;have e:=qM_bd;have d0:0≤t-s:=by grind
 have m1:=aaQ d0 (show 0≤co x*si zm-lo by grind);have m2:=aaQ d0 (show 0≤hi-co x*si zm by grind);have m3:=fC (t-s);refine ⟨0,?_⟩;have z:(0:Rat)*((0:Int):Rat)=0:=by grind
 rw [z];unfold Cl at l;dsimp only;generalize co x*si zm=R at*;generalize q.1-p.1=D at*;generalize t-s=d at*;have em:qM*2^20=1048576*qM:=by grind
 rw [em];constructor<;>grind
theorem z_piece {x y a b lo hi:Rat} (hab:b≤a+30000) (H:∀m hm zm,a≤m→m≤b→dE x y m hm zm→1/20≤co hm∧∃r,r*co hm=si x*co hm-co x*si hm*co zm∧lo≤r∧r≤hi):
  iJ (SP x y) (·.2) 21600000 lo hi a b 0 (1/2^61):=by
 refine iJ.mean (sp_ex x y) hab ?_;intro s t p q h1 h2 h3 hp hq;obtain ⟨hm,zm,sm⟩:=vW x y ((s+t)/2);obtain ⟨c1,r,c2,c3,c4⟩:=H ((s+t)/2) hm zm (by grind) (by grind) sm;have e:=qM_bd;have rb:=AM c1 c2;have d0:0≤t-s:=by grind
 have m1:=aaQ d0 (show 0≤r-lo by grind);have m2:=aaQ d0 (show 0≤hi-r by grind);have m3:=fC (t-s);have em:qM*2^20=1048576*qM:=by grind
 rw [em];rcases (abX:t≤s+400∨s+400≤t) with hs | hs
 ·obtain ⟨k,l⟩:=loc_z hp hq sm h2 hs c1 c2;refine ⟨k,?_⟩;unfold Cl at l;dsimp only;generalize q.2-p.2+21600000*(k:Rat)=D at*;generalize t-s=d at*;constructor<;>grind
 ·have bd:=qF (q.2-p.2);have er:q.2-p.2+21600000*((-tm (q.2-p.2):Int):Rat)=jB (q.2-p.2):=by
   unfold jB;rw [afQ];grind
  refine ⟨-tm (q.2-p.2),?_⟩;dsimp only;rw [er];generalize jB (q.2-p.2)=D at*;have n1:=aaQ (show 0≤t-s-400 by grind) (show 0≤t-s by grind);have n2:=aaQ d0 (show 0≤42-r by grind);have n3:=aaQ d0 (show 0≤42+r by grind);have d4:400≤t-s:=by grind
  generalize t-s=d at*;constructor<;>grind
theorem h_lin {x y a u lo hi h0 z0 hu zu h1 z1:Rat} (hR:iJ (SP x y) (·.1) 0 lo hi a (a+60000) 0 (1/2^60)) (u0:0≤u) (u1:u≤60000) (hlh:lo≤hi)
  (S0:dE x y a h0 z0) (Su:dE x y (a+u) hu zu) (S1:dE x y (a+60000) h1 z1):
  Cl ((hi-lo)*15000+1/2^58) hu (h0+(h1-h0)*u/60000):=by
 obtain ⟨k,a1,a2⟩:=hR a (a+u) (h0,z0) (hu,zu) (by grind) (by grind) (by grind) S0 Su;obtain ⟨j,b1,b2⟩:=hR (a+u) (a+60000) (hu,zu) (h1,z1) (by grind) (by grind) (by grind) Su S1;dsimp only at a1 a2 b1 b2;rw [show a+u-a=u by grind,show (0:Rat)*(k:Rat)=0 by grind] at a1 a2;rw [show a+60000-(a+u)=60000-u by grind,show (0:Rat)*(j:Rat)=0 by grind] at b1 b2;have l:=lin_err (d0:=hu-h0) (d1:=h1-hu) (lo:=lo) (hi:=hi) (u:=u) (e:=1/2^60) u0 u1 (by grind) (by grind) (by grind) (by grind) (by grind) hlh;rw [show hu-h0+(h1-hu)=h1-h0 by grind] at l;unfold Cl;generalize (h1-h0)*u/60000=X at*;constructor<;>grind
theorem z_lin {x y a u lo hi h0 z0 hu zu h1 z1:Rat} (hR:iJ (SP x y) (·.2) 21600000 lo hi a (a+60000) 0 (1/2^60)) (u0:0≤u) (u1:u≤60000) (hlh:lo≤hi)
  (S0:dE x y a h0 z0) (Su:dE x y (a+u) hu zu) (S1:dE x y (a+60000) h1 z1):
  ∃k j:Int,Cl ((hi-lo)*15000+1/2^58) (zu+21600000*(k:Rat)) (z0+(z1+21600000*(j:Rat)-z0)*u/60000)∧lo*60000-1≤z1+21600000*(j:Rat)-z0∧z1+21600000*(j:Rat)-z0≤hi*60000+1:=by
 obtain ⟨k,a1,a2⟩:=hR a (a+u) (h0,z0) (hu,zu) (by grind) (by grind) (by grind) S0 Su;obtain ⟨j,b1,b2⟩:=hR (a+u) (a+60000) (hu,zu) (h1,z1) (by grind) (by grind) (by grind) Su S1;dsimp only at a1 a2 b1 b2;rw [show a+u-a=u by grind] at a1 a2;rw [show a+60000-(a+u)=60000-u by grind] at b1 b2;have l:=lin_err (d0:=zu-z0+21600000*(k:Rat)) (d1:=z1-zu+21600000*(j:Rat)) (lo:=lo) (hi:=hi) (u:=u) (e:=1/2^60) u0 u1 (by grind) (by grind) (by grind) (by grind) (by grind) hlh;refine ⟨k,k+j,?_,?_,?_⟩
 ·rw [show zu-z0+21600000*(k:Rat)+(z1-zu+21600000*(j:Rat))=z1+21600000*((k+j:Int):Rat)-z0 by rw [acQ];grind] at l;unfold Cl;generalize (z1+21600000*((k+j:Int):Rat)-z0)*u/60000=X at*;constructor<;>grind
 ·rw [acQ];grind
 ·rw [acQ];grind
end
end
end Go.Proofs.YtajpgkpdhcbngaaGreatDoor
