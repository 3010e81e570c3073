/-
  Products, quotients and sailings within bounds: what each function gives. Moved cells: what advance.moved gives. Rhumb's numbers of four words, the least ones first: sums, differences, multiples,.
-/
import Derived.Test.YtlbklncoihhfcaaGreatDoorU6
import Derived.Test.YtlbklncoihhfcaaGreatDoorU14
import Derived.Test.YtlbklncoihhfcaaGreatDoorU4
import Derived.WalkKit
import Derived.Lib.Hide
import Derived.Deep.QuietTactic
import Derived.Deep.RegionHeld3
import Derived.Deep.RegionWith
set_option maxRecDepth 100000
set_option maxHeartbeats 4000000
open Go.RowKit.Below renaming refl→zD
open _root_.Int renaming lt_trichotomy→qV,mul_nonneg→zX,natCast_ediv→xS,natCast_emod→xG,natCast_mul→yU
open Go.Lib renaming hid→zA
open _root_.Nat renaming le_refl→zC
open Go.Proofs.Tryz renaming prog→zB
open Go.World renaming drewN→qE,setCell→qK
open Go.IntKind (i64 u64)
open Go.Value renaming int→jI
open Go.IntKind renaming i64→jJ
open Go.IntKind renaming u64→jU
open Go.Obj renaming cells→jC
open Go.Value renaming agg→jA
namespace Go.Proofs.YtlbklncoihhfcaaGreatDoor
noncomputable section
section
open Ev
open Ev (Gl)
def Ee(p:Int->Int->Int->Bool)(F:Int->Int->Int->Value):AL
 | [.v (jI jJ a),.v (jI jJ b),.v (jI jJ c)],[]=>some (p a b c,.v (F a b c),[])
 |_,_=>none
theorem Pm[Gl]{P:Program}{g:FuncId}{p:Int->Int->Int->Bool}{F:Int->Int->Int->Value}(h:∀a b c,p a b c=true->aF P g [jI jJ a,jI jJ b,jI jJ c] (F a b c))(args:List AV)(L:Ev.cD)(z:Bool)(r:AV)(d:Ev.cD)(q:Ee p F args L=some (z,r,d))(e:z=true):fZ P g args L r d:=by
 unfold Ee at q;split at q
 ·cases q;exact bK (h _ _ _ e)
 ·cases q
def Eg(p:Int->Int->Int->Int->Int->Bool)(F:Int->Int->Int->Int->Int->Value):AL
 | [.v (jA ⟨[jI jJ a,jI jJ b]⟩),.v (jA ⟨[jI jJ c,jI jJ d]⟩),.v (jI jJ e)],[]=>some (p a b c d e,.v (F a b c d e),[])
 |_,_=>none
theorem Pn[Gl]{P:Program}{g:FuncId}{p:Int->Int->Int->Int->Int->Bool}{F:Int->Int->Int->Int->Int->Value}(h:∀a b c d e,p a b c d e=true->aF P g [jA ⟨[jI jJ a,jI jJ b]⟩,jA ⟨[jI jJ c,jI jJ d]⟩,jI jJ e] (F a b c d e))(args:List AV)(L:Ev.cD)(z:Bool)(r:AV)(f:Ev.cD)(q:Eg p F args L=some (z,r,f))(i:z=true):fZ P g args L r f:=by
 unfold Eg at q;split at q
 ·cases q;exact bK (h _ _ _ _ _ i)
 ·cases q
def SH(p:Int->Int->Int->Int->Int->Int->Bool)(F:Int->Int->Int->Int->Int->Int->Value):AL
 | [.v (jA ⟨[jI jJ a,jI jJ b]⟩),.v (jA ⟨[jI jJ c,jI jJ d]⟩),.v (jA ⟨[jI jJ e,jI jJ f]⟩)],[]=>some (p a b c d e f,.v (F a b c d e f),[])
 |_,_=>none
theorem Po[Gl]{P:Program}{g:FuncId}{p:Int->Int->Int->Int->Int->Int->Bool}{F:Int->Int->Int->Int->Int->Int->Value}(h:∀a b c d e f,p a b c d e f=true->aF P g [jA ⟨[jI jJ a,jI jJ b]⟩,jA ⟨[jI jJ c,jI jJ d]⟩,jA ⟨[jI jJ e,jI jJ f]⟩] (F a b c d e f))(args:List AV)(L:Ev.cD)(z:Bool)(r:AV)(i:Ev.cD)(q:SH p F args L=some (z,r,i))(j:z=true):fZ P g args L r i:=by
 unfold SH at q;split at q
 ·cases q;exact bK (h _ _ _ _ _ _ j)
 ·cases q
open Ev (lt)
def Ht(r:Int×Int×Int):Value:=.tuple ⟨[jI jJ r.1,jI jJ r.2.1,jI jJ r.2.2]⟩
def qiV(r:Int×Int):Value:=.tuple ⟨[jI jJ r.1,jI jJ r.2,jI jJ 0]⟩
def OL(r:Int×Int):Value:=.tuple ⟨[aG r.1 r.2,jI jJ 0]⟩
def sG(x n d:Int):Int×Int:=(SP (x*n) d,VW (x*n) d)
theorem Ej[Gl](x n d:Int)(a:wQ x n d=true):aF zB 124 [jI jJ x,jI jJ n,jI jJ d] (qiV (sG x n d)):=Zq x n d a
def lV(a b:Int):Int×Int:=((fK a b).1,(fK a b).2.1)
def aR(a b:Int):Int×Int:=((bB a b).1,(bB a b).2.1)
theorem NH[Gl](a b:Int)(c:aB a b=true):aF zB 52 [jA ⟨[jI jJ a,jI jJ b]⟩] (OL (lV a b)):=fun w _=>by
 have:=Af a b w;have e:=(wY c).1.2.2.2;unfold aT at this;rw[e]at this;exact this
theorem JS[Gl](a b:Int)(c:aB a b=true):aF zB 53 [jA ⟨[jI jJ a,jI jJ b]⟩] (OL (aR a b)):=fun w _=>by
 have:=WI a b w;have e:=(wY c).2.1.2.2.2;unfold aT at this;rw[e]at this;exact this
def Ga(a b:Int):Bool:=decide (-1073741824<=a/\a<=b/\b<=1073741824)
theorem IH{a b:Int}(h:Ga a b=true):-1073741824<=a/\a<=b/\b<=1073741824:=of_decide_eq_true h
theorem Mm{a b:Int}(c:-1073741824<=a)(d:a<=b)(e:b<=1073741824):Ga a b=true:=decide_eq_true ⟨c,d,e⟩
def CJ(a b c:Int):Bool:=Ga a b&&decide (-268435456<=c/\c<=268435456)
def nL(a b c:Int):Int×Int:=(mn (SP (a*c) 1073741824) (SP (b*c) 1073741824),mx (VW (a*c) 1073741824) (VW (b*c) 1073741824))
theorem UC{a b c:Int}(h:CJ a b c=true):(-1073741824<=a/\a<=b/\b<=1073741824)/\-268435456<=c/\c<=268435456:=by
 unfold CJ at h;rw[Bool.and_eq_true]at h;exact⟨IH h.1,of_decide_eq_true h.2⟩
theorem Mz{a b c:Int}(h:Ga a b=true)(d:-268435456<=c)(e:c<=268435456):CJ a b c=true:=by
 unfold CJ;rw[h,decide_eq_true ⟨d,e⟩];rfl
def aFE:bW:=(23,eP (fun a b=>.bool (aB a b)))::(52,Pp aB (fun a b=>OL (lV a b)))::(53,Pp aB (fun a b=>OL (aR a b)))::(85,eP (fun a b=>.bool (aX a b)))::(116,GU (fun a b c d=>.bool (dM a b c d)))::(124,Ee wQ (fun a b c=>qiV (sG a b c)))::(125,eP (fun a b=>.bool (pJ a b)))::(134,euS (fun a b c d=>.bool (QF a b c d)))::(251,eP (fun a b=>.bool (wE a b)))::[]
theorem Lu[Gl]:aO zB aFE:=(aA (cX (fun a b W _=>kM a b W)) (aA (GV NH) (aA (GV JS) (aA (cX (fun a b W _=>gO a b W)) (aA (dZ nT) (aA (Pm Ej) (aA (cX FV) (aA (Ek YW) (aA (cX YS) dK)))))))))
theorem Gw[Gl](a b c:Int)(f:CJ a b c=true):aF zB 95 [jA ⟨[jI jJ a,jI jJ b]⟩,jI jJ c] (qiV (nL a b c)):=by
 refine aD aP Lu (t:=cond (!(aX a b)) (some (.v (.tuple ⟨[jI jJ 0,jI jJ 0,jI jJ 1]⟩))) (cond (decide (c>=(-1099511627776))) (cond (!(decide (c<=1099511627776))) (some (.v (.tuple ⟨[jI jJ 0,jI jJ 0,jI jJ 2]⟩))) (lt (sG a c 1073741824) fun d=>cond (wQ a c 1073741824) (lt (sG b c 1073741824) fun e=>cond (wQ b c 1073741824) (some (.v (.tuple ⟨[jI jJ (mn d.1 e.1),jI jJ (mx d.2 e.2),jI jJ 0]⟩))) (none)) (none))) (some (.v (.tuple ⟨[jI jJ 0,jI jJ 0,jI jJ 2]⟩))))) (by kernel_rfl) ?_;obtain⟨g,h⟩:=UC f;have v:aX a b=true:=kY (by omega) (by omega) (by omega);have e1:wQ a c 1073741824=true:=decide_eq_true (by omega);have e2:wQ b c 1073741824=true:=decide_eq_true (by omega);rw[v,decide_eq_true (show c>=-1099511627776 by omega),decide_eq_true (show c<=1099511627776 by omega)];simp only[lt,e1,e2,cond_true,Bool.not_true,cond_false];rfl
def MH(_a _b _c _d e:Int):Bool:=decide (-268435456<=e/\e<=268435456)
def Zu(a b c d e:Int):Int:=mn (mn (mn (mn (SP (a*e) c) (SP (a*e) c)) (SP (a*e) d)) (SP (b*e) c)) (SP (b*e) d)
def Zt(a b c d e:Int):Int:=mx (mx (mx (mx (VW (a*e) c) (VW (a*e) c)) (VW (a*e) d)) (VW (b*e) c)) (VW (b*e) d)
def Zr(x:Int):Bool:=decide (-1099511627776<=x/\x<=1099511627776)
def fB(a b c d e:Int):Int×Int×Int:=if dM a b c d=true then(if pJ c d=true then(0,0,16) else if Zr (Zu a b c d e)=true/\Zr (Zt a b c d e)=true then(Zu a b c d e,Zt a b c d e,0) else(0,0,5)) else(0,0,1)
theorem aAX{a b c d e:Int}(f:dM a b c d=true)(g:pJ c d=false)(h:MH a b c d e=true):wQ a e c=true/\wQ a e d=true/\wQ b e c=true/\wQ b e d=true:=by
 obtain⟨i,j,k,l,m,n⟩:=pR f;obtain⟨e1,e2⟩:=of_decide_eq_true h;have z:=of_decide_eq_false g;refine⟨decide_eq_true ?_,decide_eq_true ?_,decide_eq_true ?_,decide_eq_true ?_⟩<;>omega
theorem Zs{x:Int}(h:Zr x=true):decide (x>=-1099511627776)=true/\decide (x<=1099511627776)=true:=by
 have:=of_decide_eq_true h;exact⟨decide_eq_true (by omega),decide_eq_true (by omega)⟩
def aFF:bW:=(95,Wg CJ (fun a b c=>qiV (nL a b c)))::aFE
theorem Lw[Gl]:aO zB aFF:=(aA (Wh Gw) Lu)
theorem Gf[Gl](a b c d e:Int)(m:MH a b c d e=true):aF zB 97 [jA ⟨[jI jJ a,jI jJ b]⟩,jA ⟨[jI jJ c,jI jJ d]⟩,jI jJ e] (Ht (fB a b c d e)):=by
 refine aD aP Lw (t:=cond (!(dM a b c d)) (some (.v (.tuple ⟨[jI jJ 0,jI jJ 0,jI jJ 1]⟩))) (cond (decide (e>=(-1099511627776))) (cond (!(decide (e<=1099511627776))) (some (.v (.tuple ⟨[jI jJ 0,jI jJ 0,jI jJ 2]⟩))) (cond (pJ c d) (some (.v (.tuple ⟨[jI jJ 0,jI jJ 0,jI jJ 16]⟩))) (lt (sG a e c) fun f=>cond (wQ a e c) (lt (sG a e d) fun h=>cond (wQ a e d) (lt (sG b e c) fun i=>cond (wQ b e c) (lt (sG b e d) fun j=>cond (wQ b e d) (cond (decide ((mn (mn (mn (mn f.1 f.1) h.1) i.1) j.1)>=(-1099511627776))) (cond (!(decide ((mn (mn (mn (mn f.1 f.1) h.1) i.1) j.1)<=1099511627776))) (some (.v (.tuple ⟨[jI jJ 0,jI jJ 0,jI jJ 5]⟩))) (cond (decide ((mx (mx (mx (mx f.2 f.2) h.2) i.2) j.2)>=(-1099511627776))) (cond (!(decide ((mx (mx (mx (mx f.2 f.2) h.2) i.2) j.2)<=1099511627776))) (some (.v (.tuple ⟨[jI jJ 0,jI jJ 0,jI jJ 5]⟩))) (some (.v (.tuple ⟨[jI jJ (mn (mn (mn (mn f.1 f.1) h.1) i.1) j.1),jI jJ (mx (mx (mx (mx f.2 f.2) h.2) i.2) j.2),jI jJ 0]⟩)))) (some (.v (.tuple ⟨[jI jJ 0,jI jJ 0,jI jJ 5]⟩))))) (some (.v (.tuple ⟨[jI jJ 0,jI jJ 0,jI jJ 5]⟩)))) (none)) (none)) (none)) (none)))) (some (.v (.tuple ⟨[jI jJ 0,jI jJ 0,jI jJ 2]⟩))))) (by kernel_rfl) ?_;unfold fB;cases p:dM a b c d with
 |false=>rfl
 |true=>
  have A:=of_decide_eq_true m;rw[decide_eq_true (show e>=-1099511627776 by omega),decide_eq_true (show e<=1099511627776 by omega)];cases q:pJ c d with
  |true=>rfl
  |false=>
   obtain⟨r,s,u,w⟩:=aAX p q m;simp only[lt,r,s,u,w,cond_true,cond_false,Bool.not_true,if_true,if_false,Bool.false_eq_true];have o:mn (mn (mn (mn (sG a e c).1 (sG a e c).1) (sG a e d).1) (sG b e c).1) (sG b e d).1=Zu a b c d e:=rfl;have n:mx (mx (mx (mx (sG a e c).2 (sG a e c).2) (sG a e d).2) (sG b e c).2) (sG b e d).2=Zt a b c d e:=rfl;rw[o,n];generalize Zu a b c d e=L;generalize Zt a b c d e=H;cases k:Zr L with
   |true=>
    obtain⟨x,y⟩:=Zs k;rw[x,y];cases l:Zr H with
    |true=>
     obtain⟨g,z⟩:=Zs l;rw[g,z];simp[Ht]
    |false=>
     have:=of_decide_eq_false l;by_cases g:H>=-1099511627776
     ·rw[decide_eq_true g,decide_eq_false (show ¬H<=1099511627776 by omega)];simp[Ht]
     ·rw[decide_eq_false g];simp[Ht]
   |false=>
    have:=of_decide_eq_false k;by_cases g:L>=-1099511627776
    ·rw[decide_eq_true g,decide_eq_false (show ¬L<=1099511627776 by omega)];simp[Ht]
    ·rw[decide_eq_false g];simp[Ht]
theorem Wr(p:Int):SP p 1073741824=p/1073741824:=rfl
theorem Ux(p:Int):VW p 1073741824=-(-p/1073741824):=rfl
theorem Mr{x n N:Int}(e:-1073741824<=x)(f:x<=1073741824)(g:-N<=n)(h:n<=N):-(1073741824*N)<=x*n/\x*n<=1073741824*N:=by
 have a:=zX (show 0<=1073741824-x by omega) (show 0<=N-n by omega);have b:=zX (show 0<=1073741824+x by omega) (show 0<=N-n by omega);have c:=zX (show 0<=1073741824-x by omega) (show 0<=N+n by omega);have d:=zX (show 0<=1073741824+x by omega) (show 0<=N+n by omega);constructor<;>grind
theorem Na{a b c N:Int}(h:-1073741824<=a/\a<=b/\b<=1073741824)(d:-N<=c)(e:c<=N):-N<=(nL a b c).1/\(nL a b c).1<=(nL a b c).2/\(nL a b c).2<=N:=by
 obtain⟨i,j⟩:=Mr (x:=a) (n:=c) (N:=N) (by omega) (by omega) d e;obtain⟨k,l⟩:=Mr (x:=b) (n:=c) (N:=N) (by omega) (by omega) d e;unfold nL;rw[Wr,Wr,Ux,Ux];generalize a*c=P at*;generalize b*c=Q at*;have f:=eJ (P/1073741824) (Q/1073741824);have g:=dY (-(-P/1073741824)) (-(-Q/1073741824));dsimp only;omega
def lU(a b c d:Int):Int×Int:=(mn (nL a b c).1 (nL a b d).1,mx (nL a b c).2 (nL a b d).2)
theorem tT{a b c d N:Int}(h:-1073741824<=a/\a<=b/\b<=1073741824)(e:-N<=c)(f:c<=N)(g:-N<=d)(i:d<=N):-N<=(lU a b c d).1/\(lU a b c d).1<=(lU a b c d).2/\(lU a b c d).2<=N:=by
 have s1:=Na h e f;have l:=Na h g i;have j:=eJ (nL a b c).1 (nL a b d).1;have k:=dY (nL a b c).2 (nL a b d).2;unfold lU;dsimp only;omega
theorem Mb(x:Int):mn x x=x:=by have:=eJ x x;omega
theorem aAH(x:Int):mx x x=x:=by have:=dY x x;omega
def wF(a b c d:Int):Bool:=CJ a b c&&CJ a b d
theorem YU{a b c d:Int}(h:wF a b c d=true):CJ a b c=true/\CJ a b d=true:=by
 unfold wF at h;rwa[Bool.and_eq_true]at h
def QI(a b c d:Int):Bool:=wF c d a b
def gQ(a b c d:Int):Int×Int:=lU c d a b
def aFG:bW:=(97,Eg MH (fun a b c d e=>Ht (fB a b c d e)))::aFF
theorem Lx[Gl]:aO zB aFG:=(aA (Pn Gf) Lw)
theorem ZK[Gl](a b c d:Int)(o:wF a b c d=true):aF zB 135 [jA ⟨[jI jJ a,jI jJ b]⟩,jA ⟨[jI jJ c,jI jJ d]⟩] (OL (lU a b c d)):=by
 refine aD aP Lx (t:=lt (nL a b c) fun e=>cond (CJ a b c) (lt (nL a b d) fun f=>cond (CJ a b d) (cond (!(aB (mn (mn e.1 e.1) f.1) (mx (mx e.2 e.2) f.2))) (some (.v (.tuple ⟨[jA ⟨[jI jJ 0,jI jJ 0]⟩,jI jJ 5]⟩))) (some (.v (.tuple ⟨[jA ⟨[jI jJ (mn (mn e.1 e.1) f.1),jI jJ (mx (mx e.2 e.2) f.2)]⟩,jI jJ 0]⟩)))) (none)) (none)) (by kernel_rfl) ?_;obtain⟨g,h⟩:=YU o;obtain⟨i,j,k⟩:=UC g;obtain⟨_,m,n⟩:=UC h;have l:=tT i j k m n;unfold lU at l;have v:aB (mn (nL a b c).1 (nL a b d).1) (mx (nL a b c).2 (nL a b d).2)=true:=aW (by omega) (by omega) (by omega);simp only[lt,g,h,cond_true,Mb,v,Bool.not_true,cond_false];rfl
def aGK:bW:=(135,XA wF (fun a b c d=>OL (lU a b c d)))::aFG
theorem IF[Gl]:aO zB aGK:=(aA (KI ZK) Lx)
theorem ZW[Gl](a b c d:Int)(i:QI a b c d=true):aF zB 54 [jA ⟨[jI jJ a,jI jJ b]⟩,jA ⟨[jI jJ c,jI jJ d]⟩] (OL (gQ a b c d)):=by
 refine aD aP IF (t:=lt (nL c d a) fun e=>cond (CJ c d a) (lt (nL c d b) fun f=>cond (CJ c d b) (some (.v (.tuple ⟨[jA ⟨[jI jJ (mn e.1 f.1),jI jJ (mx e.2 f.2)]⟩,jI jJ 0]⟩))) (none)) (none)) (by kernel_rfl) ?_;obtain⟨g,h⟩:=YU (show wF c d a b=true from i);simp only[lt,g,h,cond_true];rfl
def aGQ(r:Int×Int×Int×Int):Value:=.tuple ⟨[aG r.1 r.2.1,aG r.2.2.1 r.2.2.2,jI jJ 0]⟩
def aAQ(a b c d:Int):Bool:=aB a b&&decide (0<=c/\c<=d/\d<=268435456)
def Zo(a b c d:Int):Int×Int×Int×Int:=((lU (aR a b).1 (aR a b).2 c d).1,(lU (aR a b).1 (aR a b).2 c d).2,(lU (lV a b).1 (lV a b).2 c d).1,(lU (lV a b).1 (lV a b).2 c d).2)
theorem IL{a b:Int}(h:aB a b=true):Ga (lV a b).1 (lV a b).2=true:=by
 obtain⟨c,d,e,_⟩:=(wY h).1;exact Mm c d e
theorem RZ{a b:Int}(h:aB a b=true):Ga (aR a b).1 (aR a b).2=true:=by
 obtain⟨c,d,e,_⟩:=(wY h).2.1;exact Mm c d e
theorem BJ{a b c d:Int}(h:Ga a b=true)(e:-268435456<=c)(f:c<=268435456)(g:-268435456<=d)(i:d<=268435456):wF a b c d=true:=by
 unfold wF;rw[Mz h e f,Mz h g i];rfl
theorem Ge[Gl](a b c d:Int)(h:aAQ a b c d=true):aF zB 102 [jA ⟨[jI jJ a,jI jJ b,jI jJ c,jI jJ d]⟩] (aGQ (Zo a b c d)):=by
 refine aD aP IF (t:=cond (!(QF a b c d)) (some (.v (.tuple ⟨[jA ⟨[jI jJ 0,jI jJ 0]⟩,jA ⟨[jI jJ 0,jI jJ 0]⟩,jI jJ 1]⟩))) (lt (aR a b) fun f=>cond (aB a b) (lt (lU f.1 f.2 c d) fun i=>cond (wF f.1 f.2 c d) (lt (lV a b) fun g=>cond (aB a b) (lt (lU g.1 g.2 c d) fun j=>cond (wF g.1 g.2 c d) (some (.v (.tuple ⟨[jA ⟨[jI jJ i.1,jI jJ i.2]⟩,jA ⟨[jI jJ j.1,jI jJ j.2]⟩,jI jJ 0]⟩))) (none)) (none)) (none)) (none))) (by kernel_rfl) ?_;unfold aAQ at h;rw[Bool.and_eq_true]at h;obtain⟨e,k⟩:=h;have n:=of_decide_eq_true k;have v:QF a b c d=true:=by
  unfold QF;rw[e,aW (show -1099511627776<=c by omega) (show c<=d by omega) (show d<=1099511627776 by omega),decide_eq_true (show c>=0 by omega)];rfl
 have l:=BJ (RZ e) (show -268435456<=c by omega) (show c<=268435456 by omega) (show -268435456<=d by omega) (show d<=268435456 by omega);have m:=BJ (IL e) (show -268435456<=c by omega) (show c<=268435456 by omega) (show -268435456<=d by omega) (show d<=268435456 by omega);simp only[lt,v,e,l,m,cond_true,Bool.not_true,cond_false];rfl
def ZX(_a _b _c _d e f:Int):Bool:=decide (-268435456<=e/\e<=268435456/\-268435456<=f/\f<=268435456)
theorem aB6{a b c d e f:Int}(h:ZX a b c d e f=true):-268435456<=e/\e<=268435456/\-268435456<=f/\f<=268435456:=of_decide_eq_true h
def QJ{α:Type}(K:Int->Int->Int->α)(a b c d e f:Int):α:=lt (fB a b c d e) fun x1=>cond (x1.2.2 != 0) (K 0 0 x1.2.2) (lt (fB a b c d f) fun x2=>cond (x2.2.2 != 0) (K 0 0 x2.2.2) (K (mn x1.1 x2.1) (mx x1.2.1 x2.2.1) 0))
def tX(a b c d e f:Int):Int×Int×Int:=QJ (fun p0 p1 p2=>(p0,p1,p2)) a b c d e f
theorem Gq[Gl](a b c d e f:Int)(k:ZX a b c d e f=true):aF zB 55 [jA ⟨[jI jJ a,jI jJ b]⟩,jA ⟨[jI jJ c,jI jJ d]⟩,jA ⟨[jI jJ e,jI jJ f]⟩] (aT (tX a b c d e f)):=by
 refine aD aP IF (t:=lt (fB a b c d e) fun g=>cond (MH a b c d e) (cond (g.2.2 != 0) (some (.v (.tuple ⟨[jA ⟨[jI jJ 0,jI jJ 0]⟩,jI jJ g.2.2]⟩))) (lt (fB a b c d f) fun h=>cond (MH a b c d f) (cond (h.2.2 != 0) (some (.v (.tuple ⟨[jA ⟨[jI jJ 0,jI jJ 0]⟩,jI jJ h.2.2]⟩))) (some (.v (.tuple ⟨[jA ⟨[jI jJ (mn g.1 h.1),jI jJ (mx g.2.1 h.2.1)]⟩,jI jJ 0]⟩)))) (none))) (none)) (by kernel_rfl) ?_;obtain⟨e1,e2,i,j⟩:=aB6 k;have o:MH a b c d e=true:=decide_eq_true ⟨e1,e2⟩;have p:MH a b c d f=true:=decide_eq_true ⟨i,j⟩;refine Eq.trans (b:=QJ (fun l m n=>some (.v (aT ((l,m,n))))) a b c d e f) ?_ ?_
 ·unfold QJ;simp only[lt,o,p,cond_true];rfl
 ·unfold tX QJ;repeat' first|(with_reducible refine aL (fun r:Int×Int×Int=>AV.v (aT (r))) ?_ ?_)|(with_reducible refine aY (fun r:Int×Int×Int=>AV.v (aT (r))) fun _=>?_)|rfl
def DZ(a b c d:Int):Bool:=wE a b&&(aB c d&&decide (-268435456<=c/\c<=268435456/\-268435456<=d/\d<=268435456))
theorem o7{a b c d:Int}(h:DZ a b c d=true):wE a b=true/\aB c d=true/\-268435456<=c/\c<=268435456/\-268435456<=d/\d<=268435456:=by
 unfold DZ at h;rw[Bool.and_eq_true,Bool.and_eq_true]at h;exact⟨h.1,h.2.1,of_decide_eq_true h.2.2⟩
theorem Yn{a b:Int}(h:wE a b=true):aB a b=true:=by
 unfold wE at h;cases v:aB a b with
 |true=>rfl
 |false=>rw[v]at h;exact h
def KE{α:Type}(K:Int->Int->Int->α)(a b c d:Int):α:=lt (aR a b) fun x1=>cond (decide (x1.1<=0)) (K 0 0 21) (lt (fB 1073741824 1073741824 x1.1 x1.2 c) fun x2=>cond (x2.2.2 != 0) (K 0 0 x2.2.2) (lt (fB 1073741824 1073741824 x1.1 x1.2 d) fun x3=>cond (x3.2.2 != 0) (K 0 0 x3.2.2) (cond (!(aB (mn (mn x2.1 x2.1) x3.1) (mx (mx x2.2.1 x2.2.1) x3.2.1))) (K 0 0 5) (K (mn (mn x2.1 x2.1) x3.1) (mx (mx x2.2.1 x2.2.1) x3.2.1) 0))))
def iG(a b c d:Int):Int×Int×Int:=KE (fun p0 p1 p2=>(p0,p1,p2)) a b c d
theorem Eb[Gl](a b c d:Int)(k:DZ a b c d=true):aF zB 200 [jA ⟨[jI jJ a,jI jJ b]⟩,jA ⟨[jI jJ c,jI jJ d]⟩] (aT (iG a b c d)):=by
 refine aD aP IF (t:=cond (!(wE a b)) (some (.v (.tuple ⟨[jA ⟨[jI jJ 0,jI jJ 0]⟩,jI jJ 1]⟩))) (cond (!(aB c d)) (some (.v (.tuple ⟨[jA ⟨[jI jJ 0,jI jJ 0]⟩,jI jJ 1]⟩))) (lt (aR a b) fun f=>cond (aB a b) (cond (decide (f.1<=0)) (some (.v (.tuple ⟨[jA ⟨[jI jJ 0,jI jJ 0]⟩,jI jJ 21]⟩))) (lt (fB 1073741824 1073741824 f.1 f.2 c) fun e=>cond (MH 1073741824 1073741824 f.1 f.2 c) (cond (e.2.2 != 0) (some (.v (.tuple ⟨[jA ⟨[jI jJ 0,jI jJ 0]⟩,jI jJ e.2.2]⟩))) (lt (fB 1073741824 1073741824 f.1 f.2 d) fun g=>cond (MH 1073741824 1073741824 f.1 f.2 d) (cond (g.2.2 != 0) (some (.v (.tuple ⟨[jA ⟨[jI jJ 0,jI jJ 0]⟩,jI jJ g.2.2]⟩))) (cond (!(aB (mn (mn e.1 e.1) g.1) (mx (mx e.2.1 e.2.1) g.2.1))) (some (.v (.tuple ⟨[jA ⟨[jI jJ 0,jI jJ 0]⟩,jI jJ 5]⟩))) (some (.v (.tuple ⟨[jA ⟨[jI jJ (mn (mn e.1 e.1) g.1),jI jJ (mx (mx e.2.1 e.2.1) g.2.1)]⟩,jI jJ 0]⟩))))) (none))) (none))) (none)))) (by kernel_rfl) ?_;obtain⟨h,q,e1,e2,i,j⟩:=o7 k;have s:aB a b=true:=Yn h;have o:∀x y,MH 1073741824 1073741824 x y c=true:=fun _ _=>decide_eq_true ⟨e1,e2⟩;have p:∀x y,MH 1073741824 1073741824 x y d=true:=fun _ _=>decide_eq_true ⟨i,j⟩;refine Eq.trans (b:=KE (fun l m n=>some (.v (aT ((l,m,n))))) a b c d) ?_ ?_
 ·unfold KE;simp only[lt,h,q,s,o,p,cond_true,cond_false,Bool.not_true];rfl
 ·unfold iG KE;repeat' first|(with_reducible refine aL (fun r:Int×Int×Int=>AV.v (aT (r))) ?_ ?_)|(with_reducible refine aY (fun r:Int×Int×Int=>AV.v (aT (r))) fun _=>?_)|rfl
end
section
open Ev
open Ev (Gl)
open Ev (lt)
def Q5(q:Int×Int×Int×Int×Int)(c d e f:Int):Bool:=decide (q.2.2.2.2=0/\-5400000<=q.1/\q.1<=q.2.1/\q.2.1<=5400000/\-10800000<=c/\c<=d/\d<=10800000/\-10800000<=e/\e<=f/\f<=10800000)
def kB(q:Int×Int×Int×Int×Int)(c d e f:Int):Int×Int×Int×Int×Int:=
 if q.1+c< -5400000\/5400000<q.2.1+d then(0,0,0,0,21) else
 if (iG (mn q.1 (q.1+c)) (mx q.2.1 (q.2.1+d)) e f).2.2=0 then
  (q.1+c,q.2.1+d,(dS (i64.wrap (q.2.2.1+(iG (mn q.1 (q.1+c)) (mx q.2.1 (q.2.1+d)) e f).1)) (i64.wrap (q.2.2.2.1+(iG (mn q.1 (q.1+c)) (mx q.2.1 (q.2.1+d)) e f).2.1))).1,(dS (i64.wrap (q.2.2.1+(iG (mn q.1 (q.1+c)) (mx q.2.1 (q.2.1+d)) e f).1)) (i64.wrap (q.2.2.2.1+(iG (mn q.1 (q.1+c)) (mx q.2.1 (q.2.1+d)) e f).2.1))).2,0)
 else(0,0,0,0,(iG (mn q.1 (q.1+c)) (mx q.2.1 (q.2.1+d)) e f).2.2)
def aFX(x1:Int×Int×Int×Int×Int)(c d e f:Int):Option AV:=
 cond (x1.2.2.2.2 != 0) (some (.v (.tuple ⟨[jA ⟨[jI jJ 0,jI jJ 0,jI jJ 0,jI jJ 0]⟩,jI jJ x1.2.2.2.2]⟩))) (cond (decide (i64.wrap (x1.1+c)<(-5400000))) (some (.v (.tuple ⟨[jA ⟨[jI jJ 0,jI jJ 0,jI jJ 0,jI jJ 0]⟩,jI jJ 21]⟩))) (cond (decide (i64.wrap (x1.2.1+d)>5400000)) (some (.v (.tuple ⟨[jA ⟨[jI jJ 0,jI jJ 0,jI jJ 0,jI jJ 0]⟩,jI jJ 21]⟩))) (lt (iG (mn x1.1 (i64.wrap (x1.1+c))) (mx x1.2.1 (i64.wrap (x1.2.1+d))) e f) fun x2=>cond (DZ (mn x1.1 (i64.wrap (x1.1+c))) (mx x1.2.1 (i64.wrap (x1.2.1+d))) e f) (cond (x2.2.2 != 0) (some (.v (.tuple ⟨[jA ⟨[jI jJ 0,jI jJ 0,jI jJ 0,jI jJ 0]⟩,jI jJ x2.2.2]⟩))) (lt (dS (i64.wrap (x1.2.2.1+x2.1)) (i64.wrap (x1.2.2.2.1+x2.2.1))) fun x3=>some (.v (.tuple ⟨[jA ⟨[jI jJ (i64.wrap (x1.1+c)),jI jJ (i64.wrap (x1.2.1+d)),jI jJ x3.1,jI jJ x3.2]⟩,jI jJ 0]⟩)))) (none))))
theorem pG{q:Int×Int×Int×Int×Int}{c d e f:Int}(k:Q5 q c d e f=true):aFX q c d e f=some (.v (fM (kB q c d e f))):=by
 obtain⟨i,o,p,r,s,t,u,w,j,y⟩:=of_decide_eq_true k;unfold aFX kB;rw[bZ (x:=q.1+c) (by omega),bZ (x:=q.2.1+d) (by omega),i];have e0:((0:Int) != 0)=false:=rfl;rw[e0,cond_false];by_cases a:q.1+c< -5400000
 ·rw[decide_eq_true a,cond_true,if_pos (.inl a)];rfl
 rw[decide_eq_false a,cond_false];by_cases b:5400000<q.2.1+d
 ·rw[decide_eq_true (show q.2.1+d>5400000 from b),cond_true,if_pos (.inr b)];rfl
 rw[decide_eq_false (show ¬q.2.1+d>5400000 from b),cond_false,if_neg (fun h=>h.elim a b)];have z:=eJ q.1 (q.1+c);have A:=dY q.2.1 (q.2.1+d);have l:aB (mn q.1 (q.1+c)) (mx q.2.1 (q.2.1+d))=true:=aW (by omega) (by omega) (by omega);have m:wE (mn q.1 (q.1+c)) (mx q.2.1 (q.2.1+d))=true:=by
  unfold wE;rw[l,decide_eq_true (show mn q.1 (q.1+c)>=-5400000 by omega),decide_eq_true (show mx q.2.1 (q.2.1+d)<=5400000 by omega)];rfl
 have n:DZ (mn q.1 (q.1+c)) (mx q.2.1 (q.2.1+d)) e f=true:=by
  unfold DZ;rw[m,aW (show -1099511627776<=e by omega) j (by omega),decide_eq_true (show -268435456<=e/\e<=268435456/\-268435456<=f/\f<=268435456 by omega)];rfl
 simp only[lt];rw[n,cond_true];by_cases g:(iG (mn q.1 (q.1+c)) (mx q.2.1 (q.2.1+d)) e f).2.2=0
 ·rw[if_pos g,g,e0,cond_false];rfl
 ·rw[if_neg g,bne_iff_ne.2 g,cond_true];rfl
def aFL(a b c d e f:Int):Bool:=Q5 (VQ a b) c d e f
def aFR(a b c d e f:Int):Int×Int×Int×Int×Int:=kB (VQ a b) c d e f
def aFm:bW:=(190,eC0 (fun a b=>fM (VQ a b)))::(200,XA DZ (fun a b c d=>aT (iG a b c d)))::(201,eP (fun a b=>aG (dS a b).1 (dS a b).2))::[]
theorem Kx[Gl]:aO zB aFm:=(aA (Vx Cv) (aA (KI Eb) (aA (cX UR) dK)))
theorem Fp[Gl](a b c d e f:Int)(j:aFL a b c d e f=true):aF zB 138 [jA ⟨[jI jJ 0,jI jJ a,jI jJ b]⟩,jA ⟨[jI jJ c,jI jJ d]⟩,jA ⟨[jI jJ e,jI jJ f]⟩] (fM (aFR a b c d e f)):=by
 refine aD aP Kx (t:=lt (VQ a b) fun g=>cond (g.2.2.2.2 != 0) (some (.v (.tuple ⟨[jA ⟨[jI jJ 0,jI jJ 0,jI jJ 0,jI jJ 0]⟩,jI jJ g.2.2.2.2]⟩))) (cond (decide (i64.wrap (g.1+c)<(-5400000))) (some (.v (.tuple ⟨[jA ⟨[jI jJ 0,jI jJ 0,jI jJ 0,jI jJ 0]⟩,jI jJ 21]⟩))) (cond (decide (i64.wrap (g.2.1+d)>5400000)) (some (.v (.tuple ⟨[jA ⟨[jI jJ 0,jI jJ 0,jI jJ 0,jI jJ 0]⟩,jI jJ 21]⟩))) (lt (iG (mn g.1 (i64.wrap (g.1+c))) (mx g.2.1 (i64.wrap (g.2.1+d))) e f) fun h=>cond (DZ (mn g.1 (i64.wrap (g.1+c))) (mx g.2.1 (i64.wrap (g.2.1+d))) e f) (cond (h.2.2 != 0) (some (.v (.tuple ⟨[jA ⟨[jI jJ 0,jI jJ 0,jI jJ 0,jI jJ 0]⟩,jI jJ h.2.2]⟩))) (lt (dS (i64.wrap (g.2.2.1+h.1)) (i64.wrap (g.2.2.2.1+h.2.1))) fun i=>some (.v (.tuple ⟨[jA ⟨[jI jJ (i64.wrap (g.1+c)),jI jJ (i64.wrap (g.2.1+d)),jI jJ i.1,jI jJ i.2]⟩,jI jJ 0]⟩)))) (none))))) (by kernel_rfl) ?_;exact pG (q:=VQ a b) j
def aFM(a b c d e f:Int):Bool:=Q5 (VR a b) c d e f
def aFS(a b c d e f:Int):Int×Int×Int×Int×Int:=kB (VR a b) c d e f
def aFn:bW:=(190,eC1 (fun a b=>fM (VR a b)))::aFm
theorem Ky[Gl]:aO zB aFn:=(aA (Vy Cw) Kx)
theorem Fq[Gl](a b c d e f:Int)(j:aFM a b c d e f=true):aF zB 138 [jA ⟨[jI jJ 1,jI jJ a,jI jJ b]⟩,jA ⟨[jI jJ c,jI jJ d]⟩,jA ⟨[jI jJ e,jI jJ f]⟩] (fM (aFS a b c d e f)):=by
 refine aD aP Ky (t:=lt (VR a b) fun g=>cond (g.2.2.2.2 != 0) (some (.v (.tuple ⟨[jA ⟨[jI jJ 0,jI jJ 0,jI jJ 0,jI jJ 0]⟩,jI jJ g.2.2.2.2]⟩))) (cond (decide (i64.wrap (g.1+c)<(-5400000))) (some (.v (.tuple ⟨[jA ⟨[jI jJ 0,jI jJ 0,jI jJ 0,jI jJ 0]⟩,jI jJ 21]⟩))) (cond (decide (i64.wrap (g.2.1+d)>5400000)) (some (.v (.tuple ⟨[jA ⟨[jI jJ 0,jI jJ 0,jI jJ 0,jI jJ 0]⟩,jI jJ 21]⟩))) (lt (iG (mn g.1 (i64.wrap (g.1+c))) (mx g.2.1 (i64.wrap (g.2.1+d))) e f) fun h=>cond (DZ (mn g.1 (i64.wrap (g.1+c))) (mx g.2.1 (i64.wrap (g.2.1+d))) e f) (cond (h.2.2 != 0) (some (.v (.tuple ⟨[jA ⟨[jI jJ 0,jI jJ 0,jI jJ 0,jI jJ 0]⟩,jI jJ h.2.2]⟩))) (lt (dS (i64.wrap (g.2.2.1+h.1)) (i64.wrap (g.2.2.2.1+h.2.1))) fun i=>some (.v (.tuple ⟨[jA ⟨[jI jJ (i64.wrap (g.1+c)),jI jJ (i64.wrap (g.2.1+d)),jI jJ i.1,jI jJ i.2]⟩,jI jJ 0]⟩)))) (none))))) (by kernel_rfl) ?_;exact pG (q:=VR a b) j
def aFN(a b c d e f:Int):Bool:=Q5 (VS a b) c d e f
def aFT(a b c d e f:Int):Int×Int×Int×Int×Int:=kB (VS a b) c d e f
def aFo:bW:=(190,eC2 (fun a b=>fM (VS a b)))::aFn
theorem La[Gl]:aO zB aFo:=(aA (Vz Cx) Ky)
theorem Fr[Gl](a b c d e f:Int)(j:aFN a b c d e f=true):aF zB 138 [jA ⟨[jI jJ 2,jI jJ a,jI jJ b]⟩,jA ⟨[jI jJ c,jI jJ d]⟩,jA ⟨[jI jJ e,jI jJ f]⟩] (fM (aFT a b c d e f)):=by
 refine aD aP La (t:=lt (VS a b) fun g=>cond (g.2.2.2.2 != 0) (some (.v (.tuple ⟨[jA ⟨[jI jJ 0,jI jJ 0,jI jJ 0,jI jJ 0]⟩,jI jJ g.2.2.2.2]⟩))) (cond (decide (i64.wrap (g.1+c)<(-5400000))) (some (.v (.tuple ⟨[jA ⟨[jI jJ 0,jI jJ 0,jI jJ 0,jI jJ 0]⟩,jI jJ 21]⟩))) (cond (decide (i64.wrap (g.2.1+d)>5400000)) (some (.v (.tuple ⟨[jA ⟨[jI jJ 0,jI jJ 0,jI jJ 0,jI jJ 0]⟩,jI jJ 21]⟩))) (lt (iG (mn g.1 (i64.wrap (g.1+c))) (mx g.2.1 (i64.wrap (g.2.1+d))) e f) fun h=>cond (DZ (mn g.1 (i64.wrap (g.1+c))) (mx g.2.1 (i64.wrap (g.2.1+d))) e f) (cond (h.2.2 != 0) (some (.v (.tuple ⟨[jA ⟨[jI jJ 0,jI jJ 0,jI jJ 0,jI jJ 0]⟩,jI jJ h.2.2]⟩))) (lt (dS (i64.wrap (g.2.2.1+h.1)) (i64.wrap (g.2.2.2.1+h.2.1))) fun i=>some (.v (.tuple ⟨[jA ⟨[jI jJ (i64.wrap (g.1+c)),jI jJ (i64.wrap (g.2.1+d)),jI jJ i.1,jI jJ i.2]⟩,jI jJ 0]⟩)))) (none))))) (by kernel_rfl) ?_;exact pG (q:=VS a b) j
def aFO(a b c d e f:Int):Bool:=Q5 (VT a b) c d e f
def aFU(a b c d e f:Int):Int×Int×Int×Int×Int:=kB (VT a b) c d e f
def aFp:bW:=(190,eC3 (fun a b=>fM (VT a b)))::aFo
theorem Lb[Gl]:aO zB aFp:=(aA (Wb Cy) La)
theorem Fs[Gl](a b c d e f:Int)(j:aFO a b c d e f=true):aF zB 138 [jA ⟨[jI jJ 3,jI jJ a,jI jJ b]⟩,jA ⟨[jI jJ c,jI jJ d]⟩,jA ⟨[jI jJ e,jI jJ f]⟩] (fM (aFU a b c d e f)):=by
 refine aD aP Lb (t:=lt (VT a b) fun g=>cond (g.2.2.2.2 != 0) (some (.v (.tuple ⟨[jA ⟨[jI jJ 0,jI jJ 0,jI jJ 0,jI jJ 0]⟩,jI jJ g.2.2.2.2]⟩))) (cond (decide (i64.wrap (g.1+c)<(-5400000))) (some (.v (.tuple ⟨[jA ⟨[jI jJ 0,jI jJ 0,jI jJ 0,jI jJ 0]⟩,jI jJ 21]⟩))) (cond (decide (i64.wrap (g.2.1+d)>5400000)) (some (.v (.tuple ⟨[jA ⟨[jI jJ 0,jI jJ 0,jI jJ 0,jI jJ 0]⟩,jI jJ 21]⟩))) (lt (iG (mn g.1 (i64.wrap (g.1+c))) (mx g.2.1 (i64.wrap (g.2.1+d))) e f) fun h=>cond (DZ (mn g.1 (i64.wrap (g.1+c))) (mx g.2.1 (i64.wrap (g.2.1+d))) e f) (cond (h.2.2 != 0) (some (.v (.tuple ⟨[jA ⟨[jI jJ 0,jI jJ 0,jI jJ 0,jI jJ 0]⟩,jI jJ h.2.2]⟩))) (lt (dS (i64.wrap (g.2.2.1+h.1)) (i64.wrap (g.2.2.2.1+h.2.1))) fun i=>some (.v (.tuple ⟨[jA ⟨[jI jJ (i64.wrap (g.1+c)),jI jJ (i64.wrap (g.2.1+d)),jI jJ i.1,jI jJ i.2]⟩,jI jJ 0]⟩)))) (none))))) (by kernel_rfl) ?_;exact pG (q:=VT a b) j
def aFP(a b c d e f:Int):Bool:=Q5 (VU a b) c d e f
def aFV(a b c d e f:Int):Int×Int×Int×Int×Int:=kB (VU a b) c d e f
def aFq:bW:=(190,eC4 (fun a b=>fM (VU a b)))::aFp
theorem Lc[Gl]:aO zB aFq:=(aA (Wd Cz) Lb)
theorem Ft[Gl](a b c d e f:Int)(j:aFP a b c d e f=true):aF zB 138 [jA ⟨[jI jJ 4,jI jJ a,jI jJ b]⟩,jA ⟨[jI jJ c,jI jJ d]⟩,jA ⟨[jI jJ e,jI jJ f]⟩] (fM (aFV a b c d e f)):=by
 refine aD aP Lc (t:=lt (VU a b) fun g=>cond (g.2.2.2.2 != 0) (some (.v (.tuple ⟨[jA ⟨[jI jJ 0,jI jJ 0,jI jJ 0,jI jJ 0]⟩,jI jJ g.2.2.2.2]⟩))) (cond (decide (i64.wrap (g.1+c)<(-5400000))) (some (.v (.tuple ⟨[jA ⟨[jI jJ 0,jI jJ 0,jI jJ 0,jI jJ 0]⟩,jI jJ 21]⟩))) (cond (decide (i64.wrap (g.2.1+d)>5400000)) (some (.v (.tuple ⟨[jA ⟨[jI jJ 0,jI jJ 0,jI jJ 0,jI jJ 0]⟩,jI jJ 21]⟩))) (lt (iG (mn g.1 (i64.wrap (g.1+c))) (mx g.2.1 (i64.wrap (g.2.1+d))) e f) fun h=>cond (DZ (mn g.1 (i64.wrap (g.1+c))) (mx g.2.1 (i64.wrap (g.2.1+d))) e f) (cond (h.2.2 != 0) (some (.v (.tuple ⟨[jA ⟨[jI jJ 0,jI jJ 0,jI jJ 0,jI jJ 0]⟩,jI jJ h.2.2]⟩))) (lt (dS (i64.wrap (g.2.2.1+h.1)) (i64.wrap (g.2.2.2.1+h.2.1))) fun i=>some (.v (.tuple ⟨[jA ⟨[jI jJ (i64.wrap (g.1+c)),jI jJ (i64.wrap (g.2.1+d)),jI jJ i.1,jI jJ i.2]⟩,jI jJ 0]⟩)))) (none))))) (by kernel_rfl) ?_;exact pG (q:=VU a b) j
def aFQ(a b c d e f:Int):Bool:=Q5 (VV a b) c d e f
def aFW(a b c d e f:Int):Int×Int×Int×Int×Int:=kB (VV a b) c d e f
def aGI:bW:=(190,eC5 (fun a b=>fM (VV a b)))::aFq
theorem aAm[Gl]:aO zB aGI:=(aA (We Da) Lc)
theorem Fu[Gl](a b c d e f:Int)(j:aFQ a b c d e f=true):aF zB 138 [jA ⟨[jI jJ 5,jI jJ a,jI jJ b]⟩,jA ⟨[jI jJ c,jI jJ d]⟩,jA ⟨[jI jJ e,jI jJ f]⟩] (fM (aFW a b c d e f)):=by
 refine aD aP aAm (t:=lt (VV a b) fun g=>cond (g.2.2.2.2 != 0) (some (.v (.tuple ⟨[jA ⟨[jI jJ 0,jI jJ 0,jI jJ 0,jI jJ 0]⟩,jI jJ g.2.2.2.2]⟩))) (cond (decide (i64.wrap (g.1+c)<(-5400000))) (some (.v (.tuple ⟨[jA ⟨[jI jJ 0,jI jJ 0,jI jJ 0,jI jJ 0]⟩,jI jJ 21]⟩))) (cond (decide (i64.wrap (g.2.1+d)>5400000)) (some (.v (.tuple ⟨[jA ⟨[jI jJ 0,jI jJ 0,jI jJ 0,jI jJ 0]⟩,jI jJ 21]⟩))) (lt (iG (mn g.1 (i64.wrap (g.1+c))) (mx g.2.1 (i64.wrap (g.2.1+d))) e f) fun h=>cond (DZ (mn g.1 (i64.wrap (g.1+c))) (mx g.2.1 (i64.wrap (g.2.1+d))) e f) (cond (h.2.2 != 0) (some (.v (.tuple ⟨[jA ⟨[jI jJ 0,jI jJ 0,jI jJ 0,jI jJ 0]⟩,jI jJ h.2.2]⟩))) (lt (dS (i64.wrap (g.2.2.1+h.1)) (i64.wrap (g.2.2.2.1+h.2.1))) fun i=>some (.v (.tuple ⟨[jA ⟨[jI jJ (i64.wrap (g.1+c)),jI jJ (i64.wrap (g.2.1+d)),jI jJ i.1,jI jJ i.2]⟩,jI jJ 0]⟩)))) (none))))) (by kernel_rfl) ?_;exact pG (q:=VV a b) j
end
section
open Go.RowKit
def nQ(V:Int):Value:=bA (V%18446744073709551616) (V/18446744073709551616%18446744073709551616) (V/340282366920938463463374607431768211456%18446744073709551616) (V/6277101735386680763835789423207666416102355444464034512896)
theorem eY{V:Int}(h:IU V):∃a b c d:Int,(aU a/\aU b/\aU c/\aU d)/\num a b c d=V/\nQ V=bA d c b a:=by
 obtain⟨e,f⟩:=h;refine⟨V/6277101735386680763835789423207666416102355444464034512896,V/340282366920938463463374607431768211456%18446744073709551616,V/18446744073709551616%18446744073709551616,V%18446744073709551616,⟨⟨?_,?_⟩,⟨?_,?_⟩,⟨?_,?_⟩,⟨?_,?_⟩⟩,?_,rfl⟩;all_goals (first|omega|(unfold num;omega))
theorem uV{a b c d:Int}(h:aU a/\aU b/\aU c/\aU d):nQ (num a b c d)=bA d c b a:=by
 obtain⟨⟨_,_⟩,⟨_,_⟩,⟨_,_⟩,⟨_,_⟩⟩:=h;have e0:num a b c d/6277101735386680763835789423207666416102355444464034512896=a:=by unfold num;omega
 have e1:num a b c d/340282366920938463463374607431768211456%18446744073709551616=b:=by unfold num;omega
 have e2:num a b c d/18446744073709551616%18446744073709551616=c:=by unfold num;omega
 have e:num a b c d%18446744073709551616=d:=by unfold num;omega
 unfold nQ;rw[e0,e1,e2,e]
theorem F5(a b:Int)(E:IU a)(G:IU b)(w:World):Calls zB 182 #[nQ a,nQ b] w (bI (nQ ((a-b)%115792089237316195423570985008687907853269984665640564039457584007913129639936)) w):=by
 obtain⟨t,u,v,x,⟨c,d,e,f⟩,rfl,D⟩:=eY E;obtain⟨y,z,A,B,⟨g,h,i,j⟩,rfl,eb⟩:=eY G;rw[D,eb];obtain⟨n,L,r,d3,N,K⟩:=fS x B 0 f j (by omega);obtain⟨m,k,q,d2,e2,J⟩:=fS v A L e i d3;obtain⟨s1,c1,p,d1,e1,I⟩:=fS u z k d h d2;obtain⟨l,O,o,M,e0,E0⟩:=fS t y c1 c g d1;have H:(num t u v x-num y z A B)%115792089237316195423570985008687907853269984665640564039457584007913129639936=num l s1 m n:=by
  obtain⟨_,_⟩:=o;obtain⟨_,_⟩:=p;obtain⟨_,_⟩:=q;obtain⟨_,_⟩:=r;clear E0 I J K;unfold num;omega
 rw[H,uV ⟨o,p,q,r⟩];clear D eb H E G;clear o p q r M d1 d2 d3 e0 e1 e2 N c d e f g h i j;have s:=zA (show ∀c1 k:Array Value,bI (bA n m s1 l) w (.returned (bA n m s1 l)) (((w.alloc (jC c1 211)).alloc (jC k 211)).alloc (jC #[jI jU n,jI jU m,jI jU s1,jI jU l] 211)).drew.drew.drew.drew from fun c1 k=>⟨rfl,((((((zD _ _).alloc (zC _) _).alloc (by simp) _).alloc (by simp;omega) _).drew).drew).drew.drew⟩);unfold bA at s ⊢;go_enter Tryz.func182,Tryz.ntmps182;go_wp2;refine wp_loop_rounds 5 ?_;rw[rounds_succ];go_wp2;go_region
 go_wp2;rw[rounds_succ];go_wp2;go_region
 go_wp2;rw[rounds_succ];go_wp2;go_region
 go_wp2;rw[rounds_succ];go_wp2;go_region
 go_wp2;rw[rounds_succ];go_wp2;simp[bodyPost,results,Tryz.results182,go_sem];exact s.out _ _
theorem Zw(a b:Int)(E:IU a)(G:IU b)(w:World):Calls zB 180 #[nQ a,nQ b] w (bI (nQ ((a+b)%115792089237316195423570985008687907853269984665640564039457584007913129639936)) w):=by
 obtain⟨t,u,v,x,⟨c,d,e,f⟩,rfl,D⟩:=eY E;obtain⟨y,z,A,B,⟨g,h,i,j⟩,rfl,eb⟩:=eY G;rw[D,eb];obtain⟨n,L,r,d3,N,K⟩:=lG x B 0 f j (by omega);obtain⟨m,k,q,d2,e2,J⟩:=lG v A L e i d3;obtain⟨s1,c1,p,d1,e1,I⟩:=lG u z k d h d2;obtain⟨l,O,o,M,e0,E0⟩:=lG t y c1 c g d1;have H:(num t u v x+num y z A B)%115792089237316195423570985008687907853269984665640564039457584007913129639936=num l s1 m n:=by
  obtain⟨_,_⟩:=o;obtain⟨_,_⟩:=p;obtain⟨_,_⟩:=q;obtain⟨_,_⟩:=r;clear E0 I J K;unfold num;omega
 rw[H,uV ⟨o,p,q,r⟩];clear D eb H E G;clear o p q r M d1 d2 d3 e0 e1 e2 N c d e f g h i j;have s:=zA (show ∀c1 k:Array Value,bI (bA n m s1 l) w (.returned (bA n m s1 l)) (((w.alloc (jC c1 211)).alloc (jC k 211)).alloc (jC #[jI jU n,jI jU m,jI jU s1,jI jU l] 211)).drew.drew.drew.drew from fun c1 k=>⟨rfl,((((((zD _ _).alloc (zC _) _).alloc (by simp) _).alloc (by simp;omega) _).drew).drew).drew.drew⟩);unfold bA at s ⊢;go_enter Tryz.func180,Tryz.ntmps180;go_wp2;refine wp_loop_rounds 5 ?_;rw[rounds_succ];go_wp2;go_region
 go_wp2;rw[rounds_succ];go_wp2;go_region
 go_wp2;rw[rounds_succ];go_wp2;go_region
 go_wp2;rw[rounds_succ];go_wp2;go_region
 go_wp2;rw[rounds_succ];go_wp2;simp[bodyPost,results,Tryz.results180,go_sem];exact s.out _ _
theorem aB0(a n:Int)(D:IU a)(b:0<=n)(c:n<=4611686018427387904)(w:World):Calls zB 187 #[nQ a,jI jU n] w (bI (nQ (a*n%115792089237316195423570985008687907853269984665640564039457584007913129639936)) w):=by
 obtain⟨d,f,g,h,⟨i,j,k,l⟩,rfl,B⟩:=eY D;rw[B];obtain⟨x3,y3,t,Q,t3,y,d3,L,q,J,z3⟩:=mC h n 0 4611686018427387904 l b c (by omega) (by omega) (by omega);obtain⟨x2,y2,s,O,t2,x,d2,e2,p,I,z2⟩:=mC g n t3 4611686018427387904 k b c (by omega) d3.1 d3.2;obtain⟨x1,y1,s1,N,t1,v,d1,e1,o,H,z1⟩:=mC f n t2 4611686018427387904 j b c (by omega) d2.1 d2.2;obtain⟨Z,y0,r,M,Y,u,K,e0,m,G,z0⟩:=mC d n t1 4611686018427387904 i b c (by omega) d1.1 d1.2;have E:num d f g h*n%115792089237316195423570985008687907853269984665640564039457584007913129639936=num r s1 s t:=by
  have e:num d f g h*n=d*n*6277101735386680763835789423207666416102355444464034512896+f*n*340282366920938463463374607431768211456+g*n*18446744073709551616+h*n:=by unfold num;grind
  rw[e];obtain⟨_,_⟩:=u;obtain⟨_,_⟩:=v;obtain⟨_,_⟩:=x;obtain⟨_,_⟩:=y;clear m o p q G H I J i j k l;generalize d*n=R at*;generalize f*n=U at*;generalize g*n=V at*;generalize h*n=X at*;unfold num;omega
 rw[E,uV ⟨u,v,x,y⟩];clear B E D e0 e1 e2 L K d1 d2 d3 u v x y;have m:=zA m;have o:=zA o;have p:=zA p;have q:=zA q;have A:=zA (show ∀c1:Array Value,bI (bA t s s1 r) w (.returned (bA t s s1 r)) ((w.alloc (jC c1 211)).alloc (jC #[jI jU t,jI jU s,jI jU s1,jI jU r] 211))from fun c1=>⟨rfl,((zD _ _).alloc (zC _) _).alloc (by simp) _⟩);unfold bA at A ⊢;go_enter Tryz.func187,Tryz.ntmps187;go_wp2;refine wp_loop_rounds 5 ?_;rw[rounds_succ];go_wp2_with (first|(go_at_call 236;refine(q.out _).mono ?_;rintro e z ⟨rfl,rfl⟩))
 rw[rounds_succ];go_wp2_with (first|(go_at_call 236;refine(p.out _).mono ?_;rintro e z ⟨rfl,rfl⟩))
 rw[rounds_succ];go_wp2_with (first|(go_at_call 236;refine(o.out _).mono ?_;rintro e z ⟨rfl,rfl⟩))
 rw[rounds_succ];go_wp2_with (first|(go_at_call 236;refine(m.out _).mono ?_;rintro e z ⟨rfl,rfl⟩))
 rw[rounds_succ];go_wp2_with fail
 simp[bodyPost,results,Tryz.results187,go_sem];exact A.out _
theorem Rb(a d:Int)(U:IU a)(k:0<d)(b:d<4294967296)(w:World):Calls zB 185 #[nQ a,jI jU d] w (bI (nQ (a/d)) w):=by
 obtain⟨D,E,G,H,⟨g,h,i,j⟩,rfl,I⟩:=eY U;rw[I];obtain⟨X,r0,N,p,M,l,e0,E0⟩:=dQ 0 D d k b (by omega) k g.1 g.2;obtain⟨s1,r1,O,q,d1,m,e1,z⟩:=dQ r0 E d k b M l h.1 h.2;obtain⟨Y,r2,Q,r,d2,n,e2,A⟩:=dQ r1 G d k b d1 m i.1 i.2;obtain⟨Z,r3,R,s,d3,o,e3,B⟩:=dQ r2 H d k b d2 n j.1 j.2;have V:num D E G H/d=num X s1 Y Z:=by
  have e:num D E G H=r3+num X s1 Y Z*d:=by
   clear E0 z A B I;unfold num;grind
  rw[e,Int.add_mul_ediv_right _ _ (by omega),Int.ediv_eq_zero_of_lt d3 o];omega
 rw[V,uV ⟨⟨N,p⟩,⟨O,q⟩,⟨Q,r⟩,⟨R,s⟩⟩];clear I V U;clear N p O q Q r R s M l d1 m d2 n d3 o e0 e1 e2 e3 g h i j k b;have E0:=zA E0;have z:=zA z;have A:=zA A;have B:=zA B;unfold bA;go_enter Tryz.func185,Tryz.ntmps185;go_wp2;refine wp_loop_rounds 5 ?_;rw[rounds_succ];go_wp2_with fail
 refine(E0.out _).mono ?_;rintro e L ⟨rfl,c⟩;obtain⟨w1,rfl,K,J⟩:=mD _ _ _ _ c;clear c;go_wp2_with fail
 rw[rounds_succ];go_wp2_with fail
 refine(z.out _).mono ?_;rintro e L ⟨rfl,c⟩;obtain⟨w2,rfl,x,t⟩:=mD _ _ _ _ c;clear c;rw[K]at t x;go_wp2_with fail
 rw[rounds_succ];go_wp2_with fail
 refine(A.out _).mono ?_;rintro e L ⟨rfl,c⟩;obtain⟨w3,rfl,y,u⟩:=mD _ _ _ _ c;clear c;rw[x]at u y;go_wp2_with fail
 rw[rounds_succ];go_wp2_with fail
 refine(B.out _).mono ?_;rintro e L ⟨rfl,c⟩;obtain⟨w4,rfl,f,v⟩:=mD _ _ _ _ c;clear c;rw[y]at v f;go_wp2_with fail
 rw[rounds_succ];go_wp2_with fail
 have hB:=(((J.trans t).trans u).trans v);simp[bodyPost,results,Tryz.results185,go_sem,f];exact⟨rfl,(hB.alloc (by rw[f];exact zC _) _).alloc (by simp[f]) _⟩
theorem aB4(a b:Int)(j:IU a)(f:IU b)(w:World):Calls zB 184 #[nQ a,nQ b] w (bI (.bool (decide (a<b))) w):=by
 obtain⟨k,l,m,n,⟨⟨_,_⟩,⟨_,_⟩,⟨_,_⟩,⟨_,_⟩⟩,g,u⟩:=eY j;obtain⟨o,p,q,r,⟨⟨_,_⟩,⟨_,_⟩,⟨_,_⟩,⟨_,_⟩⟩,i,eb⟩:=eY f;rw[u,eb];obtain⟨V,s⟩:∃V,V=Value.bool (decide (a<b)):=⟨_,rfl⟩;rw[<-s];have d:∀v:Bool,decide (a<b)=v->∀t,Below w.heap.size w t->bI V w (.returned (.bool v)) t:=fun v h t f=>⟨by rw[s,h],f⟩;have c:=zA (((zD w.heap.size w).alloc (zC _) (jC #[jI jU n,jI jU m,jI jU l,jI jU k] 211)).alloc (by simp) (jC #[jI jU r,jI jU q,jI jU p,jI jU o] 211));unfold num at g i;unfold bA;clear s u eb;rcases qV k o with h|h|h
 ·have e:=zA (d true (by rw[decide_eq_true];omega));clear d g i j f;go_enter Tryz.func184,Tryz.ntmps184;go_wp2;refine wp_loop_rounds 5 ?_;rw[rounds_succ];go_wp2;go_quiet (fail)
  go_wp2;go_quiet (fail)
  go_wp2;go_ret;refine e.out _ ?_;first
   |exact(below_drewN (below_drewN (below_drewN (below_drewN (below_drewN c.out _) _) _) _) _)
   |exact(below_drewN (below_drewN (below_drewN (below_drewN c.out _) _) _) _)
   |exact(below_drewN (below_drewN (below_drewN c.out _) _) _)
   |exact(below_drewN (below_drewN c.out _) _)
   |exact(below_drewN c.out _)
 ·subst h;rcases qV l p with h|h|h
  ·have e:=zA (d true (by rw[decide_eq_true];omega));clear d g i j f;go_enter Tryz.func184,Tryz.ntmps184;go_wp2;refine wp_loop_rounds 5 ?_;rw[rounds_succ];go_wp2;go_quiet (fail)
   go_wp2;rw[rounds_succ];go_wp2;go_quiet (fail)
   go_wp2;go_quiet (fail)
   go_wp2;go_ret;refine e.out _ ?_;first
    |exact(below_drewN (below_drewN (below_drewN (below_drewN (below_drewN c.out _) _) _) _) _)
    |exact(below_drewN (below_drewN (below_drewN (below_drewN c.out _) _) _) _)
    |exact(below_drewN (below_drewN (below_drewN c.out _) _) _)
    |exact(below_drewN (below_drewN c.out _) _)
    |exact(below_drewN c.out _)
  ·subst h;rcases qV m q with h|h|h
   ·have e:=zA (d true (by rw[decide_eq_true];omega));clear d g i j f;go_enter Tryz.func184,Tryz.ntmps184;go_wp2;refine wp_loop_rounds 5 ?_;rw[rounds_succ];go_wp2;go_quiet (fail)
    go_wp2;rw[rounds_succ];go_wp2;go_quiet (fail)
    go_wp2;rw[rounds_succ];go_wp2;go_quiet (fail)
    go_wp2;go_quiet (fail)
    go_wp2;go_ret;refine e.out _ ?_;first
     |exact(below_drewN (below_drewN (below_drewN (below_drewN (below_drewN c.out _) _) _) _) _)
     |exact(below_drewN (below_drewN (below_drewN (below_drewN c.out _) _) _) _)
     |exact(below_drewN (below_drewN (below_drewN c.out _) _) _)
     |exact(below_drewN (below_drewN c.out _) _)
     |exact(below_drewN c.out _)
   ·subst h;rcases qV n r with h|h|h
    ·have e:=zA (d true (by rw[decide_eq_true];omega));clear d g i j f;go_enter Tryz.func184,Tryz.ntmps184;go_wp2;refine wp_loop_rounds 5 ?_;rw[rounds_succ];go_wp2;go_quiet (fail)
     go_wp2;rw[rounds_succ];go_wp2;go_quiet (fail)
     go_wp2;rw[rounds_succ];go_wp2;go_quiet (fail)
     go_wp2;rw[rounds_succ];go_wp2;go_quiet (fail)
     go_wp2;go_quiet (fail)
     go_wp2;go_ret;refine e.out _ ?_;first
      |exact(below_drewN (below_drewN (below_drewN (below_drewN (below_drewN c.out _) _) _) _) _)
      |exact(below_drewN (below_drewN (below_drewN (below_drewN c.out _) _) _) _)
      |exact(below_drewN (below_drewN (below_drewN c.out _) _) _)
      |exact(below_drewN (below_drewN c.out _) _)
      |exact(below_drewN c.out _)
    ·subst h;have e:=zA (d false (by rw[decide_eq_false];omega));clear d g i j f;go_enter Tryz.func184,Tryz.ntmps184;go_wp2;refine wp_loop_rounds 5 ?_;rw[rounds_succ];go_wp2;go_quiet (fail)
     go_wp2;rw[rounds_succ];go_wp2;go_quiet (fail)
     go_wp2;rw[rounds_succ];go_wp2;go_quiet (fail)
     go_wp2;rw[rounds_succ];go_wp2;go_quiet (fail)
     go_wp2;rw[rounds_succ];go_wp2;go_ret;refine e.out _ ?_;first
      |exact(below_drewN (below_drewN (below_drewN (below_drewN (below_drewN c.out _) _) _) _) _)
      |exact(below_drewN (below_drewN (below_drewN (below_drewN c.out _) _) _) _)
      |exact(below_drewN (below_drewN (below_drewN c.out _) _) _)
      |exact(below_drewN (below_drewN c.out _) _)
      |exact(below_drewN c.out _)
    ·have e:=zA (d (decide (n<r)) (by rw[decide_eq_false (by omega),decide_eq_false (by omega)]));clear d g i j f;go_enter Tryz.func184,Tryz.ntmps184;go_wp2;refine wp_loop_rounds 5 ?_;rw[rounds_succ];go_wp2;go_quiet (fail)
     go_wp2;rw[rounds_succ];go_wp2;go_quiet (fail)
     go_wp2;rw[rounds_succ];go_wp2;go_quiet (fail)
     go_wp2;rw[rounds_succ];go_wp2;go_quiet (fail)
     go_wp2;go_quiet (fail)
     go_wp2;go_ret;refine e.out _ ?_;first
      |exact(below_drewN (below_drewN (below_drewN (below_drewN (below_drewN c.out _) _) _) _) _)
      |exact(below_drewN (below_drewN (below_drewN (below_drewN c.out _) _) _) _)
      |exact(below_drewN (below_drewN (below_drewN c.out _) _) _)
      |exact(below_drewN (below_drewN c.out _) _)
      |exact(below_drewN c.out _)
   ·have e:=zA (d (decide (m<q)) (by rw[decide_eq_false (by omega),decide_eq_false (by omega)]));clear d g i j f;go_enter Tryz.func184,Tryz.ntmps184;go_wp2;refine wp_loop_rounds 5 ?_;rw[rounds_succ];go_wp2;go_quiet (fail)
    go_wp2;rw[rounds_succ];go_wp2;go_quiet (fail)
    go_wp2;rw[rounds_succ];go_wp2;go_quiet (fail)
    go_wp2;go_quiet (fail)
    go_wp2;go_ret;refine e.out _ ?_;first
     |exact(below_drewN (below_drewN (below_drewN (below_drewN (below_drewN c.out _) _) _) _) _)
     |exact(below_drewN (below_drewN (below_drewN (below_drewN c.out _) _) _) _)
     |exact(below_drewN (below_drewN (below_drewN c.out _) _) _)
     |exact(below_drewN (below_drewN c.out _) _)
     |exact(below_drewN c.out _)
  ·have e:=zA (d (decide (l<p)) (by rw[decide_eq_false (by omega),decide_eq_false (by omega)]));clear d g i j f;go_enter Tryz.func184,Tryz.ntmps184;go_wp2;refine wp_loop_rounds 5 ?_;rw[rounds_succ];go_wp2;go_quiet (fail)
   go_wp2;rw[rounds_succ];go_wp2;go_quiet (fail)
   go_wp2;go_quiet (fail)
   go_wp2;go_ret;refine e.out _ ?_;first
    |exact(below_drewN (below_drewN (below_drewN (below_drewN (below_drewN c.out _) _) _) _) _)
    |exact(below_drewN (below_drewN (below_drewN (below_drewN c.out _) _) _) _)
    |exact(below_drewN (below_drewN (below_drewN c.out _) _) _)
    |exact(below_drewN (below_drewN c.out _) _)
    |exact(below_drewN c.out _)
 ·have e:=zA (d (decide (k<o)) (by rw[decide_eq_false (by omega),decide_eq_false (by omega)]));clear d g i j f;go_enter Tryz.func184,Tryz.ntmps184;go_wp2;refine wp_loop_rounds 5 ?_;rw[rounds_succ];go_wp2;go_quiet (fail)
  go_wp2;go_quiet (fail)
  go_wp2;go_ret;refine e.out _ ?_;first
   |exact(below_drewN (below_drewN (below_drewN (below_drewN (below_drewN c.out _) _) _) _) _)
   |exact(below_drewN (below_drewN (below_drewN (below_drewN c.out _) _) _) _)
   |exact(below_drewN (below_drewN (below_drewN c.out _) _) _)
   |exact(below_drewN (below_drewN c.out _) _)
   |exact(below_drewN c.out _)
end
section
open Go.RowKit
theorem Qy(o p q r t u v z p1 c1 p2 c2 p3 c3 p4 c4 p5 c5 p6 c6 p7 c7 p8 c8 p9 c9 N D O E Q d R G U H V I X J:Int)(m1:Mac2 o t 0 0 p1 c1)(m2:Mac2 o u 0 c1 p2 c2)(m3:Mac2 o v 0 c2 p3 c3)(m4:Mac2 o z 0 c3 p4 c4)(m5:Mac2 p t p2 0 p5 c5)(m6:Mac2 p u p3 c5 p6 c6)(m7:Mac2 p v p4 c6 p7 c7)(m8:Mac2 p z c4 c7 p8 c8)(m9:Mac2 q t p6 0 p9 c9)(e:Mac2 q u p7 c9 N D)(f:Mac2 q v p8 D O E)(g:Mac2 q z c8 E Q d)(i:Mac2 r t N 0 R G)(j:Mac2 r u O G U H)(m:Mac2 r v Q H V I)(n:Mac2 r z d I X J)(g4:aU c4)(g8:aU c8)(K:aU d)(L:aU J)(w:World):Calls zB 240 #[bA o p q r,bA t u v z] w (dC w (bA R U V X)):=by
 have m1:=zA m1;have m2:=zA m2;have m3:=zA m3;have m4:=zA m4;have m5:=zA m5;have m6:=zA m6;have m7:=zA m7;have m8:=zA m8;have m9:=zA m9;have e:=zA e;have f:=zA f;have g:=zA g;have i:=zA i;have j:=zA j;have m:=zA m;have n:=zA n;have g4:=zA g4;have g8:=zA g8;have K:=zA K;have L:=zA L;unfold bA;go_enter Tryz.func240,Tryz.ntmps240;go_wp2;refine wp_loop_rounds 5 ?_;rw[rounds_succ];go_wp2_with fail
 refine wp_loop_rounds 5 ?_;rw[rounds_succ];go_wp2_with fail
 obtain⟨hi,lo,s,k,h,l,M,A,x,B,y⟩:=m1.out.out;have M:=zA M;go_quiet (first|(go_at_call 236;refine Calls.quiet_of_same (M.out _)))
 simp only[aJ];rename_i nq;have c:=aK w w nq ⟨rfl,zD _ _⟩;generalize qE w nq=w1 at*;obtain⟨a,b⟩:=c;go_wp2_with fail
 clear A x B y;rw[rounds_succ];go_wp2_with fail
 obtain⟨hi,lo,s,k,h,l,M,A,x,B,y⟩:=m2.out.out;have M:=zA M;go_quiet (first|(go_at_call 236;refine Calls.quiet_of_same (M.out _)))
 simp only[aJ];rename_i nq;have c:=aK w1 w nq ⟨a,b⟩;generalize qE w1 nq=w2 at*;clear a b;obtain⟨a,b⟩:=c;go_wp2_with fail
 clear A x B y;rw[rounds_succ];go_wp2_with fail
 obtain⟨hi,lo,s,k,h,l,M,A,x,B,y⟩:=m3.out.out;have M:=zA M;go_quiet (first|(go_at_call 236;refine Calls.quiet_of_same (M.out _)))
 simp only[aJ];rename_i nq;have c:=aK w2 w nq ⟨a,b⟩;generalize qE w2 nq=w3 at*;clear a b;obtain⟨a,b⟩:=c;go_wp2_with fail
 clear A x B y;rw[rounds_succ];go_wp2_with fail
 obtain⟨hi,lo,s,k,h,l,M,A,x,B,y⟩:=m4.out.out;have M:=zA M;go_quiet (first|(go_at_call 236;refine Calls.quiet_of_same (M.out _)))
 simp only[aJ];rename_i nq;have c:=aK w3 w nq ⟨a,b⟩;generalize qE w3 nq=w4 at*;clear a b;obtain⟨a,b⟩:=c;go_wp2_with fail
 clear A x B y;rw[rounds_succ];go_wp2_with fail
 rw[rounds_succ];go_wp2_with fail
 refine wp_loop_rounds 5 ?_;rw[rounds_succ];go_wp2_with fail
 obtain⟨hi,lo,s,k,h,l,M,A,x,B,y⟩:=m5.out.out;have M:=zA M;go_quiet (first|(go_at_call 236;refine Calls.quiet_of_same (M.out _)))
 simp only[aJ];rename_i nq;have c:=aK w4 w nq ⟨a,b⟩;generalize qE w4 nq=w5 at*;clear a b;obtain⟨a,b⟩:=c;go_wp2_with fail
 clear A x B y;rw[rounds_succ];go_wp2_with fail
 obtain⟨hi,lo,s,k,h,l,M,A,x,B,y⟩:=m6.out.out;have M:=zA M;go_quiet (first|(go_at_call 236;refine Calls.quiet_of_same (M.out _)))
 simp only[aJ];rename_i nq;have c:=aK w5 w nq ⟨a,b⟩;generalize qE w5 nq=w6 at*;clear a b;obtain⟨a,b⟩:=c;go_wp2_with fail
 clear A x B y;rw[rounds_succ];go_wp2_with fail
 obtain⟨hi,lo,s,k,h,l,M,A,x,B,y⟩:=m7.out.out;have M:=zA M;go_quiet (first|(go_at_call 236;refine Calls.quiet_of_same (M.out _)))
 simp only[aJ];rename_i nq;have c:=aK w6 w nq ⟨a,b⟩;generalize qE w6 nq=w7 at*;clear a b;obtain⟨a,b⟩:=c;go_wp2_with fail
 clear A x B y;rw[rounds_succ];go_wp2_with fail
 obtain⟨hi,lo,s,k,h,l,M,A,x,B,y⟩:=m8.out.out;have M:=zA M;go_quiet (first|(go_at_call 236;refine Calls.quiet_of_same (M.out _)))
 simp only[aJ];rename_i nq;have c:=aK w7 w nq ⟨a,b⟩;generalize qE w7 nq=w8 at*;clear a b;obtain⟨a,b⟩:=c;go_wp2_with fail
 clear A x B y;rw[rounds_succ];go_wp2_with fail
 rw[rounds_succ];go_wp2_with fail
 refine wp_loop_rounds 5 ?_;rw[rounds_succ];go_wp2_with fail
 obtain⟨hi,lo,s,k,h,l,M,A,x,B,y⟩:=m9.out.out;have M:=zA M;go_quiet (first|(go_at_call 236;refine Calls.quiet_of_same (M.out _)))
 simp only[aJ];rename_i nq;have c:=aK w8 w nq ⟨a,b⟩;generalize qE w8 nq=w9 at*;clear a b;obtain⟨a,b⟩:=c;go_wp2_with fail
 clear A x B y;rw[rounds_succ];go_wp2_with fail
 obtain⟨hi,lo,s,k,h,l,M,A,x,B,y⟩:=e.out.out;have M:=zA M;go_quiet (first|(go_at_call 236;refine Calls.quiet_of_same (M.out _)))
 simp only[aJ];rename_i nq;have c:=aK w9 w nq ⟨a,b⟩;generalize qE w9 nq=Y at*;clear a b;obtain⟨a,b⟩:=c;go_wp2_with fail
 clear A x B y;rw[rounds_succ];go_wp2_with fail
 obtain⟨hi,lo,s,k,h,l,M,A,x,B,y⟩:=f.out.out;have M:=zA M;go_quiet (first|(go_at_call 236;refine Calls.quiet_of_same (M.out _)))
 simp only[aJ];rename_i nq;have c:=aK Y w nq ⟨a,b⟩;generalize qE Y nq=Z at*;clear a b;obtain⟨a,b⟩:=c;go_wp2_with fail
 clear A x B y;rw[rounds_succ];go_wp2_with fail
 obtain⟨hi,lo,s,k,h,l,M,A,x,B,y⟩:=g.out.out;have M:=zA M;go_quiet (first|(go_at_call 236;refine Calls.quiet_of_same (M.out _)))
 simp only[aJ];rename_i nq;have c:=aK Z w nq ⟨a,b⟩;generalize qE Z nq=a4 at*;clear a b;obtain⟨a,b⟩:=c;go_wp2_with fail
 clear A x B y;rw[rounds_succ];go_wp2_with fail
 rw[rounds_succ];go_wp2_with fail
 refine wp_loop_rounds 5 ?_;rw[rounds_succ];go_wp2_with fail
 obtain⟨hi,lo,s,k,h,l,M,A,x,B,y⟩:=i.out.out;have M:=zA M;go_quiet (first|(go_at_call 236;refine Calls.quiet_of_same (M.out _)))
 simp only[aJ];rename_i nq;have c:=aK a4 w nq ⟨a,b⟩;generalize qE a4 nq=a5 at*;clear a b;obtain⟨a,b⟩:=c;go_wp2_with fail
 clear A x B y;rw[rounds_succ];go_wp2_with fail
 obtain⟨hi,lo,s,k,h,l,M,A,x,B,y⟩:=j.out.out;have M:=zA M;go_quiet (first|(go_at_call 236;refine Calls.quiet_of_same (M.out _)))
 simp only[aJ];rename_i nq;have c:=aK a5 w nq ⟨a,b⟩;generalize qE a5 nq=a6 at*;clear a b;obtain⟨a,b⟩:=c;go_wp2_with fail
 clear A x B y;rw[rounds_succ];go_wp2_with fail
 obtain⟨hi,lo,s,k,h,l,M,A,x,B,y⟩:=m.out.out;have M:=zA M;go_quiet (first|(go_at_call 236;refine Calls.quiet_of_same (M.out _)))
 simp only[aJ];rename_i nq;have c:=aK a6 w nq ⟨a,b⟩;generalize qE a6 nq=a7 at*;clear a b;obtain⟨a,b⟩:=c;go_wp2_with fail
 clear A x B y;rw[rounds_succ];go_wp2_with fail
 obtain⟨hi,lo,s,k,h,l,M,A,x,B,y⟩:=n.out.out;have M:=zA M;go_quiet (first|(go_at_call 236;refine Calls.quiet_of_same (M.out _)))
 simp only[aJ];rename_i nq;have c:=aK a7 w nq ⟨a,b⟩;generalize qE a7 nq=a9 at*;clear a b;obtain⟨a,b⟩:=c;go_wp2_with fail
 clear A x B y;rw[rounds_succ];go_wp2_with fail
 rw[rounds_succ];go_wp2_with fail
 simp[bodyPost,results,Tryz.results240,go_sem,a];exact⟨rfl,(((b.alloc (by rw[a];exact zC _) _).alloc (by simp[a]) _).alloc (by simp[a];omega) _).alloc (by simp[a];omega) _⟩
theorem E8(a b:Int)(ha:IU a)(hb:IU b)(w:World):Calls zB 240 #[nQ a,nQ b] w (bI (nQ (a*b/6277101735386680763835789423207666416102355444464034512896%115792089237316195423570985008687907853269984665640564039457584007913129639936)) w):=by
 obtain⟨f,e,d,c,⟨n,m,l,k⟩,rfl,ea⟩:=eY ha;obtain⟨j,i,h,g,⟨r,q,p,o⟩,rfl,eb⟩:=eY hb;rw[ea,eb];have s:aU 0:=⟨by omega,by omega⟩;obtain⟨p1,c1,u1,v1,e1,m1⟩:=bU c g 0 0 k o s s;obtain⟨p2,c2,u2,v2,e2,m2⟩:=bU c h 0 c1 k p s v1;obtain⟨p3,c3,u3,v3,e3,m3⟩:=bU c i 0 c2 k q s v2;obtain⟨p4,c4,u4,v4,e4,m4⟩:=bU c j 0 c3 k r s v3;obtain⟨p5,c5,u5,v5,e5,m5⟩:=bU d g p2 0 l o u2 s;obtain⟨p6,c6,u6,v6,e6,m6⟩:=bU d h p3 c5 l p u3 v5;obtain⟨p7,c7,u7,v7,e7,m7⟩:=bU d i p4 c6 l q u4 v6;obtain⟨p8,c8,u8,v8,e8,m8⟩:=bU d j c4 c7 l r v4 v7;obtain⟨p9,c9,u9,v9,e9,m9⟩:=bU e g p6 0 m o u6 s;obtain⟨V,B,u10,Z,a9,L⟩:=bU e h p7 c9 m p u7 v9;obtain⟨X,D,u11,a4,b4,M⟩:=bU e i p8 B m q u8 Z;obtain⟨Y,E,u12,z,b5,N⟩:=bU e j c8 D m r v8 a4;obtain⟨u,G,u13,a5,b6,O⟩:=bU f g V 0 n o u10 s;obtain⟨v,H,u14,a6,b7,Q⟩:=bU f h X G n p u11 a5;obtain⟨x,I,u15,a7,b8,R⟩:=bU f i Y H n q u12 a6;obtain⟨y,J,u16,A,b9,U⟩:=bU f j E I n r z a7;have HM:=Qy c d e f g h i j p1 c1 p2 c2 p3 c3 p4 c4 p5 c5 p6 c6 p7 c7 p8 c8 p9 c9 V B X D Y E u G v H x I y J m1 m2 m3 m4 m5 m6 m7 m8 m9 L M N O Q R U v4 v8 z A w;clear m1 m2 m3 m4 m5 m6 m7 m8 m9 L M N O Q R U;have t:num f e d c*num j i h g=J*726838724295606890549323807888004534353641360687318060281490199180639288113397923326191050713763565560762521606266177933534601628614656+y*39402006196394479212279040100143613805079739270465446667948293404245721771497210611414266254884915640806627990306816+x*2135987035920910082395021706169552114602704522356652769947041607822219725780640550022962086936576+v*115792089237316195423570985008687907853269984665640564039457584007913129639936+u*6277101735386680763835789423207666416102355444464034512896+p9*340282366920938463463374607431768211456+p5*18446744073709551616+p1:=by
  have K:num f e d c*num j i h g=c*g*1+c*h*18446744073709551616+c*i*340282366920938463463374607431768211456+c*j*6277101735386680763835789423207666416102355444464034512896+d*g*18446744073709551616+d*h*340282366920938463463374607431768211456+d*i*6277101735386680763835789423207666416102355444464034512896+d*j*115792089237316195423570985008687907853269984665640564039457584007913129639936+e*g*340282366920938463463374607431768211456+e*h*6277101735386680763835789423207666416102355444464034512896+e*i*115792089237316195423570985008687907853269984665640564039457584007913129639936+e*j*2135987035920910082395021706169552114602704522356652769947041607822219725780640550022962086936576+f*g*6277101735386680763835789423207666416102355444464034512896+f*h*115792089237316195423570985008687907853269984665640564039457584007913129639936+f*i*2135987035920910082395021706169552114602704522356652769947041607822219725780640550022962086936576+f*j*39402006196394479212279040100143613805079739270465446667948293404245721771497210611414266254884915640806627990306816:=by unfold num;grind
  rw[K];clear K HM ea eb ha hb s k l m n o p q r u1 v1 u2 v2 u3 v3 u4 v4 u5 v5 u6 v6 u7 v7 u8 v8 u9 v9 u10 Z u11 a4 u12 z u13 a5 u14 a6 u15 a7 u16 A;generalize c*g=c0 at*;generalize c*h=d0 at*;generalize c*i=d5 at*;generalize c*j=d6 at*;generalize d*g=d7 at*;generalize d*h=d8 at*;generalize d*i=d9 at*;generalize d*j=f0 at*;generalize e*g=f1 at*;generalize e*h=f2 at*;generalize e*i=f3 at*;generalize e*j=f4 at*;generalize f*g=f5 at*;generalize f*h=f6 at*;generalize f*i=f7 at*;generalize f*j=f8 at*;omega
 have hs:num f e d c*num j i h g/6277101735386680763835789423207666416102355444464034512896%115792089237316195423570985008687907853269984665640564039457584007913129639936=num y x v u:=by
  rw[t];obtain⟨_,_⟩:=u1;obtain⟨_,_⟩:=u5;obtain⟨_,_⟩:=u9;obtain⟨_,_⟩:=u13;obtain⟨_,_⟩:=u14;obtain⟨_,_⟩:=u15;obtain⟨_,_⟩:=u16;obtain⟨_,_⟩:=A;clear HM ea eb ha hb s k l m n o p q r t e1 e2 e3 e4 e5 e6 e7 e8 e9 a9 b4 b5 b6 b7 b8 b9;unfold num;omega
 rw[hs,uV ⟨u16,u15,u14,u13⟩];exact HM
end
section
open Go.RowKit
attribute [local go_sem] Oper.semAt_some
def aE:Nat:=6277101735386680763835789423207666416102355444464034512896
def bV:Nat:=115792089237316195423570985008687907853269984665640564039457584007913129639936
structure RN (V:Nat) (x0 x1 x2 x3:Int):Prop where
 eq:nQ (V:Int)=jA #[jI jU x0,jI jU x1,jI jU x2,jI jU x3]
 lt:V<bV
 w0:aU x0
 w1:aU x1
 w2:aU x2
 w3:aU x3
 nm:num x3 x2 x1 x0=(V:Int)
theorem dA(V:Nat)(h:V<bV):∃l x1 x2 m,RN V l x1 x2 m:=by
 obtain⟨a,b,c,d,⟨g,i,j,k⟩,f,e⟩:=eY (V:=(V:Int)) ⟨by omega,by unfold bV at h;omega⟩;exact⟨d,c,b,a,⟨e,h,k,j,i,g,f⟩⟩
theorem RN.big{V:Nat}{a x1 x2 b:Int}(h:RN V a x1 x2 b):IU (V:Int):=⟨by omega,by have:=h.lt;unfold bV at this;omega⟩
theorem RN.zero{V:Nat}{a x1 x2 b:Int}(h:RN V a x1 x2 b):(a==0&&(x1==0&&(x2==0&&b==0)))=decide (V=0):=by
 obtain⟨_,_,⟨_,_⟩,⟨_,_⟩,⟨_,_⟩,⟨_,_⟩,e⟩:=h;unfold num at e;by_cases d:V=0
 ·subst d;have e0:a=0:=by omega
  have e1:x1=0:=by omega
  have e2:x2=0:=by omega
  have c:b=0:=by omega
  subst e0 e1 e2 c;rfl
 ·rw [decide_eq_false d];by_cases e0:a=0
  ·by_cases e1:x1=0
   ·by_cases e2:x2=0
    ·by_cases c:b=0
     ·omega
     ·simp[c]
    ·simp[e2]
   ·simp[e1]
  ·simp[e0]
def GQ(V:Value)(w:World)(e:Ending)(w':World):Prop:=e=.returned V/\Below w.heap.size w w'
section
variable {A B C : Nat} {a0 a1 a2 a3 b0 b1 b2 b3 c0 c1 c2 c3 : Int}
theorem tV(a:RN A a0 a1 a2 a3)(b:RN B b0 b1 b2 b3)(c:RN C c0 c1 c2 c3)(e:(A+B)%bV=C)(w:World):
  Calls zB 180 #[jA #[jI jU a0,jI jU a1,jI jU a2,jI jU a3],jA #[jI jU b0,jI jU b1,jI jU b2,jI jU b3]] w (GQ (jA #[jI jU c0,jI jU c1,jI jU c2,jI jU c3]) w):=by
 have h:=Zw _ _ a.big b.big w;rw[a.eq,b.eq,show((A:Int)+(B:Int))%115792089237316195423570985008687907853269984665640564039457584007913129639936=(C:Int) by rw[<-e];unfold bV;omega,c.eq]at h;exact h
theorem EU(b:RN A a0 a1 a2 a3)(a:RN B b0 b1 b2 b3)(c:RN C c0 c1 c2 c3)(e:(A+bV-B)%bV=C)(w:World):
  Calls zB 182 #[jA #[jI jU a0,jI jU a1,jI jU a2,jI jU a3],jA #[jI jU b0,jI jU b1,jI jU b2,jI jU b3]] w (GQ (jA #[jI jU c0,jI jU c1,jI jU c2,jI jU c3]) w):=by
 have h:=F5 _ _ b.big a.big w;have d:=a.lt;rw[b.eq,a.eq,show((A:Int)-(B:Int))%115792089237316195423570985008687907853269984665640564039457584007913129639936=(C:Int) by rw[<-e];unfold bV at*;omega,c.eq]at h;exact h
theorem E6(a:RN A a0 a1 a2 a3)(b:RN B b0 b1 b2 b3)(w:World):
  Calls zB 184 #[jA #[jI jU a0,jI jU a1,jI jU a2,jI jU a3],jA #[jI jU b0,jI jU b1,jI jU b2,jI jU b3]] w (GQ (.bool (decide (A<B))) w):=by
 have h:=aB4 _ _ a.big b.big w;rw[a.eq,b.eq,show decide ((A:Int)<(B:Int))=decide (A<B) by rw[decide_eq_decide];omega]at h;exact h
theorem MV(a:RN A a0 a1 a2 a3)(b:RN B b0 b1 b2 b3)(c:RN C c0 c1 c2 c3)(e:A*B/aE%bV=C)(w:World):
  Calls zB 240 #[jA #[jI jU a0,jI jU a1,jI jU a2,jI jU a3],jA #[jI jU b0,jI jU b1,jI jU b2,jI jU b3]] w (GQ (jA #[jI jU c0,jI jU c1,jI jU c2,jI jU c3]) w):=by
 have h:=E8 _ _ a.big b.big w;rw[a.eq,b.eq,show((A:Int)*(B:Int))/6277101735386680763835789423207666416102355444464034512896%115792089237316195423570985008687907853269984665640564039457584007913129639936=(C:Int) by rw[<-e];unfold aE bV;rw[xG,xS,yU];rfl,c.eq]at h;exact h
theorem D7(a:RN A a0 a1 a2 a3)(b:RN C c0 c1 c2 c3){n:Nat}(c:n<=4611686018427387904)(e:A*n%bV=C)(w:World):
  Calls zB 187 #[jA #[jI jU a0,jI jU a1,jI jU a2,jI jU a3],jI jU (n:Int)] w (GQ (jA #[jI jU c0,jI jU c1,jI jU c2,jI jU c3]) w):=by
 have h:=aB0 _ (n:Int) a.big (by omega) (by omega) w;rw[a.eq,show((A:Int)*(n:Int))%115792089237316195423570985008687907853269984665640564039457584007913129639936=(C:Int) by rw[<-e];unfold bV;rw[xG,yU];rfl,b.eq]at h;exact h
theorem uW(a:RN A a0 a1 a2 a3)(b:RN C c0 c1 c2 c3){n:Nat}(c:0<n)(d:n<4294967296)(e:A/n=C)(w:World):
  Calls zB 185 #[jA #[jI jU a0,jI jU a1,jI jU a2,jI jU a3],jI jU (n:Int)] w (GQ (jA #[jI jU c0,jI jU c1,jI jU c2,jI jU c3]) w):=by
 have h:=Rb _ (n:Int) a.big (by omega) (by omega) w;rw[a.eq,show(A:Int)/(n:Int)=(C:Int) by rw[<-e,xS],b.eq]at h;exact h
theorem CW(w:World)(X Y:Array Value)(W:World)(b:W=(w.alloc (jC X 211)).alloc (jC Y 211)):
  Below w.heap.size w W/\W.heap[w.heap.size]? =some (jC X 211 (0,0))/\W.heap[w.heap.size+ 1]? =some (jC Y 211 (0,0))/\W.heap.size=w.heap.size+2:=by
 subst b;have a:=heap_alloc_new (w.alloc (jC X 211)) (jC Y 211);rw[World.size_alloc]at a;exact⟨((zD _ _).alloc (zC _) _).alloc (by simp) _,(Below.heap_alloc _ _ _ (by simp)).trans (heap_alloc_new w _),a,by simp⟩
def UF(w:World)(b:Nat)(x0 x1 x2 x3:Int):World:=(((w.setCell ⟨b,0,none⟩ (jI jU x0)).setCell ⟨b,1,none⟩ (jI jU x1)).setCell ⟨b,2,none⟩ (jI jU x2)).setCell ⟨b,3,none⟩ (jI jU x3)
def NB(w:World)(b:Nat)(x0 x1 x2 x3:Int):Prop:=w.heap[b]? =some (jC #[jI jU x0,jI jU x1,jI jU x2,jI jU x3] 211 (0,0))
theorem NB.lt{w:World}{b:Nat}(h:NB w b a0 a1 a2 a3):b<w.heap.size:=(Array.getElem?_eq_some_iff.1 h).1
theorem NB.next{w w':World}{b:Nat}(h:NB w b a0 a1 a2 a3)(a:Below w.heap.size w w'):NB w' b a0 a1 a2 a3:=(a.block b h.lt).trans h
theorem NB.set{w:World}{b:Nat}(h:NB w b a0 a1 a2 a3)(a c d e:Int):NB (UF w b a c d e) b a c d e:=by
 unfold NB UF at*;simp[qK,h,Array.getElem?_modify]
theorem NB.other{w:World}{b b':Nat}(h:NB w b a0 a1 a2 a3)(c:b≠b')(d f g i:Int):NB (UF w b' d f g i) b a0 a1 a2 a3:=by
 unfold NB UF at*;have a:b'≠b:=fun e=>c e.symm;simp[qK,h,Array.getElem?_modify,a]
theorem NB.keep{w:World}{b:Nat}(h:NB w b a0 a1 a2 a3):
  (w.cell? ⟨b,0,none⟩=some (jI jU a0)/\w.cell? ⟨b,1,none⟩=some (jI jU a1)/\w.cell? ⟨b,2,none⟩=some (jI jU a2)/\w.cell? ⟨b,3,none⟩=some (jI jU a3))/\
  w.frozen? ⟨b,0,none⟩=false/\w.frozen? ⟨b,1,none⟩=false/\w.frozen? ⟨b,2,none⟩=false/\w.frozen? ⟨b,3,none⟩=false:=by
 unfold NB at h;refine⟨⟨?_,?_,?_,?_⟩,?_,?_,?_,?_⟩<;>simp[World.cell?,World.frozen?,h]
theorem fA{w0 w:World}{B b:Nat}(h:Below B w0 w)(a:B<=b)(c d e f:Int):Below B w0 (UF w b c d e f):=(((h.setCell a _).setCell a _).setCell a _).setCell a _
theorem TY(i:RN A a0 a1 a2 a3)(j:RN C c0 c1 c2 c3)(e:A/2=C)(w:World):
  Calls zB 183 #[jA #[jI jU a0,jI jU a1,jI jU a2,jI jU a3]] w (GQ (jA #[jI jU c0,jI jU c1,jI jU c2,jI jU c3]) w):=by
 have H:=zA (fun w=>uW (n:=2) i j (by omega) (by omega) e w);obtain⟨W,c⟩:∃W,W=(w.alloc (jC #[jI jU a0,jI jU a1,jI jU a2,jI jU a3] 211)).alloc (jC #[jI jU 0,jI jU 0,jI jU 0,jI jU 0] 211):=⟨_,rfl⟩;obtain⟨a,g,h,_⟩:=CW w _ _ W c;have d:=zA a;have p:=zA (show NB W w.heap.size a0 a1 a2 a3 from g);have q:=zA (show NB W (w.heap.size+1) 0 0 0 0 from h);clear i j e g h a;go_enter Tryz.func183,Tryz.ntmps183;go_upto_region 1 with fail
 rw[<-c];clear c;obtain⟨⟨r,s,t,u⟩,_⟩:=p.out.keep;go_wp2_with fail
 refine(H.out _).mono ?_;rintro e x ⟨rfl,a⟩;have b:=q.out.next a;obtain⟨⟨E,G,I,J⟩,y,z,B,D⟩:=b.keep;have S1:=b.set c0 c1 c2 c3;obtain⟨⟨k,l,m,o⟩,_⟩:=S1.keep;have f:=zA (fA (d.out.trans (a.mono d.out.size)) (Nat.le_succ _) c0 c1 c2 c3:Below w.heap.size w (UF x (w.heap.size+1) c0 c1 c2 c3));unfold UF at k l m o f;clear a b S1 r s t u;go_wp2_with fail
 refine bodyPost_ret (v:=jA #[jI jU c0,jI jU c1,jI jU c2,jI jU c3]) (by simp[results,Tryz.results183,go_sem,k,l,m,o]) rfl ⟨rfl,f.out⟩
theorem MW(d:RN A a0 a1 a2 a3)(j:RN C c0 c1 c2 c3)(e:(A+A)%bV=C)(w:World):
  Calls zB 188 #[jA #[jI jU a0,jI jU a1,jI jU a2,jI jU a3]] w (GQ (jA #[jI jU c0,jI jU c1,jI jU c2,jI jU c3]) w):=by
 have H:=zA (fun w=>tV d d j e w);obtain⟨W,c⟩:∃W,W=(w.alloc (jC #[jI jU a0,jI jU a1,jI jU a2,jI jU a3] 211)).alloc (jC #[jI jU 0,jI jU 0,jI jU 0,jI jU 0] 211):=⟨_,rfl⟩;obtain⟨a,h,i,_⟩:=CW w _ _ W c;have f:=zA a;have o:=zA (show NB W w.heap.size a0 a1 a2 a3 from h);have p:=zA (show NB W (w.heap.size+1) 0 0 0 0 from i);clear d j e h i a;go_enter Tryz.func188,Tryz.ntmps188;go_upto_region 1 with fail
 rw[<-c];clear c;obtain⟨⟨q,r,s,t⟩,_⟩:=o.out.keep;go_wp2_with fail
 refine(H.out _).mono ?_;rintro e u ⟨rfl,a⟩;have b:=p.out.next a;obtain⟨⟨D,E,G,I⟩,x,y,z,B⟩:=b.keep;have S1:=b.set c0 c1 c2 c3;obtain⟨⟨k,l,m,n⟩,_⟩:=S1.keep;have g:=zA (fA (f.out.trans (a.mono f.out.size)) (Nat.le_succ _) c0 c1 c2 c3:Below w.heap.size w (UF u (w.heap.size+1) c0 c1 c2 c3));unfold UF at k l m n g;clear a b S1 q r s t;go_wp2_with fail
 refine bodyPost_ret (v:=jA #[jI jU c0,jI jU c1,jI jU c2,jI jU c3]) (by simp[results,Tryz.results188,go_sem,k,l,m,n]) rfl ⟨rfl,g.out⟩
theorem Mx(w:World):Calls zB 179 #[] w (GQ (jA #[jI jU 0,jI jU 0,jI jU 0,jI jU 1]) w):=by
 have a:=zA ((zD w.heap.size w).alloc (zC _) (jC #[jI jU 0,jI jU 0,jI jU 0,jI jU 1] 211));go_enter Tryz.func179,Tryz.ntmps179;go_wp2;refine bodyPost_ret (v:=jA #[jI jU 0,jI jU 0,jI jU 0,jI jU 1]) (by simp[results,Tryz.results179,go_sem]) rfl ⟨rfl,a.out⟩
theorem E9(w:World):Calls zB 189 #[] w (GQ (jA #[jI jU 11820040416388919760,jI jU 1376283091369227076,jI jU 2611923443488327891,jI jU 3]) w):=by
 have a:=zA ((zD w.heap.size w).alloc (zC _) (jC #[jI jU 11820040416388919760,jI jU 1376283091369227076,jI jU 2611923443488327891,jI jU 3] 211));go_enter Tryz.func189,Tryz.ntmps189;go_wp2;refine bodyPost_ret (v:=jA #[jI jU 11820040416388919760,jI jU 1376283091369227076,jI jU 2611923443488327891,jI jU 3]) (by simp[results,Tryz.results189,go_sem]) rfl ⟨rfl,a.out⟩
theorem mO:RN aE 0 0 0 1:=⟨by unfold aE nQ bA;simp,by unfold aE bV;omega,⟨by omega,by omega⟩,⟨by omega,by omega⟩,⟨by omega,by omega⟩,⟨by omega,by omega⟩,by unfold aE num;omega⟩
theorem CG:RN 0 0 0 0 0:=⟨by unfold nQ bA;simp,by unfold bV;omega,⟨by omega,by omega⟩,⟨by omega,by omega⟩,⟨by omega,by omega⟩,⟨by omega,by omega⟩,by unfold num;omega⟩
def lE:Nat:=19720096697726538562396133364228268891463450865190089732560
theorem aCb:RN lE 11820040416388919760 1376283091369227076 2611923443488327891 3:=⟨by unfold lE nQ bA;simp,by unfold lE bV;omega,⟨by omega,by omega⟩,⟨by omega,by omega⟩,⟨by omega,by omega⟩,⟨by omega,by omega⟩,by unfold lE num;omega⟩
end
end
end
end Go.Proofs.YtlbklncoihhfcaaGreatDoor
