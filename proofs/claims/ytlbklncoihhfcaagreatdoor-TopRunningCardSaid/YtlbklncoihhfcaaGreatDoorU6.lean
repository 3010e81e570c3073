/-
  Circles and places: what each function gives. Cells at literal levels: what each function.
-/
import Derived.Test.YtlbklncoihhfcaaGreatDoorU5
set_option maxRecDepth 100000
set_option maxHeartbeats 4000000
open _root_.Int renaming fdiv→zE
open _root_.Option renaming some→zL
open Go.Proofs.Tryz renaming prog→zB
open Go.IntKind (i64 u64)
open Go.Value renaming int→jI
open Go.IntKind renaming i64→jJ
open Go.Value renaming agg→jA
namespace Go.Proofs.YtlbklncoihhfcaaGreatDoor
noncomputable section
section
open Ev
open Ev (Gl)
theorem iI{x y:Value}{f g:List Value}{r:Bool}(h:wR (x::f) (y::g)=some r):∃a b e,x=jI jJ a/\y=jI jJ b/\wR f g=some e/\r=((a==b)&&e):=by
 unfold wR at h;split at h
 ·rename_i c d;cases c
 ·rename_i a l b m c d;cases c;cases d;split at h
  ·rename_i e i;simp only[zL.injEq]at h;exact⟨a,b,e,rfl,rfl,i,h.symm⟩
  ·cases h
 ·cases h
theorem FH:wR [] []=some true:=rfl
theorem SO(k:Nat)(a b c d:Int)(w:World):(Op.equalIn (k+2) 31 (jA #[jI jJ a,jI jJ b]) (jA #[jI jJ c,jI jJ d])).run zB w=.ok (a==c&&b==d) w:=by
 have u3:=Tryz.underlying3;have i:=Tryz.isAgg3;have j:=Tryz.sizeOf3;have g:zB.underlying 31=some (.struct (zB.fieldsOf 31)):=by kernel_rfl
 have h:zB.stoodInHeld 31=false:=by kernel_rfl
 rw[run_equalIn_agg w (k+1) 31 _ _ g h];simp only[Program.fieldsOf,Tryz.underlying31];go_simp
 by_cases e:a=c<;>by_cases f:b=d<;>simp[e,f]
theorem aA1:oT zB (31,2):=by
 refine⟨by kernel_rfl,fun j k r g i h w=>?_⟩;match j,k,g,i with
 | [n,o],[p,q],_,_=>
  obtain⟨a,c,l,rfl,rfl,f,rfl⟩:=iI h;obtain⟨b,d,m,rfl,rfl,e,rfl⟩:=iI f;rw[FH]at e;cases e;rw[Bool.and_true];exact SO 9998 a b c d w
theorem aEN:oT zB (33,4):=by
 refine⟨by kernel_rfl,fun x y r s t h w=>?_⟩;match x,y,s,t with
 | [E,G,H,I],[J,K,L,M],_,_=>
  obtain⟨a,c,z,rfl,rfl,l,rfl⟩:=iI h;obtain⟨b,d,A,rfl,rfl,m,rfl⟩:=iI l;obtain⟨e,f,B,rfl,rfl,n,rfl⟩:=iI m;obtain⟨i,j,D,rfl,rfl,g,rfl⟩:=iI n;rw[FH]at g;cases g;have p:zB.underlying 33=some (.struct (zB.fieldsOf 33)):=by kernel_rfl
  have q:zB.stoodInHeld 33=false:=by kernel_rfl
  have k:=Tryz.isAgg31;have o:=Tryz.sizeOf31;have u:=fun w=>SO 9997 a b c d w;have v:=fun w=>SO 9997 e i f j w;rw[run_equalIn_agg w 9999 33 _ _ p q];simp only[Program.fieldsOf,Tryz.underlying33,Op.eqFields,part];simp[k,o,u,v];by_cases l:a=c<;>by_cases m:b=d<;>by_cases n:e=f<;>by_cases g:i=j<;>simp[l,m,n,g]
def Eu:List (TypeId×Nat):=[(31,2),(33,4)]
theorem aP:∀e∈Eu,oT zB e:=by
 intro e a;simp only[Eu,List.mem_cons,List.not_mem_nil,or_false]at a;rcases a with rfl|rfl
 ·exact aA1
 ·exact aEN
def FO(a b _e:Int):Int×Int:=(a,b)
def LM(k _a _b e:Int):Int:=lS k e
def aFt:bW:=(23,eP (fun a b=>.bool (aB a b)))::(52,eP (fun a b=>aT (fK a b)))::(53,eP (fun a b=>aT (bB a b)))::(83,GU (fun a b c d=>aT (aQ a b c d)))::(84,GU (fun a b c d=>aT (aZ a b c d)))::(88,eI (fun a=>jI jJ (oH a)))::(116,GU (fun a b c d=>.bool (dM a b c d)))::[]
theorem Lg[Gl]:aO zB aFt:=(aA (cX (fun a b W _=>kM a b W)) (aA (cX (fun a b W _=>Af a b W)) (aA (cX (fun a b W _=>WI a b W)) (aA (dZ pO) (aA (dZ pW) (aA (KH (fun a W _=>Bl a W)) (aA (dZ nT) dK)))))))
theorem Fi[Gl](k a b c:Int):sO zB 302 282 k [jA ⟨[jI jJ a,jI jJ b]⟩,jI jJ c] (aG (FO a b c).1 (FO a b c).2) (LM k a b c):=by
 refine fN aP Lg (t:=cond (k==0) (some (.v (jA ⟨[jI jJ a,jI jJ b]⟩),⟨[.v (jI jJ c)],282⟩)) (some (.v (jA ⟨[jI jJ a,jI jJ b]⟩),⟨[.v (jI jJ k)],282⟩))) (by kernel_rfl) ?_;unfold LM lS;by_cases h:k=0
 ·simp[h];rfl
 ·have e:(k==0)=false:=beq_eq_false_iff_ne.2 h;rw[e];simp[h];rfl
def LN(a b:Int):Int×Int:=((fK a b).1,(fK a b).2.1)
def YI(k a b:Int):Int:=lS k (fK a b).2.2
def aFu:bW:=(302,cPI 282 (fun a b c=>aG (FO a b c).1 (FO a b c).2) LM)::aFt
theorem Lh[Gl]:aO zB aFu:=(aA (Ul Fi) Lg)
theorem Fj[Gl](k a b:Int):sO zB 284 282 k [jA ⟨[jI jJ a,jI jJ b]⟩] (aG (LN a b).1 (LN a b).2) (YI k a b):=by
 refine fN aP Lh (t:=lt (fK a b) fun c=>lt (FO c.1 c.2.1 c.2.2) fun d=>lt (LM k c.1 c.2.1 c.2.2) fun e=>some (.v (jA ⟨[jI jJ d.1,jI jJ d.2]⟩),⟨[.v (jI jJ e)],282⟩)) (by kernel_rfl) ?_;rfl
def BH(a b:Int):Int×Int:=((bB a b).1,(bB a b).2.1)
def LJ(k a b:Int):Int:=lS k (bB a b).2.2
def aFv:bW:=(284,cP 282 (fun a b=>aG (LN a b).1 (LN a b).2) YI)::aFu
theorem Lk[Gl]:aO zB aFv:=(aA (VM Fj) Lh)
theorem Fd[Gl](k a b:Int):sO zB 285 282 k [jA ⟨[jI jJ a,jI jJ b]⟩] (aG (BH a b).1 (BH a b).2) (LJ k a b):=by
 refine fN aP Lk (t:=lt (bB a b) fun c=>lt (FO c.1 c.2.1 c.2.2) fun d=>lt (LM k c.1 c.2.1 c.2.2) fun e=>some (.v (jA ⟨[jI jJ d.1,jI jJ d.2]⟩),⟨[.v (jI jJ e)],282⟩)) (by kernel_rfl) ?_;rfl
def FN(a b c d:Int):Int×Int:=((aZ a b c d).1,(aZ a b c d).2.1)
def PU(k a b c d:Int):Int:=lS k (aZ a b c d).2.2
def aFx:bW:=(285,cP 282 (fun a b=>aG (BH a b).1 (BH a b).2) LJ)::aFv
theorem Ll[Gl]:aO zB aFx:=(aA (VM Fd) Lk)
theorem Fh[Gl](k a b c d:Int):sO zB 283 282 k [jA ⟨[jI jJ a,jI jJ b]⟩,jA ⟨[jI jJ c,jI jJ d]⟩] (aG (FN a b c d).1 (FN a b c d).2) (PU k a b c d):=by
 refine fN aP Ll (t:=lt (aZ a b c d) fun e=>lt (FO e.1 e.2.1 e.2.2) fun f=>lt (LM k e.1 e.2.1 e.2.2) fun g=>some (.v (jA ⟨[jI jJ f.1,jI jJ f.2]⟩),⟨[.v (jI jJ g)],282⟩)) (by kernel_rfl) ?_;rfl
def EI(a b c d:Int):Int×Int:=((aQ a b c d).1,(aQ a b c d).2.1)
def TI(k a b c d:Int):Int:=lS k (aQ a b c d).2.2
def aFy:bW:=(283,cPP 282 (fun a b c d=>aG (FN a b c d).1 (FN a b c d).2) PU)::aFx
theorem Lm[Gl]:aO zB aFy:=(aA (JO Fh) Ll)
theorem YH[Gl](k a b c d:Int):sO zB 282 282 k [jA ⟨[jI jJ a,jI jJ b]⟩,jA ⟨[jI jJ c,jI jJ d]⟩] (aG (EI a b c d).1 (EI a b c d).2) (TI k a b c d):=by
 refine fN aP Lm (t:=lt (aQ a b c d) fun e=>lt (FO e.1 e.2.1 e.2.2) fun f=>lt (LM k e.1 e.2.1 e.2.2) fun g=>some (.v (jA ⟨[jI jJ f.1,jI jJ f.2]⟩),⟨[.v (jI jJ g)],282⟩)) (by kernel_rfl) ?_;rfl
def aGi(r:Int×Int×Int×Int×Int×Int):Value:=jA ⟨[jI jJ r.1,jI jJ r.2.1,jI jJ r.2.2.1,jI jJ r.2.2.2.1,jI jJ r.2.2.2.2.1,jI jJ r.2.2.2.2.2]⟩
def Vc(r:Int×Int×Int×Int×Int×Int×Int):Value:=.tuple ⟨[jA ⟨[jI jJ r.1,jI jJ r.2.1,jI jJ r.2.2.1,jI jJ r.2.2.2.1,jI jJ r.2.2.2.2.1,jI jJ r.2.2.2.2.2.1]⟩,jI jJ r.2.2.2.2.2.2]⟩
def L6(r:Int×Int):Value:=.tuple ⟨[jI jJ r.1,jI jJ r.2]⟩
def euS(F:Int->Int->Int->Int->Value):AL
 | [.v (jA ⟨[jI jJ a,jI jJ b,jI jJ c,jI jJ d]⟩)],[]=>some (true,.v (F a b c d),[])
 |_,_=>none
theorem Ek[Gl]{P:Program}{g:FuncId}{F:Int->Int->Int->Int->Value}(h:∀a b c d,aF P g [jA ⟨[jI jJ a,jI jJ b,jI jJ c,jI jJ d]⟩] (F a b c d))(args:List AV)(L:Ev.cD)(z:Bool)(r:AV)(e:Ev.cD)(q:euS F args L=some (z,r,e))(_:z=true):fZ P g args L r e:=by
 unfold euS at q;split at q
 ·cases q;exact bK (h _ _ _ _)
 ·cases q
def eTS(F:Int->Int->Int->Int->Int->Int->Int->Int->Int->Int->Value):AL
 | [.v (jA ⟨[jI jJ a,jI jJ b,jI jJ c,jI jJ d,jI jJ e,jI jJ f]⟩),.v (jA ⟨[jI jJ u,jI jJ v,jI jJ w,jI jJ x]⟩)],[]=>some (true,.v (F a b c d e f u v w x),[])
 |_,_=>none
theorem Eh[Gl]{P:Program}{g:FuncId}{F:Int->Int->Int->Int->Int->Int->Int->Int->Int->Int->Value}(h:∀a b c d e f u v w x,aF P g [jA ⟨[jI jJ a,jI jJ b,jI jJ c,jI jJ d,jI jJ e,jI jJ f]⟩,jA ⟨[jI jJ u,jI jJ v,jI jJ w,jI jJ x]⟩] (F a b c d e f u v w x))(args:List AV)(L:Ev.cD)(z:Bool)(r:AV)(i:Ev.cD)(q:eTS F args L=some (z,r,i))(_:z=true):fZ P g args L r i:=by
 unfold eTS at q;split at q
 ·cases q;exact bK (h _ _ _ _ _ _ _ _ _ _)
 ·cases q
def pH(a:Int):Int:=cond (decide ((oH a)>=10800000)) (i64.wrap ((oH a)-21600000)) ((oH a))
def aFz:bW:=(282,cPP 282 (fun a b c d=>aG (EI a b c d).1 (EI a b c d).2) TI)::aFy
theorem Ln[Gl]:aO zB aFz:=(aA (JO YH) Lm)
theorem tZ[Gl](a:Int):aF zB 46 [jI jJ a] (jI jJ (pH a)):=by
 refine aD aP Ln (t:=cond (decide ((oH a)>=10800000)) (some (.v (jI jJ (i64.wrap ((oH a)-21600000))))) (some (.v (jI jJ (oH a))))) (by kernel_rfl) ?_;unfold pH;repeat' first|(with_reducible refine aL (fun r:Int=>AV.v (jI jJ (r))) ?_ ?_)|(with_reducible refine aY (fun r:Int=>AV.v (jI jJ (r))) fun _=>?_)|rfl
def Eo:Int×Int:=((-10800000),10800000)
def aFA:bW:=(46,eI (fun a=>jI jJ (pH a)))::aFz
theorem Lo[Gl]:aO zB aFA:=(aA (KH tZ) Ln)
theorem KN[Gl]:aF zB 73 [] (aG (Eo).1 (Eo).2):=aD aP Lo (by kernel_rfl) rfl
def nI(a b:Int):Bool:=lt (Eo) fun x1=>((a==x1.1)&&((b==x1.2)&&true))
def aFB:bW:=(73,e0 (aG (Eo).1 (Eo).2))::aFA
theorem Lp[Gl]:aO zB aFB:=(aA (aEK KN) Lo)
theorem oA[Gl](a b:Int):aF zB 71 [jA ⟨[jI jJ a,jI jJ b]⟩] (.bool (nI a b)):=aD aP Lp (by kernel_rfl) rfl
def FU(a b:Int):Bool:=cond (decide (a<=b)) (cond (decide (a>=(-5400000))) ((decide (b<=5400000))) (false)) (false)
def aFC:bW:=(71,eP (fun a b=>.bool (nI a b)))::aFB
theorem Lr[Gl]:aO zB aFC:=(aA (cX oA) Lp)
theorem Be[Gl](a b:Int):aF zB 47 [jA ⟨[jI jJ a,jI jJ b]⟩] (.bool (FU a b)):=by
 refine aD aP Lr (t:=cond (decide (a<=b)) (cond (decide (a>=(-5400000))) (some (.v (.bool (decide (b<=5400000))))) (some (.v (.bool false)))) (some (.v (.bool false)))) (by kernel_rfl) ?_;unfold FU;repeat' first|(with_reducible refine aL (fun r:Bool=>AV.v (.bool (r))) ?_ ?_)|(with_reducible refine aY (fun r:Bool=>AV.v (.bool (r))) fun _=>?_)|rfl
def QT(a b:Int):Bool:=cond (nI a b) (true) (cond (decide (a>=(-10800000))) (cond (decide (a<10800000)) (cond (decide (a<=b)) ((decide (i64.wrap (b-a)<21600000))) (false)) (false)) (false))
def aFD:bW:=(47,eP (fun a b=>.bool (FU a b)))::aFC
theorem Lt[Gl]:aO zB aFD:=(aA (cX Be) Lr)
theorem Bg[Gl](a b:Int):aF zB 48 [jA ⟨[jI jJ a,jI jJ b]⟩] (.bool (QT a b)):=by
 refine aD aP Lt (t:=cond (nI a b) (some (.v (.bool true))) (cond (decide (a>=(-10800000))) (cond (decide (a<10800000)) (cond (decide (a<=b)) (some (.v (.bool (decide (i64.wrap (b-a)<21600000))))) (some (.v (.bool false)))) (some (.v (.bool false)))) (some (.v (.bool false))))) (by kernel_rfl) ?_;unfold QT;repeat' first|(with_reducible refine aL (fun r:Bool=>AV.v (.bool (r))) ?_ ?_)|(with_reducible refine aY (fun r:Bool=>AV.v (.bool (r))) fun _=>?_)|rfl
def cT(a b c d:Int):Bool:=cond (FU a b) ((QT c d)) (false)
def aBR:bW:=(48,eP (fun a b=>.bool (QT a b)))::aFD
theorem YB[Gl]:aO zB aBR:=(aA (cX Bg) Lt)
theorem fE[Gl](a b c d:Int):aF zB 29 [jA ⟨[jI jJ a,jI jJ b,jI jJ c,jI jJ d]⟩] (.bool (cT a b c d)):=by
 refine aD aP YB (t:=cond (FU a b) (some (.v (.bool (QT c d)))) (some (.v (.bool false)))) (by kernel_rfl) ?_;unfold cT;repeat' first|(with_reducible refine aL (fun r:Bool=>AV.v (.bool (r))) ?_ ?_)|(with_reducible refine aY (fun r:Bool=>AV.v (.bool (r))) fun _=>?_)|rfl
def Co(a _b c:Int):Int:=(oH (i64.wrap (c-a)))
def aBS:bW:=(29,euS (fun a b c d=>.bool (cT a b c d)))::aBR
theorem YC[Gl]:aO zB aBS:=(aA (Ek fE) YB)
theorem wN[Gl](a b c:Int):aF zB 72 [jA ⟨[jI jJ a,jI jJ b]⟩,jI jJ c] (jI jJ (Co a b c)):=aD aP YC (by kernel_rfl) rfl
def ZD(a b c d:Int):Bool:=cond (nI c d) (true) (cond (nI a b) (false) ((decide (i64.wrap ((i64.wrap ((Co c d a)+b))-a)<=i64.wrap (d-c)))))
def aBT:bW:=(72,ePI (fun a b c=>jI jJ (Co a b c)))::aBS
theorem YD[Gl]:aO zB aBT:=(aA (aD7 wN) YC)
theorem ZE[Gl](a b c d:Int):aF zB 191 [jA ⟨[jI jJ a,jI jJ b]⟩,jA ⟨[jI jJ c,jI jJ d]⟩] (.bool (ZD a b c d)):=by
 refine aD aP YD (t:=cond (nI c d) (some (.v (.bool true))) (cond (nI a b) (some (.v (.bool false))) (some (.v (.bool (decide (i64.wrap ((i64.wrap ((Co c d a)+b))-a)<=i64.wrap (d-c)))))))) (by kernel_rfl) ?_;unfold ZD;repeat' first|(with_reducible refine aL (fun r:Bool=>AV.v (.bool (r))) ?_ ?_)|(with_reducible refine aY (fun r:Bool=>AV.v (.bool (r))) fun _=>?_)|rfl
def aDD(a b c d e f u v:Int):Bool:=cond (cT a b c d) (cond (cT e f u v) (cond (decide (a>=e)) (cond (decide (b<=f)) ((ZD c d u v)) (false)) (false)) (false)) (false)
def aBU:bW:=(191,GU (fun a b c d=>.bool (ZD a b c d)))::aBT
theorem LF[Gl]:aO zB aBU:=(aA (dZ ZE) YD)
theorem Gd[Gl](a b c d e f u v:Int):aF zB 130 [jA ⟨[jI jJ a,jI jJ b,jI jJ c,jI jJ d]⟩,jA ⟨[jI jJ e,jI jJ f,jI jJ u,jI jJ v]⟩] (.bool (aDD a b c d e f u v)):=by
 refine aD aP LF (t:=cond (cT a b c d) (cond (cT e f u v) (cond (decide (a>=e)) (cond (decide (b<=f)) (some (.v (.bool (ZD c d u v)))) (some (.v (.bool false)))) (some (.v (.bool false)))) (some (.v (.bool false)))) (some (.v (.bool false)))) (by kernel_rfl) ?_;unfold aDD;repeat' first|(with_reducible refine aL (fun r:Bool=>AV.v (.bool (r))) ?_ ?_)|(with_reducible refine aY (fun r:Bool=>AV.v (.bool (r))) fun _=>?_)|rfl
def Ji(a b:Int):Bool:=(cT a b 0 0)
theorem WA[Gl](a b:Int):aF zB 27 [jA ⟨[jI jJ a,jI jJ b]⟩] (.bool (Ji a b)):=aD aP LF (by kernel_rfl) rfl
def RW{α:Type}(K:Int->Int->α)(a b:Int):α:=cond (decide (i64.wrap (b-a)>=21600000)) (K (-10800000) 10800000) (K (pH a) (i64.wrap ((i64.wrap ((pH a)+b))-a)))
def FF(a b:Int):Int×Int:=RW (fun p0 p1=>(p0,p1)) a b
def aBV:bW:=(27,eP (fun a b=>.bool (Ji a b)))::aBU
theorem YE[Gl]:aO zB aBV:=(aA (cX WA) LF)
theorem WC[Gl](a b:Int):aF zB 28 [jA ⟨[jI jJ a,jI jJ b]⟩] (aG (FF a b).1 (FF a b).2):=by
 refine aD aP YE (t:=RW (fun c d=>some (.v (aG ((c,d)).1 ((c,d)).2))) a b) (by kernel_rfl) ?_;unfold FF RW;repeat' first|(with_reducible refine aL (fun r:Int×Int=>AV.v (aG (r).1 (r).2)) ?_ ?_)|(with_reducible refine aY (fun r:Int×Int=>AV.v (aG (r).1 (r).2)) fun _=>?_)|rfl
def kE(a b c d e f:Int):Bool:=cond (cT a b c d) (cond (aB e f) (cond (decide (e>=0)) ((decide (f<=10800000))) (false)) (false)) (false)
def aBW:bW:=(28,eP (fun a b=>aG (FF a b).1 (FF a b).2))::aBV
theorem YF[Gl]:aO zB aBW:=(aA (cX WC) YE)
theorem FG[Gl](a b c d e f:Int):aF zB 63 [jA ⟨[jI jJ a,jI jJ b,jI jJ c,jI jJ d,jI jJ e,jI jJ f]⟩] (.bool (kE a b c d e f)):=by
 refine aD aP YF (t:=cond (cT a b c d) (cond (aB e f) (cond (decide (e>=0)) (some (.v (.bool (decide (f<=10800000))))) (some (.v (.bool false)))) (some (.v (.bool false)))) (some (.v (.bool false)))) (by kernel_rfl) ?_;unfold kE;repeat' first|(with_reducible refine aL (fun r:Bool=>AV.v (.bool (r))) ?_ ?_)|(with_reducible refine aY (fun r:Bool=>AV.v (.bool (r))) fun _=>?_)|rfl
def Jo(a b c d _e _f u v w x:Int):Int×Int×Int×Int×Int×Int:=(u,v,a,b,i64.wrap (w-d),i64.wrap (x-c))
def aBX:bW:=(63,eT (fun a b c d e f=>.bool (kE a b c d e f)))::aBW
theorem YG[Gl]:aO zB aBX:=(aA (XB FG) YF)
theorem WP[Gl](a b c d e f u v w x:Int):aF zB 281 [jA ⟨[jI jJ a,jI jJ b,jI jJ c,jI jJ d,jI jJ e,jI jJ f]⟩,jA ⟨[jI jJ u,jI jJ v,jI jJ w,jI jJ x]⟩] (aGi (Jo a b c d e f u v w x)):=aD aP YG (by kernel_rfl) rfl
def SE{α:Type}(K:Int->Int->α)(a b c d e f u v w x:Int):α:=cond (!(kE a b c d e f)) (K 0 1) (cond (!(cT u v w x)) (K 0 1) (lt (Jo a b c d e f u v w x) fun x1=>lt (LN x1.1 x1.2.1) fun x3=>lt (YI 0 x1.1 x1.2.1) fun x2=>lt (LN x1.2.2.1 x1.2.2.2.1) fun x5=>lt (YI x2 x1.2.2.1 x1.2.2.2.1) fun x4=>lt (FN x3.1 x3.2 x5.1 x5.2) fun x7=>lt (PU x4 x3.1 x3.2 x5.1 x5.2) fun x6=>lt (BH x1.1 x1.2.1) fun x9=>lt (LJ x6 x1.1 x1.2.1) fun x8=>lt (BH x1.2.2.1 x1.2.2.2.1) fun x11=>lt (LJ x8 x1.2.2.1 x1.2.2.2.1) fun x10=>lt (FN x9.1 x9.2 x11.1 x11.2) fun x13=>lt (PU x10 x9.1 x9.2 x11.1 x11.2) fun x12=>lt (BH x1.2.2.2.2.1 x1.2.2.2.2.2) fun x15=>lt (LJ x12 x1.2.2.2.2.1 x1.2.2.2.2.2) fun x14=>lt (FN x13.1 x13.2 x15.1 x15.2) fun x17=>lt (PU x14 x13.1 x13.2 x15.1 x15.2) fun x16=>lt (EI x7.1 x7.2 x17.1 x17.2) fun x19=>lt (TI x16 x7.1 x7.2 x17.1 x17.2) fun x18=>lt (BH e f) fun x21=>lt (LJ x18 e f) fun x20=>cond (x20 != 0) (K 0 x20) (cond (decide (x19.1>x21.2)) (K 1 0) (cond (decide (x19.2<x21.1)) (K (-1) 0) (K 0 0)))))
def sB(a b c d e f u v w x:Int):Int×Int:=SE (fun p0 p1=>(p0,p1)) a b c d e f u v w x
def aBY:bW:=(281,eTS (fun a b c d e f u v w x=>aGi (Jo a b c d e f u v w x)))::aBX
theorem nE[Gl]:aO zB aBY:=(aA (Eh WP) YG)
theorem WN[Gl](a b c d e f u v w x:Int):aF zB 254 [jA ⟨[jI jJ a,jI jJ b,jI jJ c,jI jJ d,jI jJ e,jI jJ f]⟩,jA ⟨[jI jJ u,jI jJ v,jI jJ w,jI jJ x]⟩] (L6 (sB a b c d e f u v w x)):=by
 refine aD aP nE (t:=SE (fun g h=>some (.v (L6 ((g,h))))) a b c d e f u v w x) (by kernel_rfl) ?_;unfold sB SE;repeat' first|(with_reducible refine aL (fun r:Int×Int=>AV.v (L6 (r))) ?_ ?_)|(with_reducible refine aY (fun r:Int×Int=>AV.v (L6 (r))) fun _=>?_)|rfl
def Jh{α:Type}(K:Int->Int->Int->Int->Int->Int->Int->α)(a b c d e f _u _v _w _x:Int):α:=cond (!(aB a b)) (K 0 0 0 0 0 0 1) (cond (!(aB c d)) (K 0 0 0 0 0 0 1) (cond (!(Ji e f)) (K 0 0 0 0 0 0 1) (cond (decide (a<(-5400000))) (K 0 0 0 0 0 0 2) (cond (decide (b>5400000)) (K 0 0 0 0 0 0 2) (lt (FF (i64.wrap (0-d)) (i64.wrap (0-c))) fun x1=>K e f x1.1 x1.2 (i64.wrap (5400000-b)) (i64.wrap (5400000-a)) 0)))))
def W8(a b c d e f u v w x:Int):Int×Int×Int×Int×Int×Int×Int:=Jh (fun p0 p1 p2 p3 p4 p5 p6=>(p0,p1,p2,p3,p4,p5,p6)) a b c d e f u v w x
theorem Dc[Gl](a b c d e f u v w x:Int):aF zB 11 [jA ⟨[jI jJ a,jI jJ b]⟩,jA ⟨[jI jJ c,jI jJ d,jI jJ e,jI jJ f,jI jJ u,jI jJ v,jI jJ w,jI jJ x]⟩] (Vc (W8 a b c d e f u v w x)):=by
 refine aD aP nE (t:=Jh (fun g h i j k l m=>some (.v (Vc ((g,h,i,j,k,l,m))))) a b c d e f u v w x) (by kernel_rfl) ?_;unfold W8 Jh;repeat' first|(with_reducible refine aL (fun r:Int×Int×Int×Int×Int×Int×Int=>AV.v (Vc (r))) ?_ ?_)|(with_reducible refine aY (fun r:Int×Int×Int×Int×Int×Int×Int=>AV.v (Vc (r))) fun _=>?_)|rfl
def wT(a b c d:Int):Bool:=cond (dM a b c d) (cond (decide (c<=a)) ((decide (b<=d))) (false)) (false)
theorem Es[Gl](a b c d:Int):aF zB 287 [jA ⟨[jI jJ a,jI jJ b]⟩,jA ⟨[jI jJ c,jI jJ d]⟩] (.bool (wT a b c d)):=by
 refine aD aP nE (t:=cond (dM a b c d) (cond (decide (c<=a)) (some (.v (.bool (decide (b<=d))))) (some (.v (.bool false)))) (some (.v (.bool false)))) (by kernel_rfl) ?_;unfold wT;repeat' first|(with_reducible refine aL (fun r:Bool=>AV.v (.bool (r))) ?_ ?_)|(with_reducible refine aY (fun r:Bool=>AV.v (.bool (r))) fun _=>?_)|rfl
def wE(a b:Int):Bool:=cond (aB a b) (cond (decide (a>=(-5400000))) ((decide (b<=5400000))) (false)) (false)
theorem YS[Gl](a b:Int):aF zB 251 [jA ⟨[jI jJ a,jI jJ b]⟩] (.bool (wE a b)):=by
 refine aD aP nE (t:=cond (aB a b) (cond (decide (a>=(-5400000))) (some (.v (.bool (decide (b<=5400000))))) (some (.v (.bool false)))) (some (.v (.bool false)))) (by kernel_rfl) ?_;unfold wE;repeat' first|(with_reducible refine aL (fun r:Bool=>AV.v (.bool (r))) ?_ ?_)|(with_reducible refine aY (fun r:Bool=>AV.v (.bool (r))) fun _=>?_)|rfl
def QF(a b c d:Int):Bool:=cond (aB a b) (cond (aB c d) ((decide (c>=0))) (false)) (false)
theorem YW[Gl](a b c d:Int):aF zB 134 [jA ⟨[jI jJ a,jI jJ b,jI jJ c,jI jJ d]⟩] (.bool (QF a b c d)):=by
 refine aD aP nE (t:=cond (aB a b) (cond (aB c d) (some (.v (.bool (decide (c>=0))))) (some (.v (.bool false)))) (some (.v (.bool false)))) (by kernel_rfl) ?_;unfold QF;repeat' first|(with_reducible refine aL (fun r:Bool=>AV.v (.bool (r))) ?_ ?_)|(with_reducible refine aY (fun r:Bool=>AV.v (.bool (r))) fun _=>?_)|rfl
def FD(a b:Int):Bool:=cond (aB a b) (cond (decide (a>=(-10800000))) ((decide (b<=10800000))) (false)) (false)
theorem VE[Gl](a b:Int):aF zB 199 [jA ⟨[jI jJ a,jI jJ b]⟩] (.bool (FD a b)):=by
 refine aD aP nE (t:=cond (aB a b) (cond (decide (a>=(-10800000))) (some (.v (.bool (decide (b<=10800000))))) (some (.v (.bool false)))) (some (.v (.bool false)))) (by kernel_rfl) ?_;unfold FD;repeat' first|(with_reducible refine aL (fun r:Bool=>AV.v (.bool (r))) ?_ ?_)|(with_reducible refine aY (fun r:Bool=>AV.v (.bool (r))) fun _=>?_)|rfl
def Iu(a b c d:Int):Bool:=cond (FD a b) ((FD c d)) (false)
def aBZ:bW:=(199,eP (fun a b=>.bool (FD a b)))::aBY
theorem iR[Gl]:aO zB aBZ:=(aA (cX VE) nE)
theorem US[Gl](a b c d:Int):aF zB 137 [jA ⟨[jI jJ a,jI jJ b]⟩,jA ⟨[jI jJ c,jI jJ d]⟩] (.bool (Iu a b c d)):=by
 refine aD aP iR (t:=cond (FD a b) (some (.v (.bool (FD c d)))) (some (.v (.bool false)))) (by kernel_rfl) ?_;unfold Iu;repeat' first|(with_reducible refine aL (fun r:Bool=>AV.v (.bool (r))) ?_ ?_)|(with_reducible refine aY (fun r:Bool=>AV.v (.bool (r))) fun _=>?_)|rfl
def JF{α:Type}(K:Int->Int->α)(a b:Int):α:=cond (decide (i64.wrap (b-a)>=21600000)) (K (-10800000) 10800000) (K (pH a) (i64.wrap ((pH a)+(i64.wrap (b-a)))))
def dS(a b:Int):Int×Int:=JF (fun p0 p1=>(p0,p1)) a b
theorem UR[Gl](a b:Int):aF zB 201 [jA ⟨[jI jJ a,jI jJ b]⟩] (aG (dS a b).1 (dS a b).2):=by
 refine aD aP iR (t:=JF (fun c d=>some (.v (aG ((c,d)).1 ((c,d)).2))) a b) (by kernel_rfl) ?_;unfold dS JF;repeat' first|(with_reducible refine aL (fun r:Int×Int=>AV.v (aG (r).1 (r).2)) ?_ ?_)|(with_reducible refine aY (fun r:Int×Int=>AV.v (aG (r).1 (r).2)) fun _=>?_)|rfl
def nJ(a b:Int):Bool:=cond (decide (a>=(-5340000))) ((decide (b<=5340000))) (false)
theorem ZR[Gl](a b:Int):aF zB 51 [jA ⟨[jI jJ a,jI jJ b]⟩] (.bool (nJ a b)):=by
 refine aD aP iR (t:=cond (decide (a>=(-5340000))) (some (.v (.bool (decide (b<=5340000))))) (some (.v (.bool false)))) (by kernel_rfl) ?_;unfold nJ;repeat' first|(with_reducible refine aL (fun r:Bool=>AV.v (.bool (r))) ?_ ?_)|(with_reducible refine aY (fun r:Bool=>AV.v (.bool (r))) fun _=>?_)|rfl
def QH(a:Int):Int×Int:=(a,a)
theorem ZS[Gl](a:Int):aF zB 126 [jI jJ a] (aG (QH a).1 (QH a).2):=aD aP iR (by kernel_rfl) rfl
def tY(a b c d:Int):Int×Int:=(i64.wrap (a-d),i64.wrap (b-c))
theorem ZY[Gl](a b c d:Int):aF zB 56 [jA ⟨[jI jJ a,jI jJ b]⟩,jA ⟨[jI jJ c,jI jJ d]⟩] (aG (tY a b c d).1 (tY a b c d).2):=aD aP iR (by kernel_rfl) rfl
def Gj{α:Type}(K:Int->Int->α)(a b:Int):α:=cond (decide (i64.wrap (b-a)>=21600000)) (K (-10800000) 10800000) (K (pH a) (i64.wrap ((pH a)+(i64.wrap (b-a)))))
def iJ(a b:Int):Int×Int:=Gj (fun p0 p1=>(p0,p1)) a b
theorem ZQ[Gl](a b:Int):aF zB 59 [jA ⟨[jI jJ a,jI jJ b]⟩] (aG (iJ a b).1 (iJ a b).2):=by
 refine aD aP iR (t:=Gj (fun c d=>some (.v (aG ((c,d)).1 ((c,d)).2))) a b) (by kernel_rfl) ?_;unfold iJ Gj;repeat' first|(with_reducible refine aL (fun r:Int×Int=>AV.v (aG (r).1 (r).2)) ?_ ?_)|(with_reducible refine aY (fun r:Int×Int=>AV.v (aG (r).1 (r).2)) fun _=>?_)|rfl
def E5(a b c d:Int):Bool:=cond (decide (a<=b)) (cond (decide (a>=(-1099511627776))) (cond (decide (b<=1099511627776)) (cond (decide (c<=d)) (cond (decide (c>=(-1099511627776))) (cond (decide (d<=1099511627776)) (cond (decide (c>=0)) ((decide (d<=21600000))) (false)) (false)) (false)) (false)) (false)) (false)) (false)
theorem Gi[Gl](a b c d:Int):aF zB 7 [jA ⟨[jI jJ a,jI jJ b,jI jJ c,jI jJ d]⟩] (.bool (E5 a b c d)):=by
 refine aD aP iR (t:=cond (decide (a<=b)) (cond (decide (a>=(-1099511627776))) (cond (decide (b<=1099511627776)) (cond (decide (c<=d)) (cond (decide (c>=(-1099511627776))) (cond (decide (d<=1099511627776)) (cond (decide (c>=0)) (some (.v (.bool (decide (d<=21600000))))) (some (.v (.bool false)))) (some (.v (.bool false)))) (some (.v (.bool false)))) (some (.v (.bool false)))) (some (.v (.bool false)))) (some (.v (.bool false)))) (some (.v (.bool false)))) (by kernel_rfl) ?_;unfold E5;repeat' first|(with_reducible refine aL (fun r:Bool=>AV.v (.bool (r))) ?_ ?_)|(with_reducible refine aY (fun r:Bool=>AV.v (.bool (r))) fun _=>?_)|rfl
def Rv(a b:Int):Bool:=cond (decide (a>=(-5400000))) (cond (decide (a<=5400000)) (cond (decide (b>=(-10800000))) ((decide (b<10800000))) (false)) (false)) (false)
theorem Hy[Gl](a b:Int):aF zB 21 [jA ⟨[jI jJ a,jI jJ b]⟩] (.bool (Rv a b)):=by
 refine aD aP iR (t:=cond (decide (a>=(-5400000))) (cond (decide (a<=5400000)) (cond (decide (b>=(-10800000))) (some (.v (.bool (decide (b<10800000))))) (some (.v (.bool false)))) (some (.v (.bool false)))) (some (.v (.bool false)))) (by kernel_rfl) ?_;unfold Rv;repeat' first|(with_reducible refine aL (fun r:Bool=>AV.v (.bool (r))) ?_ ?_)|(with_reducible refine aY (fun r:Bool=>AV.v (.bool (r))) fun _=>?_)|rfl
def F8(a b:Int):Bool:=cond (Rv a b) (cond (decide (a>=(-4800000))) ((decide (a<=4800000))) (false)) (false)
def aC0:bW:=(21,eP (fun a b=>.bool (Rv a b)))::aBZ
theorem LH[Gl]:aO zB aC0:=(aA (cX Hy) iR)
theorem Gx[Gl](a b:Int):aF zB 5 [jA ⟨[jI jJ a,jI jJ b]⟩] (.bool (F8 a b)):=by
 refine aD aP LH (t:=cond (Rv a b) (cond (decide (a>=(-4800000))) (some (.v (.bool (decide (a<=4800000))))) (some (.v (.bool false)))) (some (.v (.bool false)))) (by kernel_rfl) ?_;unfold F8;repeat' first|(with_reducible refine aL (fun r:Bool=>AV.v (.bool (r))) ?_ ?_)|(with_reducible refine aY (fun r:Bool=>AV.v (.bool (r))) fun _=>?_)|rfl
def ON(a:Int):Int×Int:=(a,a)
theorem kX[Gl](a:Int):aF zB 9 [jI jJ a] (aG (ON a).1 (ON a).2):=aD aP LH (by kernel_rfl) rfl
def aG7(a b:Int):Int×Int×Int×Int:=lt (ON a) fun x1=>lt (ON b) fun x2=>(x1.1,x1.2,x2.1,x2.2)
def aFw:bW:=(9,eI (fun a=>aG (ON a).1 (ON a).2))::aC0
theorem LI[Gl]:aO zB aFw:=(aA (KH kX) LH)
theorem Hc[Gl](a b:Int):aF zB 6 [jA ⟨[jI jJ a,jI jJ b]⟩] (fR (aG7 a b)):=aD aP LI (by kernel_rfl) rfl
def NA(a b c d:Int):Bool:=cond (!(aB a b)) (true) (cond (decide (c<0)) (true) (cond (decide (c>d)) (true) ((decide (d>21600000)))))
theorem ZZ[Gl](a b c d:Int):aF zB 50 [jA ⟨[jI jJ a,jI jJ b,jI jJ c,jI jJ d]⟩] (.bool (NA a b c d)):=by
 refine aD aP LI (t:=cond (!(aB a b)) (some (.v (.bool true))) (cond (decide (c<0)) (some (.v (.bool true))) (cond (decide (c>d)) (some (.v (.bool true))) (some (.v (.bool (decide (d>21600000)))))))) (by kernel_rfl) ?_;unfold NA;repeat' first|(with_reducible refine aL (fun r:Bool=>AV.v (.bool (r))) ?_ ?_)|(with_reducible refine aY (fun r:Bool=>AV.v (.bool (r))) fun _=>?_)|rfl
def FQ(a b c d:Int):Bool:=cond (!(aB a b)) (true) (cond (!(aB c d)) (true) ((decide (c<0))))
theorem ZM[Gl](a b c d:Int):aF zB 60 [jA ⟨[jI jJ a,jI jJ b,jI jJ c,jI jJ d]⟩] (.bool (FQ a b c d)):=by
 refine aD aP LI (t:=cond (!(aB a b)) (some (.v (.bool true))) (cond (!(aB c d)) (some (.v (.bool true))) (some (.v (.bool (decide (c<0))))))) (by kernel_rfl) ?_;unfold FQ;repeat' first|(with_reducible refine aL (fun r:Bool=>AV.v (.bool (r))) ?_ ?_)|(with_reducible refine aY (fun r:Bool=>AV.v (.bool (r))) fun _=>?_)|rfl
end
section
open Ev
open Ev (Gl)
def bH(x y:Int):Int:=i64.wrap ((BitVec.ofInt IntKind.i64.bits x&&& BitVec.ofInt IntKind.i64.bits y).toNat)
def sM(x y:Int):Int:=i64.wrap ((BitVec.ofInt IntKind.i64.bits x|||BitVec.ofInt IntKind.i64.bits y).toNat)
def sE(r:Int×Int):Value:=jA ⟨[jI jJ r.1,jI jJ r.2]⟩
def fM(r:Int×Int×Int×Int×Int):Value:=.tuple ⟨[jA ⟨[jI jJ r.1,jI jJ r.2.1,jI jJ r.2.2.1,jI jJ r.2.2.2.1]⟩,jI jJ r.2.2.2.2]⟩
def aEn(r:Int×Int×Int):Value:=jA ⟨[jI jJ 0,jI jJ r.2.1,jI jJ r.2.2]⟩
def aEo(r:Int×Int×Int):Value:=jA ⟨[jI jJ 1,jI jJ r.2.1,jI jJ r.2.2]⟩
def aEp(r:Int×Int×Int):Value:=jA ⟨[jI jJ 2,jI jJ r.2.1,jI jJ r.2.2]⟩
def aEq(r:Int×Int×Int):Value:=jA ⟨[jI jJ 3,jI jJ r.2.1,jI jJ r.2.2]⟩
def aEr(r:Int×Int×Int):Value:=jA ⟨[jI jJ 4,jI jJ r.2.1,jI jJ r.2.2]⟩
def aEs(r:Int×Int×Int):Value:=jA ⟨[jI jJ 5,jI jJ r.2.1,jI jJ r.2.2]⟩
def Ur{α:Type}(K:Int->Int->Int->Int->Int->α)(a b:Int):α:=cond (decide (a>=0)) (cond (decide (a<1)) (cond (decide (b>=0)) (cond (!(decide (b<2))) (K 0 0 0 0 1) (K (i64.wrap ((zE (i64.wrap (a*10800000)) (2^0))-5400000)) (i64.wrap ((zE (i64.wrap ((i64.wrap (a+1))*10800000)) (2^0))-5400000)) (i64.wrap ((zE (i64.wrap (b*10800000)) (2^0))-10800000)) (i64.wrap ((zE (i64.wrap ((i64.wrap (b+1))*10800000)) (2^0))-10800000)) 0)) (K 0 0 0 0 1)) (K 0 0 0 0 1)) (K 0 0 0 0 1)
def VQ(a b:Int):Int×Int×Int×Int×Int:=Ur (fun p0 p1 p2 p3 p4=>(p0,p1,p2,p3,p4)) a b
def aGG:bW:=[]
theorem cJ[Gl]:aO zB aGG:=dK
theorem Cv[Gl](a b:Int):aF zB 190 [jA ⟨[jI jJ 0,jI jJ a,jI jJ b]⟩] (fM (VQ a b)):=by
 refine aD aP cJ (t:=Ur (fun c d e f g=>some (.v (fM ((c,d,e,f,g))))) a b) (by kernel_rfl) ?_;unfold VQ Ur;repeat' first|(with_reducible refine aL (fun r:Int×Int×Int×Int×Int=>AV.v (fM (r))) ?_ ?_)|(with_reducible refine aY (fun r:Int×Int×Int×Int×Int=>AV.v (fM (r))) fun _=>?_)|rfl
def Zy{α:Type}(K:Int->Int->Int->Int->α)(a b:Int):α:=cond (decide (a>=0)) (cond (decide (a<1)) (cond (decide (b>=0)) (cond (!(decide (b<2))) (K 0 0 0 0) (K (i64.wrap ((zE (i64.wrap (a*10800000)) (2^0))-5400000)) (i64.wrap ((zE (i64.wrap ((i64.wrap (a+1))*10800000)) (2^0))-5400000)) (i64.wrap ((zE (i64.wrap (b*10800000)) (2^0))-10800000)) (i64.wrap ((zE (i64.wrap ((i64.wrap (b+1))*10800000)) (2^0))-10800000)))) (K 0 0 0 0)) (K 0 0 0 0)) (K 0 0 0 0)
def GC(a b:Int):Int×Int×Int×Int:=Zy (fun p0 p1 p2 p3=>(p0,p1,p2,p3)) a b
theorem MJ[Gl](a b:Int):aF zB 128 [jA ⟨[jI jJ 0,jI jJ a,jI jJ b]⟩] (fR (GC a b)):=by
 refine aD aP cJ (t:=Zy (fun c d e f=>some (.v (fR ((c,d,e,f))))) a b) (by kernel_rfl) ?_;unfold GC Zy;repeat' first|(with_reducible refine aL (fun r:Int×Int×Int×Int=>AV.v (fR (r))) ?_ ?_)|(with_reducible refine aY (fun r:Int×Int×Int×Int=>AV.v (fR (r))) fun _=>?_)|rfl
def aEw(a:Int):Int×Int×Int:=(0,0,(sM 0 (i64.wrap ((zE a (2^0))*2^0))))
theorem Di[Gl](a:Int):aF zB 245 [jI jJ a,jI jJ 0] (aEn (aEw a)):=aD aP cJ (by kernel_rfl) rfl
def aG8(_a b:Int):Int×Int:=(i64.wrap ((zE b (2^0))*4294967296),i64.wrap ((i64.wrap ((zE b (2^0))+1))*4294967296))
theorem Hd[Gl](a b:Int):aF zB 246 [jA ⟨[jI jJ 0,jI jJ a,jI jJ b]⟩] (sE (aG8 a b)):=aD aP cJ (by kernel_rfl) rfl
def Us{α:Type}(K:Int->Int->Int->Int->Int->α)(a b:Int):α:=cond (decide (a>=0)) (cond (decide (a<2)) (cond (decide (b>=0)) (cond (!(decide (b<4))) (K 0 0 0 0 1) (K (i64.wrap ((zE (i64.wrap (a*10800000)) (2^1))-5400000)) (i64.wrap ((zE (i64.wrap ((i64.wrap (a+1))*10800000)) (2^1))-5400000)) (i64.wrap ((zE (i64.wrap (b*10800000)) (2^1))-10800000)) (i64.wrap ((zE (i64.wrap ((i64.wrap (b+1))*10800000)) (2^1))-10800000)) 0)) (K 0 0 0 0 1)) (K 0 0 0 0 1)) (K 0 0 0 0 1)
def VR(a b:Int):Int×Int×Int×Int×Int:=Us (fun p0 p1 p2 p3 p4=>(p0,p1,p2,p3,p4)) a b
theorem Cw[Gl](a b:Int):aF zB 190 [jA ⟨[jI jJ 1,jI jJ a,jI jJ b]⟩] (fM (VR a b)):=by
 refine aD aP cJ (t:=Us (fun c d e f g=>some (.v (fM ((c,d,e,f,g))))) a b) (by kernel_rfl) ?_;unfold VR Us;repeat' first|(with_reducible refine aL (fun r:Int×Int×Int×Int×Int=>AV.v (fM (r))) ?_ ?_)|(with_reducible refine aY (fun r:Int×Int×Int×Int×Int=>AV.v (fM (r))) fun _=>?_)|rfl
def Zz{α:Type}(K:Int->Int->Int->Int->α)(a b:Int):α:=cond (decide (a>=0)) (cond (decide (a<2)) (cond (decide (b>=0)) (cond (!(decide (b<4))) (K 0 0 0 0) (K (i64.wrap ((zE (i64.wrap (a*10800000)) (2^1))-5400000)) (i64.wrap ((zE (i64.wrap ((i64.wrap (a+1))*10800000)) (2^1))-5400000)) (i64.wrap ((zE (i64.wrap (b*10800000)) (2^1))-10800000)) (i64.wrap ((zE (i64.wrap ((i64.wrap (b+1))*10800000)) (2^1))-10800000)))) (K 0 0 0 0)) (K 0 0 0 0)) (K 0 0 0 0)
def GD(a b:Int):Int×Int×Int×Int:=Zz (fun p0 p1 p2 p3=>(p0,p1,p2,p3)) a b
theorem MK[Gl](a b:Int):aF zB 128 [jA ⟨[jI jJ 1,jI jJ a,jI jJ b]⟩] (fR (GD a b)):=by
 refine aD aP cJ (t:=Zz (fun c d e f=>some (.v (fR ((c,d,e,f))))) a b) (by kernel_rfl) ?_;unfold GD Zz;repeat' first|(with_reducible refine aL (fun r:Int×Int×Int×Int=>AV.v (fR (r))) ?_ ?_)|(with_reducible refine aY (fun r:Int×Int×Int×Int=>AV.v (fR (r))) fun _=>?_)|rfl
def aEx(a:Int):Int×Int×Int:=(1,(sM 0 (i64.wrap ((zE (bH (zE a (2^0)) 3) (2^1))*2^0))),(sM (sM 0 (i64.wrap ((bH (bH (zE a (2^0)) 3) 1)*2^0))) (i64.wrap ((zE a (2^2))*2^1))))
theorem Dj[Gl](a:Int):aF zB 245 [jI jJ a,jI jJ 1] (aEo (aEx a)):=aD aP cJ (by kernel_rfl) rfl
def aG9(a b:Int):Int×Int:=(i64.wrap ((i64.wrap ((i64.wrap ((i64.wrap (4*(zE b (2^1))))+(i64.wrap (2*(bH (zE a (2^0)) 1)))))+(bH (zE b (2^0)) 1)))*1073741824),i64.wrap ((i64.wrap ((i64.wrap ((i64.wrap ((i64.wrap (4*(zE b (2^1))))+(i64.wrap (2*(bH (zE a (2^0)) 1)))))+(bH (zE b (2^0)) 1)))+1))*1073741824))
theorem He[Gl](a b:Int):aF zB 246 [jA ⟨[jI jJ 1,jI jJ a,jI jJ b]⟩] (sE (aG9 a b)):=aD aP cJ (by kernel_rfl) rfl
def Ut{α:Type}(K:Int->Int->Int->Int->Int->α)(a b:Int):α:=cond (decide (a>=0)) (cond (decide (a<4)) (cond (decide (b>=0)) (cond (!(decide (b<8))) (K 0 0 0 0 1) (K (i64.wrap ((zE (i64.wrap (a*10800000)) (2^2))-5400000)) (i64.wrap ((zE (i64.wrap ((i64.wrap (a+1))*10800000)) (2^2))-5400000)) (i64.wrap ((zE (i64.wrap (b*10800000)) (2^2))-10800000)) (i64.wrap ((zE (i64.wrap ((i64.wrap (b+1))*10800000)) (2^2))-10800000)) 0)) (K 0 0 0 0 1)) (K 0 0 0 0 1)) (K 0 0 0 0 1)
def VS(a b:Int):Int×Int×Int×Int×Int:=Ut (fun p0 p1 p2 p3 p4=>(p0,p1,p2,p3,p4)) a b
theorem Cx[Gl](a b:Int):aF zB 190 [jA ⟨[jI jJ 2,jI jJ a,jI jJ b]⟩] (fM (VS a b)):=by
 refine aD aP cJ (t:=Ut (fun c d e f g=>some (.v (fM ((c,d,e,f,g))))) a b) (by kernel_rfl) ?_;unfold VS Ut;repeat' first|(with_reducible refine aL (fun r:Int×Int×Int×Int×Int=>AV.v (fM (r))) ?_ ?_)|(with_reducible refine aY (fun r:Int×Int×Int×Int×Int=>AV.v (fM (r))) fun _=>?_)|rfl
def A8{α:Type}(K:Int->Int->Int->Int->α)(a b:Int):α:=cond (decide (a>=0)) (cond (decide (a<4)) (cond (decide (b>=0)) (cond (!(decide (b<8))) (K 0 0 0 0) (K (i64.wrap ((zE (i64.wrap (a*10800000)) (2^2))-5400000)) (i64.wrap ((zE (i64.wrap ((i64.wrap (a+1))*10800000)) (2^2))-5400000)) (i64.wrap ((zE (i64.wrap (b*10800000)) (2^2))-10800000)) (i64.wrap ((zE (i64.wrap ((i64.wrap (b+1))*10800000)) (2^2))-10800000)))) (K 0 0 0 0)) (K 0 0 0 0)) (K 0 0 0 0)
def GE(a b:Int):Int×Int×Int×Int:=A8 (fun p0 p1 p2 p3=>(p0,p1,p2,p3)) a b
theorem MM[Gl](a b:Int):aF zB 128 [jA ⟨[jI jJ 2,jI jJ a,jI jJ b]⟩] (fR (GE a b)):=by
 refine aD aP cJ (t:=A8 (fun c d e f=>some (.v (fR ((c,d,e,f))))) a b) (by kernel_rfl) ?_;unfold GE A8;repeat' first|(with_reducible refine aL (fun r:Int×Int×Int×Int=>AV.v (fR (r))) ?_ ?_)|(with_reducible refine aY (fun r:Int×Int×Int×Int=>AV.v (fR (r))) fun _=>?_)|rfl
def aEy(a:Int):Int×Int×Int:=(2,(sM (sM 0 (i64.wrap ((zE (bH (zE a (2^0)) 3) (2^1))*2^0))) (i64.wrap ((zE (bH (zE a (2^2)) 3) (2^1))*2^1))),(sM (sM (sM 0 (i64.wrap ((bH (bH (zE a (2^0)) 3) 1)*2^0))) (i64.wrap ((bH (bH (zE a (2^2)) 3) 1)*2^1))) (i64.wrap ((zE a (2^4))*2^2))))
theorem Dl[Gl](a:Int):aF zB 245 [jI jJ a,jI jJ 2] (aEp (aEy a)):=aD aP cJ (by kernel_rfl) rfl
def aGa(a b:Int):Int×Int:=(i64.wrap ((i64.wrap ((i64.wrap ((i64.wrap (4*(i64.wrap ((i64.wrap ((i64.wrap (4*(zE b (2^2))))+(i64.wrap (2*(bH (zE a (2^1)) 1)))))+(bH (zE b (2^1)) 1)))))+(i64.wrap (2*(bH (zE a (2^0)) 1)))))+(bH (zE b (2^0)) 1)))*268435456),i64.wrap ((i64.wrap ((i64.wrap ((i64.wrap ((i64.wrap (4*(i64.wrap ((i64.wrap ((i64.wrap (4*(zE b (2^2))))+(i64.wrap (2*(bH (zE a (2^1)) 1)))))+(bH (zE b (2^1)) 1)))))+(i64.wrap (2*(bH (zE a (2^0)) 1)))))+(bH (zE b (2^0)) 1)))+1))*268435456))
theorem Hf[Gl](a b:Int):aF zB 246 [jA ⟨[jI jJ 2,jI jJ a,jI jJ b]⟩] (sE (aGa a b)):=aD aP cJ (by kernel_rfl) rfl
def Uu{α:Type}(K:Int->Int->Int->Int->Int->α)(a b:Int):α:=cond (decide (a>=0)) (cond (decide (a<8)) (cond (decide (b>=0)) (cond (!(decide (b<16))) (K 0 0 0 0 1) (K (i64.wrap ((zE (i64.wrap (a*10800000)) (2^3))-5400000)) (i64.wrap ((zE (i64.wrap ((i64.wrap (a+1))*10800000)) (2^3))-5400000)) (i64.wrap ((zE (i64.wrap (b*10800000)) (2^3))-10800000)) (i64.wrap ((zE (i64.wrap ((i64.wrap (b+1))*10800000)) (2^3))-10800000)) 0)) (K 0 0 0 0 1)) (K 0 0 0 0 1)) (K 0 0 0 0 1)
def VT(a b:Int):Int×Int×Int×Int×Int:=Uu (fun p0 p1 p2 p3 p4=>(p0,p1,p2,p3,p4)) a b
theorem Cy[Gl](a b:Int):aF zB 190 [jA ⟨[jI jJ 3,jI jJ a,jI jJ b]⟩] (fM (VT a b)):=by
 refine aD aP cJ (t:=Uu (fun c d e f g=>some (.v (fM ((c,d,e,f,g))))) a b) (by kernel_rfl) ?_;unfold VT Uu;repeat' first|(with_reducible refine aL (fun r:Int×Int×Int×Int×Int=>AV.v (fM (r))) ?_ ?_)|(with_reducible refine aY (fun r:Int×Int×Int×Int×Int=>AV.v (fM (r))) fun _=>?_)|rfl
def C7{α:Type}(K:Int->Int->Int->Int->α)(a b:Int):α:=cond (decide (a>=0)) (cond (decide (a<8)) (cond (decide (b>=0)) (cond (!(decide (b<16))) (K 0 0 0 0) (K (i64.wrap ((zE (i64.wrap (a*10800000)) (2^3))-5400000)) (i64.wrap ((zE (i64.wrap ((i64.wrap (a+1))*10800000)) (2^3))-5400000)) (i64.wrap ((zE (i64.wrap (b*10800000)) (2^3))-10800000)) (i64.wrap ((zE (i64.wrap ((i64.wrap (b+1))*10800000)) (2^3))-10800000)))) (K 0 0 0 0)) (K 0 0 0 0)) (K 0 0 0 0)
def GG(a b:Int):Int×Int×Int×Int:=C7 (fun p0 p1 p2 p3=>(p0,p1,p2,p3)) a b
theorem MN[Gl](a b:Int):aF zB 128 [jA ⟨[jI jJ 3,jI jJ a,jI jJ b]⟩] (fR (GG a b)):=by
 refine aD aP cJ (t:=C7 (fun c d e f=>some (.v (fR ((c,d,e,f))))) a b) (by kernel_rfl) ?_;unfold GG C7;repeat' first|(with_reducible refine aL (fun r:Int×Int×Int×Int=>AV.v (fR (r))) ?_ ?_)|(with_reducible refine aY (fun r:Int×Int×Int×Int=>AV.v (fR (r))) fun _=>?_)|rfl
def aEz(a:Int):Int×Int×Int:=(3,(sM (sM (sM 0 (i64.wrap ((zE (bH (zE a (2^0)) 3) (2^1))*2^0))) (i64.wrap ((zE (bH (zE a (2^2)) 3) (2^1))*2^1))) (i64.wrap ((zE (bH (zE a (2^4)) 3) (2^1))*2^2))),(sM (sM (sM (sM 0 (i64.wrap ((bH (bH (zE a (2^0)) 3) 1)*2^0))) (i64.wrap ((bH (bH (zE a (2^2)) 3) 1)*2^1))) (i64.wrap ((bH (bH (zE a (2^4)) 3) 1)*2^2))) (i64.wrap ((zE a (2^6))*2^3))))
theorem Dm[Gl](a:Int):aF zB 245 [jI jJ a,jI jJ 3] (aEq (aEz a)):=aD aP cJ (by kernel_rfl) rfl
def aGb(a b:Int):Int×Int:=(i64.wrap ((i64.wrap ((i64.wrap ((i64.wrap (4*(i64.wrap ((i64.wrap ((i64.wrap (4*(i64.wrap ((i64.wrap ((i64.wrap (4*(zE b (2^3))))+(i64.wrap (2*(bH (zE a (2^2)) 1)))))+(bH (zE b (2^2)) 1)))))+(i64.wrap (2*(bH (zE a (2^1)) 1)))))+(bH (zE b (2^1)) 1)))))+(i64.wrap (2*(bH (zE a (2^0)) 1)))))+(bH (zE b (2^0)) 1)))*67108864),i64.wrap ((i64.wrap ((i64.wrap ((i64.wrap ((i64.wrap (4*(i64.wrap ((i64.wrap ((i64.wrap (4*(i64.wrap ((i64.wrap ((i64.wrap (4*(zE b (2^3))))+(i64.wrap (2*(bH (zE a (2^2)) 1)))))+(bH (zE b (2^2)) 1)))))+(i64.wrap (2*(bH (zE a (2^1)) 1)))))+(bH (zE b (2^1)) 1)))))+(i64.wrap (2*(bH (zE a (2^0)) 1)))))+(bH (zE b (2^0)) 1)))+1))*67108864))
theorem Hg[Gl](a b:Int):aF zB 246 [jA ⟨[jI jJ 3,jI jJ a,jI jJ b]⟩] (sE (aGb a b)):=aD aP cJ (by kernel_rfl) rfl
def Uv{α:Type}(K:Int->Int->Int->Int->Int->α)(a b:Int):α:=cond (decide (a>=0)) (cond (decide (a<16)) (cond (decide (b>=0)) (cond (!(decide (b<32))) (K 0 0 0 0 1) (K (i64.wrap ((zE (i64.wrap (a*10800000)) (2^4))-5400000)) (i64.wrap ((zE (i64.wrap ((i64.wrap (a+1))*10800000)) (2^4))-5400000)) (i64.wrap ((zE (i64.wrap (b*10800000)) (2^4))-10800000)) (i64.wrap ((zE (i64.wrap ((i64.wrap (b+1))*10800000)) (2^4))-10800000)) 0)) (K 0 0 0 0 1)) (K 0 0 0 0 1)) (K 0 0 0 0 1)
def VU(a b:Int):Int×Int×Int×Int×Int:=Uv (fun p0 p1 p2 p3 p4=>(p0,p1,p2,p3,p4)) a b
theorem Cz[Gl](a b:Int):aF zB 190 [jA ⟨[jI jJ 4,jI jJ a,jI jJ b]⟩] (fM (VU a b)):=by
 refine aD aP cJ (t:=Uv (fun c d e f g=>some (.v (fM ((c,d,e,f,g))))) a b) (by kernel_rfl) ?_;unfold VU Uv;repeat' first|(with_reducible refine aL (fun r:Int×Int×Int×Int×Int=>AV.v (fM (r))) ?_ ?_)|(with_reducible refine aY (fun r:Int×Int×Int×Int×Int=>AV.v (fM (r))) fun _=>?_)|rfl
def C8{α:Type}(K:Int->Int->Int->Int->α)(a b:Int):α:=cond (decide (a>=0)) (cond (decide (a<16)) (cond (decide (b>=0)) (cond (!(decide (b<32))) (K 0 0 0 0) (K (i64.wrap ((zE (i64.wrap (a*10800000)) (2^4))-5400000)) (i64.wrap ((zE (i64.wrap ((i64.wrap (a+1))*10800000)) (2^4))-5400000)) (i64.wrap ((zE (i64.wrap (b*10800000)) (2^4))-10800000)) (i64.wrap ((zE (i64.wrap ((i64.wrap (b+1))*10800000)) (2^4))-10800000)))) (K 0 0 0 0)) (K 0 0 0 0)) (K 0 0 0 0)
def GH(a b:Int):Int×Int×Int×Int:=C8 (fun p0 p1 p2 p3=>(p0,p1,p2,p3)) a b
theorem MO[Gl](a b:Int):aF zB 128 [jA ⟨[jI jJ 4,jI jJ a,jI jJ b]⟩] (fR (GH a b)):=by
 refine aD aP cJ (t:=C8 (fun c d e f=>some (.v (fR ((c,d,e,f))))) a b) (by kernel_rfl) ?_;unfold GH C8;repeat' first|(with_reducible refine aL (fun r:Int×Int×Int×Int=>AV.v (fR (r))) ?_ ?_)|(with_reducible refine aY (fun r:Int×Int×Int×Int=>AV.v (fR (r))) fun _=>?_)|rfl
def aEA(a:Int):Int×Int×Int:=(4,(sM (sM (sM (sM 0 (i64.wrap ((zE (bH (zE a (2^0)) 3) (2^1))*2^0))) (i64.wrap ((zE (bH (zE a (2^2)) 3) (2^1))*2^1))) (i64.wrap ((zE (bH (zE a (2^4)) 3) (2^1))*2^2))) (i64.wrap ((zE (bH (zE a (2^6)) 3) (2^1))*2^3))),(sM (sM (sM (sM (sM 0 (i64.wrap ((bH (bH (zE a (2^0)) 3) 1)*2^0))) (i64.wrap ((bH (bH (zE a (2^2)) 3) 1)*2^1))) (i64.wrap ((bH (bH (zE a (2^4)) 3) 1)*2^2))) (i64.wrap ((bH (bH (zE a (2^6)) 3) 1)*2^3))) (i64.wrap ((zE a (2^8))*2^4))))
theorem Dn[Gl](a:Int):aF zB 245 [jI jJ a,jI jJ 4] (aEr (aEA a)):=aD aP cJ (by kernel_rfl) rfl
def aGc(a b:Int):Int×Int:=(i64.wrap ((i64.wrap ((i64.wrap ((i64.wrap (4*(i64.wrap ((i64.wrap ((i64.wrap (4*(i64.wrap ((i64.wrap ((i64.wrap (4*(i64.wrap ((i64.wrap ((i64.wrap (4*(zE b (2^4))))+(i64.wrap (2*(bH (zE a (2^3)) 1)))))+(bH (zE b (2^3)) 1)))))+(i64.wrap (2*(bH (zE a (2^2)) 1)))))+(bH (zE b (2^2)) 1)))))+(i64.wrap (2*(bH (zE a (2^1)) 1)))))+(bH (zE b (2^1)) 1)))))+(i64.wrap (2*(bH (zE a (2^0)) 1)))))+(bH (zE b (2^0)) 1)))*16777216),i64.wrap ((i64.wrap ((i64.wrap ((i64.wrap ((i64.wrap (4*(i64.wrap ((i64.wrap ((i64.wrap (4*(i64.wrap ((i64.wrap ((i64.wrap (4*(i64.wrap ((i64.wrap ((i64.wrap (4*(zE b (2^4))))+(i64.wrap (2*(bH (zE a (2^3)) 1)))))+(bH (zE b (2^3)) 1)))))+(i64.wrap (2*(bH (zE a (2^2)) 1)))))+(bH (zE b (2^2)) 1)))))+(i64.wrap (2*(bH (zE a (2^1)) 1)))))+(bH (zE b (2^1)) 1)))))+(i64.wrap (2*(bH (zE a (2^0)) 1)))))+(bH (zE b (2^0)) 1)))+1))*16777216))
theorem Hh[Gl](a b:Int):aF zB 246 [jA ⟨[jI jJ 4,jI jJ a,jI jJ b]⟩] (sE (aGc a b)):=aD aP cJ (by kernel_rfl) rfl
def Uw{α:Type}(K:Int->Int->Int->Int->Int->α)(a b:Int):α:=cond (decide (a>=0)) (cond (decide (a<32)) (cond (decide (b>=0)) (cond (!(decide (b<64))) (K 0 0 0 0 1) (K (i64.wrap ((zE (i64.wrap (a*10800000)) (2^5))-5400000)) (i64.wrap ((zE (i64.wrap ((i64.wrap (a+1))*10800000)) (2^5))-5400000)) (i64.wrap ((zE (i64.wrap (b*10800000)) (2^5))-10800000)) (i64.wrap ((zE (i64.wrap ((i64.wrap (b+1))*10800000)) (2^5))-10800000)) 0)) (K 0 0 0 0 1)) (K 0 0 0 0 1)) (K 0 0 0 0 1)
def VV(a b:Int):Int×Int×Int×Int×Int:=Uw (fun p0 p1 p2 p3 p4=>(p0,p1,p2,p3,p4)) a b
theorem Da[Gl](a b:Int):aF zB 190 [jA ⟨[jI jJ 5,jI jJ a,jI jJ b]⟩] (fM (VV a b)):=by
 refine aD aP cJ (t:=Uw (fun c d e f g=>some (.v (fM ((c,d,e,f,g))))) a b) (by kernel_rfl) ?_;unfold VV Uw;repeat' first|(with_reducible refine aL (fun r:Int×Int×Int×Int×Int=>AV.v (fM (r))) ?_ ?_)|(with_reducible refine aY (fun r:Int×Int×Int×Int×Int=>AV.v (fM (r))) fun _=>?_)|rfl
def C9{α:Type}(K:Int->Int->Int->Int->α)(a b:Int):α:=cond (decide (a>=0)) (cond (decide (a<32)) (cond (decide (b>=0)) (cond (!(decide (b<64))) (K 0 0 0 0) (K (i64.wrap ((zE (i64.wrap (a*10800000)) (2^5))-5400000)) (i64.wrap ((zE (i64.wrap ((i64.wrap (a+1))*10800000)) (2^5))-5400000)) (i64.wrap ((zE (i64.wrap (b*10800000)) (2^5))-10800000)) (i64.wrap ((zE (i64.wrap ((i64.wrap (b+1))*10800000)) (2^5))-10800000)))) (K 0 0 0 0)) (K 0 0 0 0)) (K 0 0 0 0)
def GI(a b:Int):Int×Int×Int×Int:=C9 (fun p0 p1 p2 p3=>(p0,p1,p2,p3)) a b
theorem MP[Gl](a b:Int):aF zB 128 [jA ⟨[jI jJ 5,jI jJ a,jI jJ b]⟩] (fR (GI a b)):=by
 refine aD aP cJ (t:=C9 (fun c d e f=>some (.v (fR ((c,d,e,f))))) a b) (by kernel_rfl) ?_;unfold GI C9;repeat' first|(with_reducible refine aL (fun r:Int×Int×Int×Int=>AV.v (fR (r))) ?_ ?_)|(with_reducible refine aY (fun r:Int×Int×Int×Int=>AV.v (fR (r))) fun _=>?_)|rfl
def aEB(a:Int):Int×Int×Int:=(5,(sM (sM (sM (sM (sM 0 (i64.wrap ((zE (bH (zE a (2^0)) 3) (2^1))*2^0))) (i64.wrap ((zE (bH (zE a (2^2)) 3) (2^1))*2^1))) (i64.wrap ((zE (bH (zE a (2^4)) 3) (2^1))*2^2))) (i64.wrap ((zE (bH (zE a (2^6)) 3) (2^1))*2^3))) (i64.wrap ((zE (bH (zE a (2^8)) 3) (2^1))*2^4))),(sM (sM (sM (sM (sM (sM 0 (i64.wrap ((bH (bH (zE a (2^0)) 3) 1)*2^0))) (i64.wrap ((bH (bH (zE a (2^2)) 3) 1)*2^1))) (i64.wrap ((bH (bH (zE a (2^4)) 3) 1)*2^2))) (i64.wrap ((bH (bH (zE a (2^6)) 3) 1)*2^3))) (i64.wrap ((bH (bH (zE a (2^8)) 3) 1)*2^4))) (i64.wrap ((zE a (2^10))*2^5))))
theorem Do[Gl](a:Int):aF zB 245 [jI jJ a,jI jJ 5] (aEs (aEB a)):=aD aP cJ (by kernel_rfl) rfl
def aGd(a b:Int):Int×Int:=(i64.wrap ((i64.wrap ((i64.wrap ((i64.wrap (4*(i64.wrap ((i64.wrap ((i64.wrap (4*(i64.wrap ((i64.wrap ((i64.wrap (4*(i64.wrap ((i64.wrap ((i64.wrap (4*(i64.wrap ((i64.wrap ((i64.wrap (4*(zE b (2^5))))+(i64.wrap (2*(bH (zE a (2^4)) 1)))))+(bH (zE b (2^4)) 1)))))+(i64.wrap (2*(bH (zE a (2^3)) 1)))))+(bH (zE b (2^3)) 1)))))+(i64.wrap (2*(bH (zE a (2^2)) 1)))))+(bH (zE b (2^2)) 1)))))+(i64.wrap (2*(bH (zE a (2^1)) 1)))))+(bH (zE b (2^1)) 1)))))+(i64.wrap (2*(bH (zE a (2^0)) 1)))))+(bH (zE b (2^0)) 1)))*4194304),i64.wrap ((i64.wrap ((i64.wrap ((i64.wrap ((i64.wrap (4*(i64.wrap ((i64.wrap ((i64.wrap (4*(i64.wrap ((i64.wrap ((i64.wrap (4*(i64.wrap ((i64.wrap ((i64.wrap (4*(i64.wrap ((i64.wrap ((i64.wrap (4*(zE b (2^5))))+(i64.wrap (2*(bH (zE a (2^4)) 1)))))+(bH (zE b (2^4)) 1)))))+(i64.wrap (2*(bH (zE a (2^3)) 1)))))+(bH (zE b (2^3)) 1)))))+(i64.wrap (2*(bH (zE a (2^2)) 1)))))+(bH (zE b (2^2)) 1)))))+(i64.wrap (2*(bH (zE a (2^1)) 1)))))+(bH (zE b (2^1)) 1)))))+(i64.wrap (2*(bH (zE a (2^0)) 1)))))+(bH (zE b (2^0)) 1)))+1))*4194304))
theorem Hi[Gl](a b:Int):aF zB 246 [jA ⟨[jI jJ 5,jI jJ a,jI jJ b]⟩] (sE (aGd a b)):=aD aP cJ (by kernel_rfl) rfl
end
end
end Go.Proofs.YtlbklncoihhfcaaGreatDoor
