/-
  A machine for code that works on variables of its own, shown true: it runs a function's code in the text's order on values and on local blocks that have names of their own; what it answers, the call gives, in whatever order drawn regions come up.
-/
import Derived.Orders
import Derived.LoopN
import Derived.Laws.Tables
import Derived.Deep.MidRow
import Derived.Laws.StructEq
import Derived.Laws.CopyRow
import Derived.Below
import Derived.Great.BuildSlice
set_option maxRecDepth 100000
set_option maxHeartbeats 4000000
open _root_.Array renaming replicate→qS,toList_inj→acZ
open _root_.List renaming all_eq_true→yH,any_eq_true→yN,cons_append→xC,length_map→qC,map_cons→xY,mem_cons→zI,mem_cons_of_mem→zF,mem_cons_self→zH,mem_map→adQ,mem_range→xW,range→qL,replicate→afQ
open _root_.Nat renaming add_zero→xZ,beq→yD,ble→adJ,eq_of_beq_eq_true→zQ,le_of_ble_eq_true→yG,le_refl→zC,le_trans→zJ,zero_add→qP,zero_le→zO
open _root_.Option renaming bind_eq_some_iff→zK,bind_some→yL,map_eq_some_iff→zG,some→zL
namespace Go.Proofs.YtlbklncoihhfcaaGreatDoor
namespace Ev
abbrev Nm:=List Nat
def sI:Nm->Nm->Bool
 | [],[]=>true
 |a::l,b::m=>cond (yD a b) (sI l m) false
 |_,_=>false
inductive CV where
 |v (x:Value)
 |p (n:Nm) (off:Nat)
inductive AV where
 |v (x:Value)
 |p (n:Nm) (off:Nat)
 |c (f:FuncId) (bound cap:List CV)
 |s (n:Nm) (off len cap:Nat)
structure Blk where
 cells:List CV
 ty:TypeId
abbrev cD:=List (Nm×Blk)
def fP:cD->Nm->Option Blk
 | [],_=>none
 |(m,b)::l,n=>cond (sI m n) (some b) (fP l n)
def eX(l:cD):List Nm:=l.map (·.1)
def PP(l:List Nm)(n:Nm):Bool:=l.any (sI n)
def CV.toA:CV->AV
 | .v x=>.v x
 | .p n o=>.p n o
def dR(τ:List AV)(t:Nat):AV:=
 match τ[t]? with
 |some x=>x
 |none=>.v undef
def iL(τ:List AV):Operand->AV
 | .tmp t=>dR τ t
 | .const x=>.v x
 | .global g=>.v (.pointer (some ⟨g,0,none⟩))
 | .func f=>.v (.func (.func f) #[] #[])
def P0(τ:List AV)(x:Operand):Value:=
 match iL τ x with
 | .v y=>y
 |_=>undef
def isV:AV->Bool
 | .v _=>true
 |_=>false
def EO(τ:List AV):Option Tmp->AV->List AV
 |some d,x=>τ.set d x
 |none,_=>τ
def Rw{α:Type}(P:Program):Sem α->Option α
 | .pure a=>some a
 | .program k=>Rw P (k P)
 | .mark _ k=>Rw P k
 |_=>none
def Cj:List CV->Option (List Value)
 | []=>some []
 | .v x::l=>match Cj l with
  |some r=>some (x::r)
  |none=>none
 | .p _ _::_=>none
def nG(τ:List AV)(xs:List Operand):Bool:=xs.all fun x=>isV (iL τ x)
def GA(P:Program)(τ:List AV)(o:Oper):Option AV:=
 cond (nG τ o.op.operands.toList) (match Rw P (execOp (P0 τ) o)with
  |some (.value v)=>some (.v v)
  |_=>none) none
def aCd(cs:List CV)(off n:Nat):List CV:=(cs.drop off).take n
class Gl where
 gs:List (Nat×List Value)
@[reducible] def gl0:Gl:=⟨[(0,[.int .i64 5400000,.int .i64 5400000])]⟩
@[reducible] def gle:Gl:=⟨[]⟩
def GS[Gl]:List (Nat×List Value):=Gl.gs
def iX[Gl](w:World):Prop:=∀e∈GS,∃ty fz,w.heap[e.1]? =some (.cells ⟨e.2⟩ ty fz)
theorem iX.lt[Gl]{w:World}(h:iX w){e:Nat×List Value}(b:e∈GS):e.1<w.heap.size:=by
 obtain⟨d,c,a⟩:=h e b;exact(Array.getElem?_eq_some_iff.1 a).1
theorem iX.of[Gl]{w w':World}(h:iX w)(k:∀g,g<w.heap.size->(∃e∈GS,e.1=g)->w'.heap[g]? =w.heap[g]?):iX w':=fun e a=>by
 obtain⟨d,b,c⟩:=h e a;exact⟨d,b,(k e.1 (h.lt a) ⟨e,a,rfl⟩).trans c⟩
def XQ:List (Nat×List Value)->Nat->Option (List Value)
 | [],_=>none
 |e::l,g=>cond (yD e.1 g) (some e.2) (XQ l g)
theorem PN:∀{l:List (Nat×List Value)} {g:Nat} {vs:List Value},XQ l g=some vs->(g,vs)∈l
 | [],g,vs,h=>by simp[XQ]at h
 |e::l,g,vs,h=>by
  unfold XQ at h;cases a:yD e.1 g with
  |true=>
   rw[a]at h;simp only[cond_true,zL.injEq]at h;have b:e.1=g:=zQ a;rw[<-b,<-h];exact zH
  |false=>
   rw[a]at h;exact zF _ (PN h)
def PV (P:Program)(b:Blk)(t:TypeId)(off:Nat):Option AV:=
  match P.underlying t,P.info? t with
  |some d,some i=>cond d.isRow
      (match Cj (aCd b.cells off i.size)with
       |some vs=>cond (yD vs.length i.size) (some (.v (.agg ⟨vs⟩))) none
       |none=>none)
      (match b.cells[off]? with
       |some c=>some c.toA
       |none=>none)
  |_,_=>none
def Jy[Gl](P:Program)(t:TypeId)(g:Nat):Option AV:=
 match XQ GS g with
 |some vs=>PV P ⟨vs.map CV.v,0⟩ t 0
 |none=>none
def wA:AV->Option (List CV)
 | .v x=>some (x.cells.toList.map CV.v)
 | .p n o=>some [.p n o]
 | .c _ _ _=>none
 | .s _ _ _ _=>none
def one:CV->Bool
 | .v x=>x.oneCell'
 | .p _ _=>true
def Hk(P:Program)(b:Blk)(t:TypeId)(off:Nat)(x:AV):Option Blk:=
 match wA x,P.info? t with
 |some cs,some i=>
  cond (yD cs.length i.size&&adJ (off+i.size) b.cells.length&&cs.all one) (some ⟨b.cells.take off++cs++b.cells.drop (off+cs.length),b.ty⟩) none
 |_,_=>none
def Er(P:Program)(s:TypeId)(f:Nat):Option Nat:=
 match P.underlying s with
 |some (.struct fs)=>match fs[f]? with
  |some fd=>match P.info? fd.type with
   |some i=>cond (yD i.size 0) none (some fd.offset)
   |none=>none
  |none=>none
 |_=>none
def Fb(P:Program)(t:TypeId)(ix:Int):Option Nat:=
 match P.underlying t with
 |some (.array len e)=>match P.info? e with
  |some i=>match ix with
   | .ofNat k=>cond (adJ (k+1) len) (some (k*i.size)) none
   | .negSucc _=>none
  |none=>none
 |_=>none
def Fc(P:Program)(t:TypeId)(len:Nat)(ix:Int):Option Nat:=
 match P.underlying t with
 |some (.slice e)=>match P.info? e with
  |some i=>match ix with
   | .ofNat k=>cond (adJ (k+1) len) (some (k*i.size)) none
   | .negSucc _=>none
  |none=>none
 |_=>none
def NJ(P:Program)(t:TypeId)(n:Nat)(ps:List (Nat×Value)):Option (TypeId×Array Value):=
  match P.underlying t with
  | some (.slice e)=>match P.info? e with
    | some i=>match i.zero with
      |some z=>cond (yD (n*i.size) 0||adJ 16777216 (n*i.size)) none
          (match Instr.fill (fun j=>some (j*i.size,i.size)) ((Array.range (n*i.size)).map (z.cells[· %z.cells.size]!)) ps with
           |some cells=>some (e,cells)
           |none=>none)
      |none=>none
    |none=>none
  |_=>none
def bound(τ:List AV)(d:Nat):Option Operand->Option Nat
 |none=>some d
 |some x=>match iL τ x with
  | .v (.int _ (.ofNat k))=>some k
  |_=>none
def Gy(P:Program)(τ:List AV)(t:TypeId)(x:AV)(lo hi:Option Operand):Option AV:=
 match x,P.underlying t with
 | .p n off,some (.array m e)=>match P.info? e,bound τ 0 lo,bound τ m hi with
  |some i,some l,some h=>cond (adJ l h&&adJ h m) (some (.s n (cond (yD m l) off (off+l*i.size)) (h-l) (m-l))) none
  |_,_,_=>none
 | .s n off len m,some (.slice e)=>match P.info? e,bound τ 0 lo,bound τ len hi with
  |some i,some l,some h=>cond (adJ l h&&adJ h m) (some (.s n (cond (yD m l) off (off+l*i.size)) (h-l) (m-l))) none
  |_,_,_=>none
 |_,_=>none
def aDn(P:Program)(τ:List AV)(c:Call):Option AV:=
 match c.callee,c.args.toList,c.argTypes.toList with
 | .builtin .len,[x],[t]=>match iL τ x,P.underlying t with
  | .s _ _ n _,some (.slice _)=>some (.v (.int .i64 (n:Int)))
  |_,_=>none
 |_,_,_=>none
def wR:List Value->List Value->Option Bool
 | [],[]=>some true
 | .int .i64 a::l,.int .i64 b::m=>match wR l m with
  |some r=>some ((a==b)&&r)
  |none=>none
 |_,_=>none
def GL:List AV->Option (List CV)
 | []=>some []
 | .v x::l=>match GL l with
  |some r=>some (.v x::r)
  |none=>none
 | .p n o::l=>match GL l with
  |some r=>some (.p n o::r)
  |none=>none
 | .c _ _ _::_=>none
 | .s _ _ _ _::_=>none
def Vt:BinOp->Option Bool
 | .quo=>some true
 | .rem=>some false
 |_=>none
def OH:List CV->List Nm
 | []=>[]
 | .v _::l=>OH l
 | .p n _::l=>n::OH l
def EK:List AV->List Nm
 | []=>[]
 | .v _::l=>EK l
 | .p n _::l=>n::EK l
 | .c _ b c::l=>OH b++OH c++EK l
 | .s n _ _ _::l=>n::EK l
def UO(r:List Nm):List Nm->List Nm
 | []=>r
 |n::l=>cond (PP r n) (UO r l) (UO (n::r) l)
def reach(L:cD):Nat->List Nm->List Nm
 | 0,r=>r
 |d+1,r=>reach L d (UO r (r.flatMap fun n=>match fP L n with|some b=>OH b.cells|none=>[]))
def part(L:cD)(r:List Nm):cD:=r.filterMap fun n=>match fP L n with|some b=>some (n,b)|none=>none
def closed(ks:List Nm):cD->Bool
 | []=>true
 |(_,b)::l=>(OH b.cells).all (PP ks)&&closed ks l
def fresh(L:cD)(n:Nm):Bool:=
 match fP L n with
 |none=>true
 |some _=>false
def Yx(ks:List Nm)(L L':cD):Bool:=(eX L').all fun n=>PP ks n||fresh L n
inductive Ex where
 |norm
 |ex (id:Nat)
 |ret
def Ex.cv:Ex->Exit
 | .norm=>.normal
 | .ex i=>.exit i
 | .ret=>.ret
structure St where
 τ:List AV
 L:cD
 c:Nat
 pre:Nm
structure Foot where
 rd:List Nm
 wr:List Nm
section
variable {α : Type} (P : Program) (E : List (TypeId × Nat)) (C : List FuncId) (call : FuncId -> List AV -> cD -> Nm -> (AV -> cD -> Option α) -> Option α)
def aDi:BinOp->Option Bool
 | .eql=>some true
 | .neq=>some false
 |_=>none
def aD8(t:TypeId)(n:Nat):Bool:=E.any fun e=>yD e.1 t&&yD e.2 n
def aCC(τ:List AV)(o:Oper)(op:BinOp)(t:TypeId)(x y:Operand):Option AV:=
 match aDi op,iL τ x,iL τ y with
 |some b,.v (.agg xs),.v (.agg ys)=>
  cond (aD8 E t xs.toList.length&&yD xs.toList.length ys.toList.length) (match wR xs.toList ys.toList with
   |some r=>some (.v (.bool (cond b r (!r))))
   |none=>none) none
 |_,_,_=>GA P τ o
def callee(τ:List AV):Callee->Option (FuncId×List AV×List AV)
 | .value f=>match iL τ f with
  | .v (.func (.func g) b c)=>some (g,b.toList.map AV.v,c.toList.map AV.v)
  | .c g b c=>some (g,b.map CV.toA,c.map CV.toA)
  |_=>none
 |_=>none
def Ec(args:List AV)(g:FuncId)(L:cD)(nm:Nm)(k:AV->cD->List Nm->Option α):Option α:=
 let r:=reach L 4 (UO [] (EK args))
 let LR:=part L r
 cond (C.any (yD g)&&(EK args).all (PP (eX LR))&&closed (eX LR) LR)
  (call g args LR nm fun v L'=>cond (Yx (eX LR) L L') (k v L' (eX LR)) none) none
def y7[Gl](o:Oper)(τ:List AV)(L:cD)(nm:Nm)(k:AV->cD->List Nm->Option α):Option α:=
 let vl (x:Option AV):Option α:=match x with
  |some v=>k v [] []
  |none=>none
 match o.op with
 | .move x=>k (iL τ x) [] []
 | .assign x=>k (iL τ x) [] []
 | .pick c a b=>match iL τ c with
  | .v (.bool t)=>cond t (k (iL τ a) [] []) (k (iL τ b) [] [])
  |_=>none
 | .box t x=>match wA (iL τ x)with
  |some cs=>match fP L nm with
   |none=>k (.p nm 0) [(nm,⟨cs,t⟩)] []
   |some _=>none
  |none=>none
 | .alloc t=>match P.info? t with
  |some i=>match i.zero with
   |some z=>match fP L nm with
    |none=>k (.p nm 0) [(nm,⟨z.cells.toList.map CV.v,t⟩)] []
    |some _=>none
   |none=>none
  |none=>none
 | .build t ps=>cond (nG τ (ps.toList.map (·.2))) (match P.built t (ps.toList.map fun q=>(q.1,P0 τ q.2))with
  |some cells=>k (.v (.agg cells)) [] []
  |none=>none) none
 | .load t x=>match iL τ x with
  | .p n off=>match fP L n with
   |some b=>match PV P b t off with
    |some v=>k v [] [n]
    |none=>none
   |none=>none
  | .v (.pointer (some ⟨g,0,none⟩))=>vl (Jy P t g)
  |_=>none
 | .store t x y=>match iL τ x with
  | .p n off=>match fP L n with
   |some b=>match Hk P b t off (iL τ y)with
    |some b'=>k (.v undef) [(n,b')] []
    |none=>none
   |none=>none
  |_=>none
 | .fieldAddr s x f=>match iL τ x with
  | .p n off=>match Er P s f with
   |some d=>k (.p n (off+d)) [] []
   |none=>none
  |_=>none
 | .indexAddr t x y=>match iL τ x,iL τ y with
  | .p n off,.v (.int _ ix)=>match Fb P t ix with
   |some d=>k (.p n (off+d)) [] []
   |none=>none
  | .s n off len _,.v (.int _ ix)=>match Fc P t len ix with
   |some d=>k (.p n (off+d)) [] []
   |none=>none
  |_,_=>none
 | .buildSlice t n ps=>cond (nG τ (ps.toList.map (·.2))) (match NJ P t n (ps.toList.map fun q=>(q.1,P0 τ q.2))with
  |some (e,cells)=>match fP L nm with
   |none=>k (.s nm 0 n n) [(nm,⟨cells.toList.map CV.v,e⟩)] []
   |some _=>none
  |none=>none) none
 | .slice t x lo hi mx=>match mx with
  |some _=>none
  |none=>vl (Gy P τ t (iL τ x) lo hi)
 | .nilCheck x=>match iL τ x with
  | .p n off=>k (.p n off) [] []
  | .c f b c=>k (.c f b c) [] []
  |_=>vl (GA P τ o)
 | .binOp op t x y _=>match Vt op,iL τ x,iL τ y with
  |some q,.v (.int .i64 a),.v (.int .i64 b)=>cond (b==0) none (k (.v (.int .i64 (cond q (IntKind.i64.wrap (a.tdiv b)) (a.tmod b)))) [] [])
  |_,_,_=>vl (aCC P E τ o op t x y)
 | .makeFunc f bs cs=>match f,GL (bs.toList.map (iL τ)),GL (cs.toList.map (iL τ))with
  | .func g,some b,some c=>k (.c g b c) [] []
  |_,_,_=>none
 | .unOp _ _ _=>vl (GA P τ o)
 | .convert _ _ _=>vl (GA P τ o)
 | .field _ _ _=>vl (GA P τ o)
 | .index _ _ _=>vl (GA P τ o)
 | .extract _ _=>vl (GA P τ o)
 | .call c=>match c.callee with
  | .builtin _=>match aDn P τ c with
   |some v=>k v [] []
   |none=>vl (GA P τ o)
  |_=>match callee τ c.callee with
   |some (g,b,cp)=>Ec C call (b++c.args.toList.map (iL τ)++cp) g L nm fun v U rd=>k v U rd
   |none=>none
 |_=>none
def KG(ops:List Oper)(j:Nat):Option Tmp:=
 match ops[j]? with
 |some o=>o.dst
 |none=>none
def FI[Gl](all:List Oper)(fin:List Foot->Bool)(base:Nm):List Oper->Nat->List AV->cD->List Foot->(List AV->cD->Option α)->Option α
 | [],_,τ,L,fs,k=>cond (fin fs) (k τ L) none
 |o::rest,i,τ,L,fs,k=>
  let go (τ:List AV):Option α:=y7 P E C call o τ L (i::base) fun v U rd=>FI all fin base rest (i+1) (EO τ o.dst v) (U++L) (fs++[⟨rd,eX U⟩]) k
  let no (τ:List AV):Option α:=FI all fin base rest (i+1) (EO τ o.dst (.v undef)) L (fs++[⟨[],[]⟩]) k
  match o.guard with
  |none=>go τ
  |some (j,want)=>match KG all j with
   |none=>no τ
   |some d=>match τ[d]? with
    |some (.v (.bool b))=>cond b
      (let τ':=τ.set d (.v (.bool true));cond want (go τ') (no τ'))
      (let τ':=τ.set d (.v (.bool false));cond want (no τ') (go τ'))
    |_=>no τ
def nO(ops:List Oper):Nat->Nat->Nat->Bool
 | 0,_,_=>false
 |n+1,i,j=>match ops[j]? with
  |some o=>o.after.toList.any fun e=>Region.binds .any e&&(yD e.on i||(adJ (i+1) e.on&&nO ops n i e.on))
  |none=>false
def LZ(a b:List Nm):Bool:=a.all fun n=> !PP b n
def pA(x y:Foot):Bool:=LZ x.wr y.rd&&LZ x.wr y.wr&&LZ y.wr x.rd
def looks(ops:List Oper)(o:Oper):List Tmp:=
  (o.op.operands.toList.filterMap fun| .tmp t=>some t|_=>none)++
  (match o.guard with
   |some (g,_)=>(KG ops g).toList
   |none=>[])
def aDg(l:List Nat)(n:Nat):Bool:=l.any (yD n)
def PE(d:Option Tmp)(l:List Tmp):Bool:=
 match d with
 |some d=>aDg l d
 |none=>false
def UB:Option Tmp->Option Tmp->Bool
 |some a,some b=>yD a b
 |_,_=>false
def wZ(ops:List Oper)(i j:Nat)(x y:Oper)(fx fy:Foot):Bool:=
 cond (UB x.dst y.dst) false
  (cond (!PE x.dst (looks ops y)&& !PE y.dst (looks ops x)&&pA fx fy) true (nO ops 24 i j))
def Mw(ops:List Oper)(i:Nat)(x:Oper)(fx:Foot):Nat->List Oper->List Foot->Bool
 |j,y::l,f::fl=>wZ ops i j x y fx f&&Mw ops i x fx (j+1) l fl
 |_,_,_=>true
def UQ(ops:List Oper):Nat->List Oper->List Foot->Bool
 |i,x::l,f::fl=>x.after.toList.all (fun e=> !Region.binds .any e||Nat.blt e.on i)&&Mw ops i x f (i+1) l fl&&UQ ops (i+1) l fl
 |_,_,_=>true
def fix(τ:List AV)(x:Operand)(b:Bool):List AV:=
 match x with
 | .tmp t=>τ.set t (.v (.bool b))
 |_=>τ
def Xn(F:(Ex->St->Option α)->St->Option α):Nat->(Ex->St->Option α)->St->Option α
 | 0,_,_=>none
 |n+1,k,σ=>F (fun e σ'=>match e with| .norm=>Xn F n k σ'|e=>k e σ') σ
def UI[Gl](lim:Nat):Code->(Ex->St->Option α)->St->Option α
 | .skip,k,σ=>k .norm σ
 | .seq a b,k,σ=>UI lim a (fun e σ'=>match e with| .norm=>UI lim b k σ'|e=>k e σ') σ
 | .region _ ops draw,k,σ=>FI P E C call ops.toList (fun fs=>cond draw (UQ ops.toList 0 ops.toList fs) true) (σ.c::σ.pre) ops.toList 0 σ.τ σ.L [] fun τ L=>k .norm ⟨τ,L,σ.c+1,σ.pre⟩
 | .cond x a b,k,σ=>match iL σ.τ x with
  | .v (.bool t)=>cond t (UI lim a k ⟨fix σ.τ x true,σ.L,σ.c,σ.pre⟩) (UI lim b k ⟨fix σ.τ x false,σ.L,σ.c,σ.pre⟩)
  |_=>none
 | .block i b,k,σ=>UI lim b (fun e σ'=>match e with| .ex j=>cond (yD j i) (k .norm σ') (k (.ex j) σ')|e=>k e σ') σ
 | .loop b,k,σ=>Xn (UI lim b) lim k σ
 | .exit i,k,σ=>k (.ex i) σ
 | .ret,k,σ=>k .ret σ
 |_,_,_=>none
def MQ(σ:St):ResultVar->Option AV
 | .tmp t=>some (dR σ.τ t)
 | .cell a t=>match dR σ.τ a with
  | .p n off=>match fP σ.L n with
   |some b=>PV P b t off
   |none=>none
  |_=>none
def mM(σ:St):List ResultVar->Option (List Value)
 | []=>some []
 |r::l=>match MQ P σ r with
  |some (.v x)=>match mM σ l with
   |some m=>some (x::m)
   |none=>none
  |_=>none
def Qw(σ:St):List ResultVar->Option AV
 | [r]=>MQ P σ r
 |l=>match mM P σ l with
  |some vs=>some (.v (.tuple ⟨vs⟩))
  |none=>none
end
def look{β:Type}:List (FuncId×β)->FuncId->Option β
 | [],_=>none
 |(g,h)::l,f=>cond (yD g f) (some h) (look l f)
abbrev AL:=List AV->cD->Option (Bool×AV×cD)
abbrev bW:=List (FuncId×AL)
def t8 [Gl]{α:Type}(P:Program)(E:List (TypeId×Nat))(C:List FuncId)(O:bW)(lim:Nat):Nat->FuncId->List AV->cD->Nm->(AV->cD->Option α)->Option α
 | 0,_,_,_,_,_=>none
 |d+1,g,args,L,pre,k=>match look O g with
  |some h=>match h args L with
   |some (b,r,L')=>cond b (k r L') none
   |none=>none
  |none=>match P.funcs[g]? with
   |some fn=>match fn.body with
    |some c=>UI P E C (t8 P E C O lim d) lim c (fun e σ=>match e with
      | .ex _=>none
      |_=>match Qw P σ fn.results.toList with
       |some r=>k r σ.L
       |none=>none) ⟨args++afQ (fn.ntmps-args.length) (.v undef),L,0,pre⟩
    |none=>none
   |none=>none
end Ev
namespace Ev
open Go.RowKit
abbrev gP:=Nm->Option Nat
def Sv(ρ:gP):CV->Option Value
 | .v x=>some x
 | .p n o=>(ρ n).map fun b=>.pointer (some ⟨b,o,none⟩)
def dJ(ρ:gP):List CV->Option (List Value)
 | []=>some []
 |x::l=>(Sv ρ x).bind fun v=>(dJ ρ l).map (v::·)
def gD(ρ:gP):AV->Option Value
 | .v x=>some x
 | .p n o=>(ρ n).map fun b=>.pointer (some ⟨b,o,none⟩)
 | .c f b c=>(dJ ρ b).bind fun vb=>(dJ ρ c).map fun vc=>.func (.func f) ⟨vb⟩ ⟨vc⟩
 | .s n o l c=>(ρ n).map fun b=>.slice (some ⟨b,o,none⟩) l c
def dN(ρ:gP):List AV->Option (List Value)
 | []=>some []
 |x::l=>(gD ρ x).bind fun v=>(dN ρ l).map (v::·)
theorem lT:∀{a b:Nm},sI a b=true↔a=b
 | [],[]=>by simp[sI]
 | [],_::_=>by simp[sI]
 |_::_,[]=>by simp[sI]
 |a::l,b::m=>by
  have c:=lT (a:=l) (b:=m);simp only[sI,List.cons.injEq];cases h:yD a b
  ·simp only[cond_false,Bool.false_eq_true,false_iff,not_and];intro e;subst e;simp at h
  ·simp only[cond_true,c];have:a=b:=zQ h;simp[this]
theorem Qn(a:Nm):sI a a=true:=lT.2 rfl
theorem Fx{a b:Nm}:sI a b=false↔a≠b:=by
 rw[<-Bool.not_eq_true,lT]
theorem dU(m:Nm)(b:Blk)(l:cD)(n:Nm):fP ((m,b)::l) n=if m=n then some b else fP l n:=by
 show cond (sI m n) (some b) (fP l n)=_;cases h:sI m n
 ·rw[if_neg (Fx.1 h)];rfl
 ·rw[if_pos (lT.1 h)];rfl
theorem wV(a b:cD)(n:Nm):fP (a++b) n=(fP a n).or (fP b n):=by
 induction a with
 |nil=>simp[fP]
 |cons x l c=>
  obtain⟨m,y⟩:=x;rw[xC,dU,dU];split
  ·simp
  ·exact c
theorem mJ{l:List Nm}{n:Nm}:PP l n=true↔n∈l:=by
 unfold PP;rw[yN];constructor
 ·rintro⟨x,a,h⟩;rw[lT]at h;exact h ▸ a
 ·intro h;exact⟨n,h,Qn n⟩
theorem mI{l:cD}{n:Nm}:fP l n=none↔n∉eX l:=by
 induction l with
 |nil=>simp[fP,eX]
 |cons x l a=>
  obtain⟨m,b⟩:=x;rw[dU];simp only[eX,xY,zI,not_or]at a ⊢;split
  ·rename_i h;subst h;simp
  ·rename_i h;rw[a];exact⟨fun q=>⟨fun e=>h e.symm,q⟩,fun q=>q.2⟩
def OS(ρ ρ':gP):Prop:=∀n b,ρ n=some b->ρ' n=some b
theorem OS.refl(ρ:gP):OS ρ ρ:=fun _ _ h=>h
theorem OS.trans{a b c:gP}(h:OS a b)(k:OS b c):OS a c:=fun n x q=>k n x (h n x q)
theorem Jc{ρ a:gP}(h:OS ρ a){x:CV}{v:Value}(q:Sv ρ x=some v):Sv a x=some v:=by
 cases x with
 |v y=>exact q
 |p n o=>
  simp only[Sv,zG]at q ⊢;obtain⟨b,c,d⟩:=q;exact⟨b,h n b c,d⟩
theorem lI{ρ a:gP}(h:OS ρ a):∀{l:List CV} {v:List Value},dJ ρ l=some v->dJ a l=some v
 | [],_,q=>q
 |x::l,v,q=>by
  simp only[dJ,zK,zG]at q ⊢;obtain⟨y,b,z,c,d⟩:=q;exact⟨y,Jc h b,z,lI h c,d⟩
theorem Ir{ρ e:gP}(h:OS ρ e){x:AV}{v:Value}(q:gD ρ x=some v):gD e x=some v:=by
 cases x with
 |v y=>exact q
 |p n o=>exact Jc (x:=.p n o) h q
 |c f b c=>
  simp only[gD,zK,zG]at q ⊢;obtain⟨y,a,z,d,g⟩:=q;exact⟨y,lI h a,z,lI h d,g⟩
 |s n o l c=>
  simp only[gD,zG]at q ⊢;obtain⟨b,a,d⟩:=q;exact⟨b,h n b a,d⟩
theorem VA{ρ a:gP}(h:OS ρ a):∀{l:List AV} {v:List Value},dN ρ l=some v->dN a l=some v
 | [],_,q=>q
 |x::l,v,q=>by
  simp only[dN,zK,zG]at q ⊢;obtain⟨y,b,z,c,d⟩:=q;exact⟨y,Ir h b,z,VA h c,d⟩
theorem nV{ρ:gP}:∀{l:List CV} {v:List Value},dJ ρ l=some v->v.length=l.length
 | [],_,q=>by simp[dJ]at q;subst q;rfl
 |x::l,v,q=>by
  simp only[dJ,zK,zG]at q;obtain⟨y,c,z,a,b⟩:=q;subst b;simp[nV a]
theorem WM{ρ:gP}:∀{l:List CV} {v:List Value} (_:dJ ρ l=some v) (i:Nat),(l[i]?).bind (Sv ρ)=v[i]?
 | [],_,q,i=>by simp[dJ]at q;subst q;simp
 |x::l,v,q,i=>by
  simp only[dJ,zK,zG]at q;obtain⟨y,a,z,b,c⟩:=q;subst c;cases i with
  |zero=>simp[a]
  |succ i=>simpa using WM b i
theorem tF{ρ:gP}:∀{l m:List CV} {v u:List Value},dJ ρ l=some v->dJ ρ m=some u->dJ ρ (l++m)=some (v++u)
 | [],_,_,_,q,h=>by simp[dJ]at q;subst q;simpa using h
 |x::l,m,v,u,q,h=>by
  simp only[xC,dJ,zK,zG]at q ⊢;obtain⟨y,a,z,b,c⟩:=q;subst c;exact⟨y,a,z++u,tF b h,rfl⟩
theorem DV{ρ:gP}:∀{l:List CV} {v:List Value} (n:Nat),dJ ρ l=some v->dJ ρ (l.take n)=some (v.take n)
 | [],_,n,q=>by simp[dJ]at q;subst q;simp[dJ]
 |x::l,v,0,_=>by simp[dJ]
 |x::l,v,n+1,q=>by
  simp only[dJ,zK,zG,List.take_succ_cons]at q ⊢;obtain⟨y,a,z,b,c⟩:=q;subst c;exact⟨y,a,z.take n,DV n b,by simp⟩
theorem DU{ρ:gP}:∀{l:List CV} {v:List Value} (n:Nat),dJ ρ l=some v->dJ ρ (l.drop n)=some (v.drop n)
 | [],_,n,q=>by simp[dJ]at q;subst q;simp[dJ]
 |x::l,v,0,q=>by simpa using q
 |x::l,v,n+1,q=>by
  simp only[dJ,zK,zG]at q;obtain⟨y,c,z,a,b⟩:=q;subst b;simpa using DU n a
theorem VB{ρ:gP}:∀{l:List AV} {v:List Value} (_:dN ρ l=some v) (i:Nat),(l[i]?).bind (gD ρ)=v[i]?
 | [],_,q,i=>by simp[dN]at q;subst q;simp
 |x::l,v,q,i=>by
  simp only[dN,zK,zG]at q;obtain⟨y,a,z,b,c⟩:=q;subst c;cases i with
  |zero=>simp[a]
  |succ i=>simpa using VB b i
theorem sX{ρ:gP}:∀{l:List AV} {v:List Value},dN ρ l=some v->v.length=l.length
 | [],_,q=>by simp[dN]at q;subst q;rfl
 |x::l,v,q=>by
  simp only[dN,zK,zG]at q;obtain⟨y,c,z,a,b⟩:=q;subst b;simp[sX a]
theorem fC{ρ:gP}:∀{l m:List AV} {v u:List Value},dN ρ l=some v->dN ρ m=some u->dN ρ (l++m)=some (v++u)
 | [],_,_,_,q,h=>by simp[dN]at q;subst q;simpa using h
 |x::l,m,v,u,q,h=>by
  simp only[xC,dN,zK,zG]at q ⊢;obtain⟨y,a,z,b,c⟩:=q;subst c;exact⟨y,a,z++u,fC b h,rfl⟩
theorem VC{ρ:gP}:∀{l:List AV} {v:List Value} (n:Nat) {x:AV} {u:Value},dN ρ l=some v->gD ρ x=some u->dN ρ (l.set n x)=some (v.set n u)
 | [],_,n,_,_,q,_=>by simp[dN]at q;subst q;simp[dN]
 |x::l,v,0,y,u,q,h=>by
  simp only[dN,zK,zG]at q;obtain⟨d,c,z,a,b⟩:=q;subst b;simp[dN,h,a]
 |x::l,v,n+1,y,u,q,h=>by
  simp only[dN,zK,zG]at q;obtain⟨d,c,z,a,b⟩:=q;subst b;simp[dN,c,VC n a h]
theorem gI{ρ:gP}:∀(l:List Value),dN ρ (l.map AV.v)=some l
 | []=>rfl
 |x::l=>by simp[dN,gD,gI l]
theorem mS{ρ:gP}:∀(l:List Value),dJ ρ (l.map CV.v)=some l
 | []=>rfl
 |x::l=>by simp[dJ,Sv,mS l]
theorem J6{ρ:gP}(x:CV):gD ρ x.toA=Sv ρ x:=by cases x<;>rfl
theorem sY{ρ:gP}:∀(l:List CV),dN ρ (l.map CV.toA)=dJ ρ l
 | []=>rfl
 |x::l=>by simp[dN,dJ,J6,sY l]
theorem JJ{ρ:gP}(n:Nat)(x:Value):dN ρ (afQ n (.v x))=some (afQ n x):=by
 induction n with
 |zero=>rfl
 |succ n a=>simp[List.replicate_succ,dN,gD,a]
theorem RM{ρ:gP}:∀{l:List CV} {vs:List Value},Cj l=some vs->dJ ρ l=some vs
 | [],_,q=>by simp[Cj]at q;subst q;rfl
 | .v x::l,vs,q=>by
  simp only[Cj]at q;split at q
  ·rename_i r a;simp only[zL.injEq]at q;subst q;simp[dJ,Sv,RM a]
  ·cases q
 | .p _ _::_,_,q=>by simp[Cj]at q
structure ML [Gl] (ρ:gP) (L:cD) (w:World):Prop where
 dom:∀n,(ρ n).isSome=(fP L n).isSome
 blk:∀n b k,ρ n=some b->fP L n=some k->∃vs,dJ ρ k.cells=some vs/\w.heap[b]? =some (.cells ⟨vs⟩ k.ty (0,0))
 inj:∀n m b,ρ n=some b->ρ m=some b->n=m
 glb:iX w
 far:∀e∈GS,∀n,ρ n≠some e.1
theorem ML.lt[Gl]{ρ:gP}{L:cD}{w:World}(h:ML ρ L w){n:Nm}{b:Nat}(q:ρ n=some b):b<w.heap.size:=by
 have a:=h.dom n;rw[q]at a;cases c:fP L n with
 |none=>rw[c]at a;cases a
 |some k=>
  obtain⟨e,_,d⟩:=h.blk n b k q c;exact(Array.getElem?_eq_some_iff.1 d).1
theorem ML.congr[Gl]{ρ:gP}{L a:cD}{w:World}(h:ML ρ L w)(e:∀n,fP a n=fP L n):ML ρ a w:=
 ⟨fun n=>by rw[e];exact h.dom n,fun n b k q g=>h.blk n b k q (by rw[<-e];exact g),h.inj,h.glb,h.far⟩
def MT(ρ:gP)(τ:List AV)(a:Act):Prop:=a.defers=[]/\dN ρ τ=some a.tmps.toList
structure Nxt (ρ:gP) (w:World) (ρ':gP) (w':World):Prop where
 ext:OS ρ ρ'
 os:w'.os=w.os
 tape:w'.tape=w.tape
 output:w'.output=w.output
 size:w.heap.size<=w'.heap.size
 old:∀k,k<w.heap.size->(∀n,ρ n≠some k)->w'.heap[k]? =w.heap[k]?
 new:∀n b,ρ' n=some b->ρ n=none->w.heap.size<=b
theorem Nxt.refl(ρ:gP)(w:World):Nxt ρ w ρ w:=⟨OS.refl ρ,rfl,rfl,rfl,zC _,fun _ _ _=>rfl,fun n b h q=>by rw[h]at q;cases q⟩
theorem Nxt.trans{ρ e l:gP}{w g j:World}(h:Nxt ρ w e g)(k:Nxt e g l j):Nxt ρ w l j where
 ext:=h.ext.trans k.ext
 os:=k.os.trans h.os
 tape:=k.tape.trans h.tape
 output:=k.output.trans h.output
 size:=zJ h.size k.size
 old:=fun i hi d=>by
  rw[k.old i (Nat.lt_of_lt_of_le hi h.size) ?_,h.old i hi d];intro n q;cases a:ρ n with
  |none=>exact absurd (h.new n i q a) (by omega)
  |some b=>
   have:=h.ext n b a;rw[q]at this;cases this;exact d n a
 new:=fun n b f d=>by
  cases a:e n with
  |none=>exact zJ h.size (k.new n b f a)
  |some c=>
   have:=k.ext n c a;rw[f]at this;cases this;exact h.new n b a d
theorem Nxt.drew{ρ:gP}{w:World}:Nxt ρ w ρ {w with drawn:=w.drawn+1}:=⟨OS.refl ρ,rfl,rfl,rfl,zC _,fun _ _ _=>rfl,fun n b h q=>by rw[h]at q;cases q⟩
theorem ML.drew[Gl]{ρ:gP}{L:cD}{w:World}(h:ML ρ L w):ML ρ L {w with drawn:=w.drawn+1}:=⟨h.dom,h.blk,h.inj,h.glb,h.far⟩
def fZ[Gl](P:Program)(f:FuncId)(args:List AV)(L:cD)(r:AV)(L':cD):Prop:=
 ∀ρ w vs,dN ρ args=some vs->ML ρ L w->Calls P f ⟨vs⟩ w fun e w'=>∃v ρ',e=.returned v/\Nxt ρ w ρ' w'/\gD ρ' r=some v/\ML ρ' L' w'
def DL[Gl](P:Program)(all:List Oper)(o:Oper)(τ:List AV)(L:cD)(v:AV)(U:cD)(rd:List Nm):Prop:=
 ∀ρ a w τ0 L0,MT ρ τ0 a->(∀t∈looks all o,dR τ0 t=dR τ t)->ML ρ L0 w->(∀n,n∈rd\/n∈eX U->fP L0 n=fP L n)->
  ∀next Q,(∀ρ' w' u,Nxt ρ w ρ' w'->gD ρ' v=some u->ML ρ' (U++L0) w'->next (a.put o.dst u) w')->o.wp P a w next Q
theorem IC{ρ:gP}{τ:List AV}{a:Act}(h:MT ρ τ a)(t:Nat):gD ρ (dR τ t)=some (a.tmps.getD t undef):=by
 have:=VB h.2 t;unfold dR;cases b:τ[t]? with
 |none=>
  rw[b]at this;simp only[Option.bind_none]at this;have c:a.tmps[t]? =none:=by rw[<-Array.getElem?_toList];exact this.symm
  simp[gD,c]
 |some x=>
  rw[b]at this;simp only[yL]at this;rw[this];have f:t<τ.length:=(List.getElem?_eq_some_iff.1 b).1;have d:=sX h.2;have e:t<a.tmps.size:=by simp at d;omega
  simp[e]
theorem cZ{ρ:gP}{τ:List AV}{a:Act}(h:MT ρ τ a)(x:Operand):gD ρ (iL τ x)=some (a.eval x):=by
 cases x with
 |tmp t=>exact IC h t
 |const x=>rfl
 |global g=>rfl
 |func f=>rfl
theorem bQ{τ a:List AV}{all:List Oper}{o:Oper}(h:∀t∈looks all o,dR a t=dR τ t){x:Operand}(b:x∈o.op.operands):iL a x=iL τ x:=by
 cases x with
 |tmp t=>
  refine h t ?_;unfold looks;refine List.mem_append_left _ (List.mem_filterMap.2 ⟨.tmp t,by simpa using b,rfl⟩)
 |_=>rfl
theorem MT.put{ρ:gP}{τ:List AV}{a:Act}(h:MT ρ τ a)(d:Option Tmp){x:AV}{u:Value}(b:gD ρ x=some u):MT ρ (EO τ d x) (a.put d u):=by
 cases d with
 |none=>exact h
 |some d=>
  refine⟨h.1,?_⟩;simp only[EO,Act.put,Array.toList_setIfInBounds];exact VC d h.2 b
theorem MT.ext{ρ b:gP}(e:OS ρ b){τ:List AV}{a:Act}(h:MT ρ τ a):MT b τ a:=⟨h.1,VA e h.2⟩
theorem MT.of_get{ρ:gP}{τ b:List AV}{a:Act}(h:MT ρ τ a)(f:b.length=τ.length)(e:∀t,dR b t=dR τ t):MT ρ b a:=by
 have:b=τ:=by
  apply List.ext_getElem f;intro i c d;have:=e i;unfold dR at this;rw[List.getElem?_eq_getElem c,List.getElem?_eq_getElem d]at this;exact this
 rw[this];exact h
theorem M9{α:Type}{P:Program}{s:Sem α}{a:α}:Rw P s=some a->∀w,s.run P w=.ok a w:=by
 induction s with
 |pure x=>intro h w;simp only[Rw,zL.injEq]at h;subst h;rfl
 |program k b=>intro h w;exact b P h w
 |mark m k b=>intro h w;exact b h w
 |_=>intro h;simp[Rw]at h
end Ev
namespace Ev
open Go.RowKit
section
variable {P : Program} {all : List Oper} {o : Oper} {τ : List AV} {L : cD}
theorem gK[Gl]{v:AV}(h:∀ρ a w b,MT ρ b a->(∀t∈looks all o,dR b t=dR τ t)->∃u,gD ρ v=some u/\(execOp a.eval o).run P w=.ok (.value u) w):
  DL P all o τ L v [] []:=by
 intro ρ a w b j d e c _ next Q f
 obtain⟨u,i,g⟩:=h ρ a w b d e;unfold Oper.wp;rw[g];exact f ρ w u (Nxt.refl ρ w) i (by simpa using c)
theorem aEV{x:AV}(h:isV x=true):∃v,x=.v v:=by cases x<;>simp[isV]at h;exact⟨_,rfl⟩
theorem KM{ρ:gP}{a:Act}{c:List AV}(d:MT ρ c a)(f:∀t∈looks all o,dR c t=dR τ t){x:Operand}(h:x∈o.op.operands)(g:isV (iL τ x)=true):a.eval x=P0 τ x:=by
 have b:=cZ d x;rw[bQ f h]at b;obtain⟨v,e⟩:=aEV g;unfold P0;rw[e]at b ⊢;simp only[gD,zL.injEq]at b;exact b.symm
theorem Wy{v:AV}(j:∀cs b,o.op≠.select cs b)(h:GA P τ o=some v){ρ:gP}{a:Act}{f:List AV}(g:MT ρ f a)(i:∀t∈looks all o,dR f t=dR τ t)(w:World):
  ∃u,gD ρ v=some u/\(execOp a.eval o).run P w=.ok (.value u) w:=by
 unfold GA at h;cases c:nG τ o.op.operands.toList with
 |false=>rw[c]at h;cases h
 |true=>
  rw[c]at h;simp only[cond_true]at h;have e:execOp a.eval o=execOp (P0 τ) o:=execOp_congr o j fun x d=>KM g i d (by
   unfold nG at c;rw[yH]at c;exact c x (by simpa using d))
  split at h
  ·rename_i u k;simp only[zL.injEq]at h;subst h;exact⟨u,rfl,by rw[e];exact M9 k w⟩
  ·cases h
theorem Mn[Gl]{v:AV}(d:∀cs b,o.op≠.select cs b)(h:GA P τ o=some v):DL P all o τ L v [] []:=
 gK fun _ _ w _ a c=>Wy d h a c w
theorem Zg[Gl]{x:Operand}(f:x∈o.op.operands)(e:∀ρ:Operand->Value,execOp ρ o=pure (.value (ρ x))):DL P all o τ L (iL τ x) [] []:=
 gK fun ρ a w g c d=>by
  have b:=cZ c x;rw[bQ d f]at b;exact⟨a.eval x,b,by rw[e];rfl⟩
theorem Zj[Gl]{x:Operand}(a:o.op=.move x):DL P all o τ L (iL τ x) [] []:=
 Zg (by simp[a,Op.operands]) fun ρ=>by simp[execOp,a]
theorem Gb[Gl]{x:Operand}(a:o.op=.assign x):DL P all o τ L (iL τ x) [] []:=
 Zg (by simp[a,Op.operands]) fun ρ=>by simp[execOp,a]
theorem Zk[Gl]{c x y:Operand}{t:Bool}(d:o.op=.pick c x y)(i:iL τ c=.v (.bool t)):DL P all o τ L (cond t (iL τ x) (iL τ y)) [] []:=
 gK fun ρ a w j e f=>by
  have b:=cZ e c;rw[bQ f (by simp[d,Op.operands]),i]at b;have b:a.eval c=.bool t:=by simpa[gD]using b.symm
  have g:=cZ e x;rw[bQ f (by simp[d,Op.operands])]at g;have h:=cZ e y;rw[bQ f (by simp[d,Op.operands])]at h;cases t
  ·exact⟨a.eval y,h,by simp[execOp,d,b,asBool]⟩
  ·exact⟨a.eval x,g,by simp[execOp,d,b,asBool]⟩
theorem OJ[Gl]{s f:Nat}{x:Operand}{n:Nm}{off d:Nat}(l:o.op=.fieldAddr s x f)(y:iL τ x=.p n off)(c:Er P s f=some d):DL P all o τ L (.p n (off+d)) [] []:=
 gK fun ρ a w A r u=>by
  have h:=cZ r x;rw[bQ u (by simp[l,Op.operands]),y]at h;simp only[gD,zG]at h;obtain⟨b,t,e⟩:=h;unfold Er at c;split at c
  ·rename_i z v;split at c
   ·rename_i m j;split at c
    ·rename_i i hi;cases g:yD i.size 0 with
     |true=>rw[g]at c;cases c
     |false=>
      rw[g]at c;simp only[cond_false,zL.injEq]at c;subst c;have k:i.size≠0:=by intro q;rw[q]at g;cases g
      refine⟨.pointer (some ⟨b,off+m.offset,none⟩),by simp[gD,t],?_⟩;simp[execOp,l,Instr.fieldAt,run_underlying v,j,<-e,Instr.sureAddr,fieldPlace,sizeOf,typeInfo,hi,k,Addr.add_mid]
    ·cases c
   ·cases c
  ·cases c
theorem OK[Gl]{t:Nat}{x y:Operand}{n:Nm}{k:IntKind}{m:Int}{off d:Nat}(h:o.op=.indexAddr t x y)(B:iL τ x=.p n off)(D:iL τ y=.v (.int k m))(c:Fb P t m=some d):DL P all o τ L (.p n (off+d)) [] []:=
 gK fun ρ a w H q r=>by
  have g:=cZ q x;rw[bQ r (by simp[h,Op.operands]),B]at g;simp only[gD,zG]at g;obtain⟨b,u,e⟩:=g;have f:=cZ q y;rw[bQ r (by simp[h,Op.operands]),D]at f;have f:a.eval y=.int k m:=by simpa[gD]using f.symm
  unfold Fb at c;split at c
  ·rename_i len E A;split at c
   ·rename_i i hi;split at c
    ·rename_i j _;cases l:adJ (j+1) len with
     |false=>rw[l]at c;cases c
     |true=>
      rw[l]at c;simp only[cond_true,zL.injEq]at c;subst c;have z:j+1<=len:=yG l;refine⟨.pointer (some ⟨b,off+j*i.size,none⟩),by simp[gD,u],?_⟩;have s:(0:Int)<=Int.ofNat j/\Int.ofNat j<(len:Int):=by
       constructor
       ·exact Int.natCast_nonneg j
       ·show(j:Int)<len;omega
      have G:(Int.ofNat j)<(len:Int):=s.2;simp[execOp,h,Instr.indexAt,asIntOf,f,run_underlying A,<-e,Instr.sureAddr,sizeOf,typeInfo,hi,Addr.add_mid];omega
    ·cases c
   ·cases c
  ·cases c
theorem MC[Gl]{t:Nat}{x y:Operand}{n:Nm}{k:IntKind}{m:Int}{off len u d:Nat}(h:o.op=.indexAddr t x y)(D:iL τ x=.s n off len u)(E:iL τ y=.v (.int k m))(c:Fc P t len m=some d):DL P all o τ L (.p n (off+d)) [] []:=
 gK fun ρ a w H q r=>by
  have g:=cZ q x;rw[bQ r (by simp[h,Op.operands]),D]at g;simp only[gD,zG]at g;obtain⟨b,z,e⟩:=g;have f:=cZ q y;rw[bQ r (by simp[h,Op.operands]),E]at f;have f:a.eval y=.int k m:=by simpa[gD]using f.symm
  unfold Fc at c;split at c
  ·rename_i G B;split at c
   ·rename_i i hi;split at c
    ·rename_i j _;cases l:adJ (j+1) len with
     |false=>rw[l]at c;cases c
     |true=>
      rw[l]at c;simp only[cond_true,zL.injEq]at c;subst c;have A:j+1<=len:=yG l;refine⟨.pointer (some ⟨b,off+j*i.size,none⟩),by simp[gD,z],?_⟩;simp[execOp,h,Instr.indexAt,asIntOf,f,run_underlying B,<-e,sizeOf,typeInfo,hi,Addr.add_mid];omega
    ·cases c
   ·cases c
  ·cases c
theorem DQ{ρ:gP}{a:Act}{c:List AV}(f:MT ρ c a)(g:∀t∈looks all o,dR c t=dR τ t){d k:Nat}{x:Operand}(i:x∈o.op.operands)(h:bound τ d (some x)=some k):∃q,a.eval x=.int q (k:Int):=by
 simp only[bound]at h;split at h
 ·rename_i q j e;simp only[zL.injEq]at h;subst h;have b:=cZ f x;rw[bQ g i,e]at b;exact⟨q,by simpa[gD]using b.symm⟩
 ·cases h
theorem sD{ρ:gP}{a:Act}{s:List AV}(j:MT ρ s a)(k:∀t∈looks all o,dR s t=dR τ t){is:Bool}{len m l h:Nat}{lo hi:Option Operand}(u:∀x,lo=some x->x∈o.op.operands)(p:∀x,hi=some x->x∈o.op.operands)
  (d:bound τ 0 lo=some l)(b:bound τ len hi=some h)(g:l<=h)(f:h<=m)(w:World):(Instr.sliceBounds is len m (lo.map a.eval) (hi.map a.eval) none).run P w=.ok (l,h,m) w:=by
 have i:∀(x:Operand) (q:IntKind) (v y:Nat) (c:BoundsCode),a.eval x=.int q (v:Int)->v<=y->(Instr.sliceBound (a.eval x) y c).run P w=.ok v w:=fun x q v y c e z=>by
  simp[Instr.sliceBound,e,asIntOf];omega
 cases lo with
 |none=>
  simp only[bound,zL.injEq]at d;subst d;cases hi with
  |none=>
   simp only[bound,zL.injEq]at b;subst b;simp[Instr.sliceBounds]
  |some y=>
   obtain⟨q,e⟩:=DQ j k (p y rfl) b;simp[Instr.sliceBounds,i y q h m _ e f]
 |some x=>
  obtain⟨r,n⟩:=DQ j k (u x rfl) d;cases hi with
  |none=>
   simp only[bound,zL.injEq]at b;subst b;simp[Instr.sliceBounds,i x r l len _ n g]
  |some y=>
   obtain⟨q,e⟩:=DQ j k (p y rfl) b;simp[Instr.sliceBounds,i y q h m _ e f,i x r l h _ n g]
theorem Qr[Gl]{t:Nat}{x:Operand}{lo hi:Option Operand}{v:AV}(p:o.op=.slice t x lo hi none)(c:Gy P τ t (iL τ x) lo hi=some v):DL P all o τ L v [] []:=
 gK fun ρ a w I A D=>by
  have g:=cZ A x;rw[bQ D (by simp[p,Op.operands])]at g;have G:∀y,lo=some y->y∈o.op.operands:=fun y e=>by subst e;simp[p,Op.operands]
  have H:∀y,hi=some y->y∈o.op.operands:=fun y e=>by subst e;simp[p,Op.operands]
  unfold Gy at c;split at c
  ·rename_i n off m e E u;rw[E]at g;simp only[gD,zG]at g;obtain⟨b,B,ex⟩:=g;split at c
   ·rename_i i l h f k j;cases d:(adJ l h&&adJ h m)with
    |false=>rw[d]at c;cases c
    |true=>
     rw[d]at c;simp only[cond_true,zL.injEq]at c;subst c;simp only[Bool.and_eq_true]at d;have c1:l<=h:=yG d.1;have z:h<=m:=yG d.2;have s:=sD (P:=P) (is:=false) A D G H k j c1 z w;refine⟨.slice (some ⟨b,cond (yD m l) off (off+l*i.size),none⟩) (h-l) (m-l),by simp[gD,B],?_⟩;cases r:yD m l with
     |true=>
      have:m=l:=zQ r;subst this;simp[execOp,p,Instr.sliceAt,run_underlying u,<-ex,Instr.sureAddr,s,sizeOf,typeInfo,f]
     |false=>
      have:m≠l:=fun q=>by subst q;simp at r
      simp[execOp,p,Instr.sliceAt,run_underlying u,<-ex,Instr.sureAddr,s,sizeOf,typeInfo,f,this,Addr.add_mid]
   ·cases c
  ·rename_i n off len m e E u;rw[E]at g;simp only[gD,zG]at g;obtain⟨b,B,ex⟩:=g;split at c
   ·rename_i i l h f k j;cases d:(adJ l h&&adJ h m)with
    |false=>rw[d]at c;cases c
    |true=>
     rw[d]at c;simp only[cond_true,zL.injEq]at c;subst c;simp only[Bool.and_eq_true]at d;have c1:l<=h:=yG d.1;have z:h<=m:=yG d.2;have s:=sD (P:=P) (is:=true) A D G H k j c1 z w;refine⟨.slice (some ⟨b,cond (yD m l) off (off+l*i.size),none⟩) (h-l) (m-l),by simp[gD,B],?_⟩;cases r:yD m l with
     |true=>
      have:m=l:=zQ r;subst this;simp[execOp,p,Instr.sliceAt,Instr.slice,run_underlying u,<-ex,s,sizeOf,typeInfo,f]
     |false=>
      have:m≠l:=fun q=>by subst q;simp at r
      simp[execOp,p,Instr.sliceAt,Instr.slice,run_underlying u,<-ex,s,sizeOf,typeInfo,f,this,Addr.add_mid]
   ·cases c
  ·cases c
theorem aAL[Gl]{c:Call}{v:AV}(h:o.op=.call c)(d:aDn P τ c=some v):DL P all o τ L v [] []:=
 gK fun ρ a w z k m=>by
  unfold aDn at d;split at d
  ·rename_i x t l g q;split at d
   ·rename_i n off len u e s r;simp only[zL.injEq]at d;subst d;have p:x∈o.op.operands:=by
     simp only[h,Op.operands,Call.operands];refine Array.mem_append.2 (.inr ?_);have:x∈c.args.toList:=by rw[g];simp
     simpa using this
    have f:=cZ k x;rw[bQ m p,s]at f;simp only[gD,zG]at f;obtain⟨b,y,ex⟩:=f;have i:c.args= #[x]:=by apply acZ.1;rw[g]
    have j:c.argTypes= #[t]:=by apply acZ.1;rw[q]
    refine⟨_,rfl,?_⟩;simp[execOp,h,resolve,l,i,j,invoke,builtin,Builtin.len_,run_underlying r,<-ex,goInt]
   ·cases d
  ·cases d
theorem Mo[Gl]{x:Operand}(g:o.op=.nilCheck x)(q:∀v,iL τ x≠.v v):DL P all o τ L (iL τ x) [] []:=
 gK fun ρ a w t j m=>by
  have d:=cZ j x;rw[bQ m (by simp[g,Op.operands])]at d;refine⟨a.eval x,d,?_⟩;cases h:iL τ x with
  |v v=>exact absurd h (q v)
  |p n off=>
   rw[h]at d;simp only[gD,zG]at d;obtain⟨b,k,e⟩:=d;simp[execOp,g,<-e]
  |c f b c=>
   rw[h]at d;simp only[gD,zK,zG]at d;obtain⟨y,d,z,r,i⟩:=d;simp[execOp,g,<-i]
  |s n off l c=>
   rw[h]at d;simp only[gD,zG]at d;obtain⟨b,k,e⟩:=d;simp[execOp,g,<-e]
theorem aAK[Gl]{g:BinOp}{t n:Nat}{x y:Operand}{q:Bool}{a b:Int}(f:o.op=.binOp g t x y n)(j:Vt g=some q)(l:iL τ x=.v (.int .i64 a))(m:iL τ y=.v (.int .i64 b))(k:b≠0):
  DL P all o τ L (.v (.int .i64 (cond q (IntKind.i64.wrap (a.tdiv b)) (a.tmod b)))) [] []:=
 gK fun ρ c w p h i=>by
  refine⟨_,rfl,?_⟩;have d:=cZ h x;rw[bQ i (by simp[f,Op.operands]),l]at d;have d:c.eval x=.int .i64 a:=by simpa[gD]using d.symm
  have e:=cZ h y;rw[bQ i (by simp[f,Op.operands]),m]at e;have e:c.eval y=.int .i64 b:=by simpa[gD]using e.symm
  cases g<;>simp[Vt]at j;all_goals
   subst j;simp[execOp,f,d,e,eqGuard,binOp,Op.intDiv,k]
theorem Qq[Gl]{t:Nat}{b:Array (Nat×Operand)}{cells:Array Value}(d:o.op=.build t b)(c:nG τ (b.toList.map (·.2))=true)
  (h:P.built t (b.toList.map fun q=>(q.1,P0 τ q.2))=some cells):DL P all o τ L (.v (.agg cells)) [] []:=
 gK fun ρ a w k g j=>by
  refine⟨_,rfl,?_⟩;have e:(b.map fun(i,x)=>(i,a.eval x)).toList=b.toList.map fun q=>(q.1,P0 τ q.2):=by
   rw[Array.toList_map];refine List.map_congr_left fun q f=>?_;obtain⟨i,x⟩:=q;simp only;rw[KM (τ:=τ) g j (x:=x)]
   ·rw[d];simp only[Op.operands];have:x∈b.toList.map (·.2):=adQ.2 ⟨(i,x),f,rfl⟩;simpa using this
   ·unfold nG at c;rw[yH]at c;exact c x (adQ.2 ⟨(i,x),f,rfl⟩)
  have:=run_build (P:=P) w t (b.map fun(i,x)=>(i,a.eval x)) cells (by rw[e];exact h);simp[execOp,d,this]
theorem aDz[Gl]{f:BinOp}{t s:Nat}{x y:Operand}{g h:Array Value}{b r:Bool}(m:∀w,(Op.equalIn 10000 t (.agg g) (.agg h)).run P w=.ok r w)(n:P.eqGuardType P.depth t=false)
  (j:o.op=.binOp f t x y s)(c:aDi f=some b)(p:iL τ x=.v (.agg g))(q:iL τ y=.v (.agg h)):DL P all o τ L (.v (.bool (cond b r (!r)))) [] []:=
 gK fun ρ a w u k l=>by
  refine⟨_,rfl,?_⟩;have d:=cZ k x;rw[bQ l (by simp[j,Op.operands]),p]at d;have d:a.eval x=.agg g:=by simpa[gD]using d.symm
  have e:=cZ k y;rw[bQ l (by simp[j,Op.operands]),q]at e;have e:a.eval y=.agg h:=by simpa[gD]using e.symm
  have i:=run_eqGuard_agg (P:=P) w f t x y g h n;cases f<;>simp[aDi]at c;all_goals
   subst c;simp[execOp,j,d,e,i,run_eql_struct,run_neq_struct,m,Result.andThen]
theorem ML.alloc[Gl]{ρ:gP}{w:World}(h:ML ρ L w){c:Nm}(s:fP L c=none){cs:List CV}{vs:List Value}(p:dJ ρ cs=some vs)(t:TypeId):
  ∃i,i c=some w.heap.size/\Nxt ρ w i (w.alloc (.cells ⟨vs⟩ t))/\ML i ((c,⟨cs,t⟩)::L) (w.alloc (.cells ⟨vs⟩ t)):=by
 have v:ρ c=none:=by
  have:=h.dom c;rw[s]at this;cases u:ρ c with
  |none=>rfl
  |some b=>rw[u]at this;cases this
 have a:OS ρ (fun m=>if c=m then some w.heap.size else ρ m):=fun m b q=>by
  (try dsimp only)
  rw[if_neg (fun e=>by rw[<-e,v]at q;cases q)];exact q
 refine⟨fun m=>if c=m then some w.heap.size else ρ m,by simp,⟨a,rfl,rfl,rfl,by simp,fun k r _=>heap_alloc_old w _ k r,?_⟩,⟨?_,?_,?_,h.glb.of fun g d _=>heap_alloc_old w _ g d,fun e j m q=>?_⟩⟩
 ·intro m b q y
  (try dsimp only at q)
  split at q
  ·cases q;exact zC _
  ·rw[y]at q;cases q
 ·intro m;rw[dU]
  (try dsimp only)
  split
  ·rfl
  ·exact h.dom m
 ·intro m b k q d
  (try dsimp only at q)
  rw[dU]at d;split at q
  ·rename_i e;rw[if_pos e]at d;cases d;cases q;exact⟨vs,lI a p,heap_alloc_new w _⟩
  ·rename_i e;rw[if_neg e]at d;obtain⟨z,n,o⟩:=h.blk m b k q d;exact⟨z,lI a n,by rw[heap_alloc_old w _ b (h.lt q)];exact o⟩
 ·intro m x b q f
  (try dsimp only at q f)
  split at q<;>split at f
  ·rename_i e l;exact e.symm.trans l
  ·cases q;exact absurd (h.lt f) (by omega)
  ·cases f;exact absurd (h.lt q) (by omega)
  ·exact h.inj m x b q f
 ·(try dsimp only at q)
  split at q
  ·have:=h.glb.lt j;simp only[zL.injEq]at q;omega
  ·exact h.far e j m q
theorem ML.set[Gl]{ρ:gP}{w:World}(h:ML ρ L w){n:Nm}{b:Nat}(a:ρ n=some b){k:Blk}(v:fP L n=some k){cs:List CV}{vs:List Value}(s:dJ ρ cs=some vs):
  Nxt ρ w ρ (w.setRow b ⟨vs⟩)/\ML ρ ((n,⟨cs,k.ty⟩)::L) (w.setRow b ⟨vs⟩):=by
 obtain⟨z,_,i⟩:=h.blk n b k a v;refine⟨⟨OS.refl ρ,rfl,rfl,rfl,by simp,fun j _ u=>setRow_other w b j _ (fun e=>u n (by rw[e];exact a)),fun m c q f=>by rw[q]at f;cases f⟩,⟨?_,?_,h.inj,h.glb.of fun g _ x=>setRow_other w b g _ (fun q=>by obtain⟨e,t,r⟩:=x;exact h.far e t n (by rw[a,r,q])),h.far⟩⟩
 ·intro m;rw[dU];split
  ·rename_i e;subst e;rw[a];rfl
  ·exact h.dom m
 ·intro m c l q d;rw[dU]at d;split at d
  ·rename_i e;subst e;cases d;rw[a]at q;cases q;exact⟨vs,s,setRow_heap w b _ _ _ _ i⟩
  ·rename_i e;obtain⟨y,o,p⟩:=h.blk m c l q d;refine⟨y,o,?_⟩;rw[setRow_other w b c _ (fun e2=>e (h.inj n m b a (by rw[<-e2];exact q)))];exact p
theorem NP{ρ:gP}{x:AV}{cs:List CV}{v:Value}(h:wA x=some cs)(a:gD ρ x=some v):dJ ρ cs=some v.cells.toList:=by
 cases x with
 |v y=>
  simp only[wA,zL.injEq,gD]at h a;subst h a;exact mS _
 |p n o=>
  simp only[wA,zL.injEq]at h;subst h;simp only[gD,zG]at a;obtain⟨b,d,e⟩:=a;subst e;simp[dJ,Sv,d,Value.cells]
 |c f b c=>cases h
 |s n o l c=>cases h
theorem aAJ[Gl]{t:Nat}{x:Operand}{b:Nm}{cs:List CV}(h:o.op=.box t x)(q:wA (iL τ x)=some cs)(s:fP L b=none):
  DL P all o τ L (.p b 0) [(b,⟨cs,t⟩)] []:=by
 intro ρ a w v i n r m c next Q f
 have g:=cZ n x;rw[bQ r (by simp[h,Op.operands])]at g;have d:=NP q g;have e:fP i b=none:=by rw[c b (.inr (by simp[eX]))];exact s
 obtain⟨u,j,k,l⟩:=m.alloc e d t;unfold Oper.wp;have:(execOp a.eval o).run P w=.ok (.value (.pointer (some ⟨w.heap.size,0,none⟩))) (w.alloc (.cells ⟨(a.eval x).cells.toList⟩ t)):=by
  simp[execOp,h,Instr.box,newVar,newRow,newObj,Sem.run]
 rw[this];exact f u _ _ k (by simp[gD,j]) l
theorem Qp[Gl]{t:Nat}{b:Nm}{i:TypeInfo}{z:Value}(m:o.op=.alloc t)(hi:P.info? t=some i)(n:i.zero=some z)(l:fP L b=none):
  DL P all o τ L (.p b 0) [(b,⟨z.cells.toList.map CV.v,t⟩)] []:=by
 intro ρ a w u f r s k c next Q e
 have d:fP f b=none:=by rw[c b (.inr (by simp[eX]))];exact l
 obtain⟨q,g,h,j⟩:=k.alloc d (mS (ρ:=ρ) z.cells.toList) t;unfold Oper.wp;have:(execOp a.eval o).run P w=.ok (.value (.pointer (some ⟨w.heap.size,0,none⟩))) (w.alloc (.cells ⟨z.cells.toList⟩ t)):=by
  simp[execOp,m,Instr.alloc,newVar,newRow,newObj,Sem.run,zeroValue,typeInfo,hi,n]
 rw[this];exact e q _ _ h (by simp[gD,g]) j
theorem MB[Gl]{t n:Nat}{d:Array (Nat×Operand)}{f:Nm}{e:TypeId}{cells:Array Value}(l:o.op=.buildSlice t n d)(k:nG τ (d.toList.map (·.2))=true)
  (b:NJ P t n (d.toList.map fun q=>(q.1,P0 τ q.2))=some (e,cells))(K:fP L f=none):DL P all o τ L (.s f 0 n n) [(f,⟨cells.toList.map CV.v,e⟩)] []:=by
 intro ρ a w R p H J G g next Q j
 have h:fP p f=none:=by rw[g f (.inr (by simp[eX]))];exact K
 obtain⟨O,B,D,E⟩:=G.alloc h (mS (ρ:=ρ) cells.toList) e;have A:(d.map fun(i,x)=>(i,a.eval x)).toList=d.toList.map fun q=>(q.1,P0 τ q.2):=by
  rw[Array.toList_map];refine List.map_congr_left fun q m=>?_;obtain⟨i,x⟩:=q;simp only;rw[KM (τ:=τ) H J (x:=x)]
  ·rw[l];simp only[Op.operands];have:x∈d.toList.map (·.2):=adQ.2 ⟨(i,x),m,rfl⟩;simpa using this
  ·unfold nG at k;rw[yH]at k;exact k x (adQ.2 ⟨(i,x),m,rfl⟩)
 unfold NJ at b;split at b
 ·rename_i y M;split at b
  ·rename_i i hi;split at b
   ·rename_i z N;cases c:(yD (n*i.size) 0||adJ 16777216 (n*i.size))with
    |true=>rw[c]at b;cases b
    |false=>
     rw[c]at b;simp only[cond_false]at b;split at b
     ·rename_i u I;simp only[zL.injEq,Prod.mk.injEq]at b;obtain⟨rfl,rfl⟩:=b;simp only[Bool.or_eq_false_iff]at c;have c1:¬n*i.size=0:=fun q=>by rw[q]at c;simp at c
      have r:¬n*i.size>2^24:=fun q=>by
       have:adJ 16777216 (n*i.size)=true:=Nat.ble_eq_true_of_le (by omega);rw[this]at c;exact absurd c.2 (by simp)
      refine wp_buildSlice t y n d l u i z M hi N r c1 (by rw[A];exact I) ?_;exact j O _ _ D (by simp[gD,B]) E
     ·cases b
   ·cases b
  ·cases b
 ·cases b
theorem nK{ρ:gP}{w:World}{b:Nat}{k:Blk}{t:TypeId}{off:Nat}{v:AV}(h:PV P k t off=some v){vs:List Value}(p:dJ ρ k.cells=some vs)
  {D:TypeId}{B:Nat×Nat}(z:w.heap[b]? =some (.cells ⟨vs⟩ D B)):∃u,gD ρ v=some u/\(loadVar t ⟨b,off,none⟩).run P w=.ok u w:=by
 unfold PV at h;split at h
 ·rename_i d i A hi;cases r:d.isRow with
  |true=>
   rw[r]at h;simp only[cond_true]at h;split at h
   ·rename_i o x;cases s:yD o.length i.size with
    |false=>rw[s]at h;cases h
    |true=>
     rw[s]at h;simp only[cond_true,zL.injEq]at h;subst h;have m:o.length=i.size:=zQ s;have e:o=(vs.drop off).take i.size:=by
      have f:=RM (ρ:=ρ) x;have y:dJ ρ (aCd k.cells off i.size)=some ((vs.drop off).take i.size):=DV _ (DU _ p);rw[f]at y;exact zL.inj y
     refine⟨_,rfl,?_⟩;refine run_loadVar_mid w b off t o d ?_ A r (by rw[hi,m];rfl);intro j u l;rw[e,List.getElem?_take]at l;split at l
     ·rw[List.getElem?_drop]at l;simp only[World.cell?,z];simpa using l
     ·cases l
   ·cases h
  |false=>
   rw[r]at h;simp only[cond_false]at h;split at h
   ·rename_i c a;simp only[zL.injEq]at h;subst h;have f:=WM p off;rw[a]at f;simp only[yL]at f;have n:off<vs.length:=by
     have:=nV p;have:=(List.getElem?_eq_some_iff.1 a).1;omega
    rw[List.getElem?_eq_getElem n]at f;refine⟨vs[off],by rw[J6];exact f,?_⟩;have q:w.cell? ⟨b,off,none⟩=some vs[off]:=by simp[World.cell?,z,n]
    have g:(isAgg t).run P w=.ok false w:=by
     unfold isAgg;rw[Sem.run_bind,run_underlying A w];cases d<;>simp_all[TypeDesc.isRow]
    simp[loadVar,Sem.run_bind,g,load,Sem.run,q]
   ·cases h
 ·cases h
theorem Zi[Gl]{t:Nat}{x:Operand}{n:Nm}{off:Nat}{k:Blk}{v:AV}(i:o.op=.load t x)(D:iL τ x=.p n off)(z:fP L n=some k)(B:PV P k t off=some v):
  DL P all o τ L v [] [n]:=by
 intro ρ a w G j s A h d next Q g
 have c:=cZ s x;rw[bQ A (by simp[i,Op.operands]),D]at c;simp only[gD,zG]at c;obtain⟨b,y,e⟩:=c;have f:fP j n=some k:=by rw[d n (.inl (by simp))];exact z
 obtain⟨E,l,m⟩:=h.blk n b k y f;obtain⟨u,q,r⟩:=nK B l m;unfold Oper.wp;have:(execOp a.eval o).run P w=.ok (.value u) w:=by
  simp[execOp,i,Instr.loadAt,<-e,Instr.sureAddr,r]
 rw[this];exact g ρ w u (Nxt.refl ρ w) q (by simpa using h)
theorem Zh[Gl]{t g:Nat}{x:Operand}{v:AV}(f:o.op=.load t x)(p:iL τ x=.v (.pointer (some ⟨g,0,none⟩)))(b:Jy P t g=some v):
  DL P all o τ L v [] []:=by
 intro ρ a w z r k n e l next Q d
 have c:=cZ k x;rw[bQ n (by simp[f,Op.operands]),p]at c;simp only[gD,zL.injEq]at c;unfold Jy at b;split at b
 ·rename_i q m;obtain⟨y,s,h⟩:=e.glb _ (PN m);obtain⟨u,i,j⟩:=nK b (mS (ρ:=ρ) q) h;unfold Oper.wp;have:(execOp a.eval o).run P w=.ok (.value u) w:=by
   simp[execOp,f,Instr.loadAt,<-c,Instr.sureAddr,j]
  rw[this];exact d ρ w u (Nxt.refl ρ w) i (by simpa using e)
 ·cases b
theorem Ze{ρ:gP}:∀{cs:List CV} {vs:List Value},dJ ρ cs=some vs->cs.all one=true->∀v∈vs,v.oneCell'=true
 | [],_,q,_=>by simp[dJ]at q;subst q;simp
 |x::l,vs,q,h=>by
  simp only[dJ,zK,zG]at q;obtain⟨y,c,z,d,f⟩:=q;subst f;simp only[List.all_cons,Bool.and_eq_true]at h;intro v hv;rw[zI]at hv;rcases hv with rfl|hv
  ·cases x with
   |v a=>simp only[Sv,zL.injEq]at c;subst c;exact h.1
   |p n o=>
    simp only[Sv,zG]at c;obtain⟨b,_,e⟩:=c;subst e;rfl
  ·exact Ze d h.2 v hv
theorem Qs[Gl]{t:Nat}{x y:Operand}{n:Nm}{off:Nat}{k J:Blk}(A:o.op=.store t x y)(U:iL τ x=.p n off)(R:fP L n=some k)(d:Hk P k t off (iL τ y)=some J):
  DL P all o τ L (.v undef) [(n,J)] []:=by
 intro ρ a w Z K G I E r next Q z
 have m:=cZ G x;rw[bQ I (by simp[A,Op.operands]),U]at m;simp only[gD,zG]at m;obtain⟨b,H,e⟩:=m;have D:=cZ G y;rw[bQ I (by simp[A,Op.operands])]at D;have h:fP K n=some k:=by rw[r n (.inr (by simp[eX]))];exact R
 obtain⟨l,q,O⟩:=E.blk n b k H h;unfold Hk at d;split at d
 ·rename_i c i u hi;have s:=NP u D;cases g:(yD c.length i.size&&adJ (off+i.size) k.cells.length&&c.all one)with
  |false=>rw[g]at d;cases d
  |true=>
   rw[g]at d;simp only[cond_true,zL.injEq]at d;subst d;simp only[Bool.and_eq_true]at g;have V:c.length=i.size:=zQ g.1.1;have X:off+i.size<=k.cells.length:=yG g.1.2;have Y:=nV q;have B:=nV s;have f:=run_storeCells_at P b off k.ty (a.eval y).cells.toList 0 ⟨l⟩ w O (by simp at B ⊢;omega) (Ze s g.2);have j:dJ ρ (k.cells.take off++c++k.cells.drop (off+c.length))=some (l.take off++(a.eval y).cells.toList++l.drop (off+c.length)):=
    tF (tF (DV _ q) s) (DU _ q)
   obtain⟨M,N⟩:=E.set H h j;unfold Oper.wp;have:(execOp a.eval o).run P w=.ok .skip (w.setRow b ⟨l.take off++(a.eval y).cells.toList++l.drop (off+c.length)⟩):=by
    have e1:(a.eval y).cells.size=i.size:=by simp at B;omega
    have e2:off+(a.eval y).cells.toList.length=off+c.length:=by rw[B]
    simp only[xZ]at f;rw[e2]at f;simp only[execOp,A,Instr.storeAt,<-e,Instr.sureAddr,storeVar,sizeOf,typeInfo];simp[hi,e1,f]
   rw[this];exact z ρ _ _ M rfl N
 ·cases d
end
end Ev
namespace Ev
open Go.RowKit
def Oz(ρ:gP)(ks:List Nm):gP:=fun n=>cond (PP ks n) (ρ n) none
theorem JX{ρ:gP}{ks:List Nm}{n:Nm}(h:PP ks n=true):Oz ρ ks n=ρ n:=by unfold Oz;rw[h];rfl
theorem gX{ρ:gP}{ks:List Nm}{n:Nm}{b:Nat}(h:Oz ρ ks n=some b):PP ks n=true/\ρ n=some b:=by
 unfold Oz at h;cases a:PP ks n with
 |false=>rw[a]at h;cases h
 |true=>rw[a]at h;exact⟨rfl,h⟩
theorem oY{ρ:gP}{ks:List Nm}:∀{l:List CV} {vs:List Value},(OH l).all (PP ks)=true->dJ ρ l=some vs->dJ (Oz ρ ks) l=some vs
 | [],_,_,q=>q
 | .v x::l,vs,h,q=>by
  simp only[dJ,zK,zG]at q ⊢;obtain⟨y,a,z,b,c⟩:=q;exact⟨y,a,z,oY (l:=l) h b,c⟩
 | .p n o::l,vs,h,q=>by
  simp only[OH,List.all_cons,Bool.and_eq_true]at h;simp only[dJ,zK,zG]at q ⊢;obtain⟨y,a,z,b,c⟩:=q;refine⟨y,?_,z,oY (l:=l) h.2 b,c⟩;simpa only[Sv,JX h.1]using a
theorem sW{ρ:gP}{ks:List Nm}:∀{l:List AV} {vs:List Value},(EK l).all (PP ks)=true->dN ρ l=some vs->dN (Oz ρ ks) l=some vs
 | [],_,_,q=>q
 | .v x::l,vs,h,q=>by
  simp only[dN,zK,zG]at q ⊢;obtain⟨y,a,z,d,e⟩:=q;exact⟨y,a,z,sW (l:=l) h d,e⟩
 | .p n o::l,vs,h,q=>by
  simp only[EK,List.all_cons,Bool.and_eq_true]at h;simp only[dN,zK,zG]at q ⊢;obtain⟨y,a,z,d,e⟩:=q;refine⟨y,?_,z,sW (l:=l) h.2 d,e⟩;simpa only[gD,JX h.1]using a
 | .c f b c::l,vs,h,q=>by
  simp only[EK,List.all_append,Bool.and_eq_true]at h;simp only[dN,zK,zG]at q ⊢;obtain⟨y,a,z,d,e⟩:=q;refine⟨y,?_,z,sW (l:=l) h.2 d,e⟩;simp only[gD,zK,zG]at a ⊢;obtain⟨s,g,u,i,j⟩:=a;exact⟨s,oY h.1.1 g,u,oY h.1.2 i,j⟩
 | .s n o _ _::l,vs,h,q=>by
  simp only[EK,List.all_cons,Bool.and_eq_true]at h;simp only[dN,zK,zG]at q ⊢;obtain⟨y,a,z,d,e⟩:=q;refine⟨y,?_,z,sW (l:=l) h.2 d,e⟩;simpa only[gD,JX h.1]using a
theorem Wz(L:cD)(r:List Nm)(n:Nm):fP (part L r) n=if n∈r then fP L n else none:=by
 induction r with
 |nil=>simp[part,fP]
 |cons m r a=>
  unfold part at a ⊢;rw[List.filterMap_cons];cases c:fP L m with
  |none=>
   rw[a];by_cases e:n=m
   ·subst e;simp[c]
   ·simp[e]
  |some b=>
   rw[dU,a];by_cases e:m=n
   ·subst e;simp[c]
   ·rw[if_neg e];have d:¬n=m:=fun q=>e q.symm;simp[d]
theorem aA3{L:cD}{n:Nm}{b:Blk}(h:fP L n=some b):(n,b)∈L:=by
 induction L with
 |nil=>simp[fP]at h
 |cons x l a=>
  obtain⟨m,c⟩:=x;rw[dU]at h;split at h
  ·rename_i e;cases h;subst e;exact zH
  ·exact zF _ (a h)
theorem PB{ks:List Nm}:∀{L:cD},closed ks L=true->∀{n:Nm} {b:Blk},(n,b)∈L->(OH b.cells).all (PP ks)=true
 |(m,c)::l,h,n,b,hm=>by
  simp only[closed,Bool.and_eq_true]at h;rcases zI.1 hm with e|hm
  ·cases e;exact h.1
  ·exact PB h.2 hm
theorem LK{L:cD}{n:Nm}:n∈eX L↔(fP L n).isSome=true:=by
 have h:=mI (l:=L) (n:=n);cases a:fP L n with
 |none=>rw[a]at h;simp only[true_iff]at h;simp[h]
 |some b=>rw[a]at h;simp at h;simp[h]
section
variable {P : Program} {all : List Oper}
theorem Gu[Gl]{g:FuncId}{args:List AV}{L:cD}{r:List Nm}{v:AV}{B:cD}(hR:fZ P g args (part L r) v B)
  (ha:(EK args).all (PP (eX (part L r)))=true)(hc:closed (eX (part L r)) (part L r)=true)
  (I:Yx (eX (part L r)) L B=true)
  {ρ:gP}{w:World}{O:cD}{vs:List Value}(U:dN ρ args=some vs)(o:ML ρ O w)(H:∀n,n∈eX (part L r)\/n∈eX B->fP O n=fP L n):
  Calls P g ⟨vs⟩ w fun e w'=>∃u i,e=.returned u/\Nxt ρ w i w'/\gD i v=some u/\ML i (B++O) w':=by
 have G:∀n b,fP (part L r) n=some b->fP L n=some b:=fun n b h=>by
  rw[Wz]at h;split at h
  ·exact h
  ·cases h
 have R:ML (Oz ρ (eX (part L r))) (part L r) w:=by
  refine⟨fun n=>?_,fun n b k q j=>?_,fun n m b q z=>o.inj n m b (gX q).2 (gX z).2,o.glb,fun e M n q=>o.far e M n (gX q).2⟩
  ·cases A:PP (eX (part L r)) n with
   |false=>
    have:n∉eX (part L r):=fun h=>by rw[mJ.2 h]at A;cases A
    rw[mI.2 this];unfold Oz;rw[A];rfl
   |true=>
    rw[JX A];have Y:=mJ.1 A;have t:=LK.1 Y;rw[t];cases j:fP (part L r) n with
    |none=>rw[j]at t;cases t
    |some b=>
     have:=o.dom n;rw[H n (.inl Y),G n b j]at this;exact this
  ·obtain⟨N,s⟩:=gX q;obtain⟨K,f,D⟩:=o.blk n b k s (by rw[H n (.inl (mJ.1 N))];exact G n k j);exact⟨K,oY (PB hc (aA3 j)) f,D⟩
 refine(hR (Oz ρ (eX (part L r))) w vs (sW ha U) R).mono ?_;rintro e w' ⟨u,i,rfl,hN,hv,l⟩;have V:∀n b,i n=some b->n∈eX B:=fun n b q=>LK.2 (by rw[<-l.dom n,q];rfl);have out:∀n b,i n=some b->Oz ρ (eX (part L r)) n=none->ρ n=none:=fun n b q s=>by
  have A:=V n b q;have f:=(yH.1 I) n A;cases X:PP (eX (part L r)) n with
  |true=>
   rw[JX X]at s;exact s
  |false=>
   rw[X]at f;have D:fP L n=none:=by
    unfold fresh at f;cases j:fP L n with
    |none=>rfl
    |some x=>rw[j]at f;cases f
   have:=o.dom n;rw[H n (.inr A),D]at this;cases a:ρ n with
   |none=>rfl
   |some c=>rw[a]at this;cases this
 have old:∀n b c,i n=some b->ρ n=some c->b=c:=fun n b c q s=>by
  cases a:Oz ρ (eX (part L r)) n with
  |none=>rw[out n b q a]at s;cases s
  |some d=>
   have:=hN.ext n d a;rw[q]at this;cases this;have:=(gX a).2;rw[s]at this;cases this;rfl
 have y:OS i (fun n=>match i n with|some b=>some b|none=>ρ n):=fun n b q=>by
  (try dsimp only)
  rw[q]
 have E:OS ρ (fun n=>match i n with|some b=>some b|none=>ρ n):=fun n b q=>by
  (try dsimp only)
  cases a:i n with
  |none=>exact q
  |some c=>rw[old n c b a q]
 refine⟨u,fun n=>match i n with|some b=>some b|none=>ρ n,rfl,⟨E,hN.os,hN.tape,hN.output,hN.size,?_,?_⟩,Ir y hv,⟨?_,?_,?_,l.glb,fun e M n q=>?_⟩⟩
 ·intro k A hn;exact hN.old k A fun n q=>hn n (gX q).2
 ·intro n b q s
  (try dsimp only at q)
  cases a:i n with
  |none=>rw[a]at q;dsimp only at q;rw[s]at q;cases q
  |some c=>
   rw[a]at q;cases q;refine hN.new n b a ?_;cases J:Oz ρ (eX (part L r)) n with
   |none=>rfl
   |some d=>rw[(gX J).2]at s;cases s
 ·intro n;rw[wV];have f:=l.dom n;have D:=o.dom n
  (try dsimp only)
  cases a:i n with
  |none=>
   rw[a]at f;cases j:fP B n with
   |none=>simpa using D
   |some x=>rw[j]at f;cases f
  |some c=>
   rw[a]at f;cases j:fP B n with
   |none=>rw[j]at f;cases f
   |some x=>rfl
 ·intro n b k q j;rw[wV]at j
  (try dsimp only at q)
  cases a:i n with
  |some c=>
   rw[a]at q;cases q;have f:=l.dom n;rw[a]at f;cases p:fP B n with
   |none=>rw[p]at f;cases f
   |some x=>
    rw[p]at j;simp only[Option.some_or,zL.injEq]at j;subst j;obtain⟨K,D,Q⟩:=l.blk n b x a p;exact⟨K,lI y D,Q⟩
  |none=>
   rw[a]at q;dsimp only at q;have f:=l.dom n;rw[a]at f;cases p:fP B n with
   |some x=>rw[p]at f;cases f
   |none=>
    rw[p]at j;simp only[Option.none_or]at j;obtain⟨K,D,Q⟩:=o.blk n b k q j;refine⟨K,lI E D,?_⟩;rw[hN.old b (o.lt q) ?_]
    ·exact Q
    ·intro m qm;have:=o.inj m n b (gX qm).2 q;subst this;have:=hN.ext m b qm;rw[a]at this;cases this
 ·intro n m b q z
  (try dsimp only at q z)
  have two:∀n m,i n=some b->i m=none->ρ m=some b->n=m:=fun n m N s Z=>by
   cases J:Oz ρ (eX (part L r)) n with
   |some d=>
    have:=hN.ext n d J;rw[N]at this;cases this;exact o.inj n m b (gX J).2 Z
   |none=>exact absurd (hN.new n b N J) (by have:=o.lt Z;omega)
  cases a:i n with
  |some c=>
   rw[a]at q;cases q;cases t:i m with
   |some d=>
    rw[t]at z;cases z;exact l.inj n m b a t
   |none=>
    rw[t]at z;exact two n m a t z
  |none=>
   rw[a]at q;cases t:i m with
   |some d=>
    rw[t]at z;cases z;exact(two m n t a q).symm
   |none=>
    rw[t]at z;exact o.inj n m b q z
 ·(try dsimp only at q)
  cases a:i n with
  |some c=>
   rw[a]at q;cases q;exact l.far e M n a
  |none=>
   rw[a]at q;exact o.far e M n q
section
variable {α : Type} {E : List (TypeId × Nat)} {C : List FuncId} {call : FuncId -> List AV -> cD -> Nm -> (AV -> cD -> Option α) -> Option α}
def gU(P:Program)(g:FuncId):Prop:=∀args w,(callFunc g args).run P w=.ok (.enter g args) w
def oT(P:Program)(e:TypeId×Nat):Prop:=P.eqGuardType P.depth e.1=false/\∀xs ys r,xs.length=e.2->ys.length=e.2->wR xs ys=some r->∀w,(Op.equalIn 10000 e.1 (.agg ⟨xs⟩) (.agg ⟨ys⟩)).run P w=.ok r w
def IW[Gl](P:Program)(call:FuncId->List AV->cD->Nm->(AV->cD->Option α)->Option α):Prop:=
 ∀g args L nm k r,call g args L nm k=some r->∃v L',fZ P g args L v L'/\k v L'=some r
theorem SG[Gl](A:∀g∈C,gU P g)(b:IW P call){args:List AV}{g:FuncId}{L:cD}{J:Nm}{k:AV->cD->List Nm->Option α}{r:α}
  (h:Ec C call args g L J k=some r):∃v U rd,k v U rd=some r/\∀o τ,
   (∀ρ a w i,MT ρ i a->(∀t∈looks all o,dR i t=dR τ t)->∃vs,dN ρ args=some vs/\(execOp a.eval o).run P w=(callFunc g ⟨vs⟩).run P w)->DL P all o τ L v U rd:=by
 unfold Ec at h;dsimp only at h;generalize reach L 4 (UO [] (EK args))=f at h;cases d:(C.any (yD g)&&(EK args).all (PP (eX (part L f)))&&closed (eX (part L f)) (part L f))with
 |false=>rw[d]at h;cases h
 |true=>
  rw[d]at h;simp only[cond_true]at h;simp only[Bool.and_eq_true]at d;obtain⟨⟨p,q⟩,s⟩:=d;have E:g∈C:=by
   rw[yN]at p;obtain⟨x,I,e⟩:=p;have:g=x:=zQ e;exact this ▸ I
  obtain⟨v,n,hR,c⟩:=b _ _ _ _ _ _ h;cases l:Yx (eX (part L f)) L n with
  |false=>rw[l]at c;cases c
  |true=>
   rw[l]at c;simp only[cond_true]at c;refine⟨v,n,_,c,fun o τ H=>?_⟩;intro ρ a w i V D G B j next Q m
   obtain⟨vs,y,z⟩:=H ρ a w i D G;unfold Oper.wp;rw[z,A g E];have:=Gu hR q s l y B j;refine this.mono ?_;rintro e O ⟨u,R,rfl,K,M,N⟩;exact m R O u K M N
theorem Cp[Gl](p:∀e∈E,oT P e){τ:List AV}{L:cD}{o:Oper}{m:BinOp}{t G:TypeId}{x y:Operand}{v:AV}(l:o.op=.binOp m t x y G)(h:aCC P E τ o m t x y=some v):DL P all o τ L v [] []:=by
 unfold aCC at h;have A:∀i b,o.op≠.select i b:=fun i b q=>by rw[l]at q;cases q
 split at h
 ·rename_i b c g s B D;cases a:(aD8 E t c.toList.length&&yD c.toList.length g.toList.length)with
  |false=>rw[a]at h;cases h
  |true=>
   rw[a]at h;simp only[cond_true]at h;split at h
   ·rename_i r z;simp only[zL.injEq]at h;subst h;simp only[Bool.and_eq_true]at a;have d:=a.1;unfold aD8 at d;rw[yN]at d;obtain⟨e,u,f⟩:=d;simp only[Bool.and_eq_true]at f;have e1:e.1=t:=zQ f.1;have e2:e.2=c.toList.length:=zQ f.2;have n:c.toList.length=g.toList.length:=zQ a.2;obtain⟨j,k⟩:=p e u;rw[e1]at j k;exact aDz (fun w=>k c.toList g.toList r e2.symm (by rw[e2,n]) z w) j l s B D
   ·cases h
 ·exact Mn A h
theorem pU{ρ:gP}{τ e:List AV}{a:Act}{o:Oper}(c:MT ρ e a)(d:∀t∈looks all o,dR e t=dR τ t):∀(l:List Operand),(∀x∈l,x∈o.op.operands)->dN ρ (l.map (iL τ))=some (l.map a.eval)
 | [],_=>rfl
 |x::l,h=>by
  have b:=cZ c x;rw[bQ d (h x (by simp))]at b;simp[dN,b,pU c d l (fun y f=>h y (by simp[f]))]
theorem IP{ρ:gP}:∀{l:List AV} {cs:List CV} {vs:List Value},GL l=some cs->dN ρ l=some vs->dJ ρ cs=some vs
 | [],_,_,h,q=>by simp only[GL,zL.injEq]at h;subst h;exact q
 | .v x::l,cs,vs,h,q=>by
  simp only[GL]at h;split at h
  ·rename_i r e;simp only[zL.injEq]at h;subst h;simp only[dN,zK,zG]at q;obtain⟨y,a,z,b,d⟩:=q;simp only[dJ,zK,zG];exact⟨y,a,z,IP e b,d⟩
  ·cases h
 | .p n o::l,cs,vs,h,q=>by
  simp only[GL]at h;split at h
  ·rename_i r e;simp only[zL.injEq]at h;subst h;simp only[dN,zK,zG]at q;obtain⟨y,a,z,b,d⟩:=q;simp only[dJ,zK,zG];exact⟨y,a,z,IP e b,d⟩
  ·cases h
 | .c _ _ _::_,_,_,h,_=>by simp[GL]at h
 | .s _ _ _ _::_,_,_,h,_=>by simp[GL]at h
theorem TQ[Gl]{τ:List AV}{L:cD}{o:Oper}{g:FuncId}{bs cs:Array Operand}{b c:List CV}(d:o.op=.makeFunc (.func g) bs cs)(k:GL (bs.toList.map (iL τ))=some b)(l:GL (cs.toList.map (iL τ))=some c):
  DL P all o τ L (.c g b c) [] []:=
 gK fun ρ a w m f h=>by
  have i:=pU f h bs.toList fun x e=>by simp only[d,Op.operands];exact Array.mem_append.2 (.inl (by simpa using e))
  have j:=pU f h cs.toList fun x e=>by simp only[d,Op.operands];exact Array.mem_append.2 (.inr (by simpa using e))
  refine⟨.func (.func g) (bs.map a.eval) (cs.map a.eval),?_,by simp[execOp,d,Instr.makeFunc]⟩;simp only[gD,IP k i,IP l j,yL,Option.map_some,zL.injEq];congr 1
  ·apply acZ.1;simp
  ·apply acZ.1;simp
theorem El[Gl](hE:∀e∈E,oT P e)(hC:∀g∈C,gU P g)(I:IW P call){o:Oper}{τ:List AV}{L:cD}{nm:Nm}{k:AV->cD->List Nm->Option α}{r:α}
  (h:y7 P E C call o τ L nm k=some r):∃v U rd,k v U rd=some r/\DL P all o τ L v U rd:=by
 have A:(∀G b,o.op≠.select G b)->(match GA P τ o with|some v=>k v [] []|none=>none)=some r->∃v U rd,k v U rd=some r/\DL P all o τ L v U rd:=fun hs X=>by
  split at X
  ·rename_i v l;exact⟨v,[],[],X,Mn hs l⟩
  ·cases X
 cases j:o.op<;>simp only[y7,j]at h
 case move x=>exact⟨_,_,_,h,Zj j⟩
 case assign x=>exact⟨_,_,_,h,Gb j⟩
 case pick c x y=>
  split at h
  ·rename_i t ht;have:=Zk (P:=P) (all:=all) (L:=L) j ht;cases t
   ·exact⟨_,_,_,h,this⟩
   ·exact⟨_,_,_,h,this⟩
  ·cases h
 case alloc t=>
  split at h
  ·rename_i i hi;split at h
   ·rename_i z hz;split at h
    ·rename_i K;exact⟨_,_,_,h,Qp j hi hz K⟩
    ·cases h
   ·cases h
  ·cases h
 case box t x=>
  split at h
  ·rename_i G R;split at h
   ·rename_i K;exact⟨_,_,_,h,aAJ j R K⟩
   ·cases h
  ·cases h
 case build t ps=>
  cases l:nG τ (ps.toList.map (·.2))with
  |false=>rw[l]at h;cases h
  |true=>
   rw[l]at h;simp only[cond_true]at h;split at h
   ·rename_i cells B;exact⟨_,_,_,h,Qq j l B⟩
   ·cases h
 case load t x=>
  split at h
  ·rename_i n off u;split at h
   ·rename_i b B;split at h
    ·rename_i v l;exact⟨_,_,_,h,Zi j u B l⟩
    ·cases h
   ·cases h
  ·rename_i g u;cases l:Jy P t g with
   |none=>rw[l]at h;cases h
   |some v=>rw[l]at h;exact⟨_,_,_,h,Zh j u l⟩
  ·cases h
 case store t x y=>
  split at h
  ·rename_i n off u;split at h
   ·rename_i b B;split at h
    ·rename_i v l;exact⟨_,_,_,h,Qs j u B l⟩
    ·cases h
   ·cases h
  ·cases h
 case fieldAddr s x f=>
  split at h
  ·rename_i n off u;split at h
   ·rename_i d J;exact⟨_,_,_,h,OJ j u J⟩
   ·cases h
  ·cases h
 case indexAddr t x y=>
  split at h
  ·rename_i n off k' ix u M;split at h
   ·rename_i d J;exact⟨_,_,_,h,OK j u M J⟩
   ·cases h
  ·rename_i n off len cp k' ix u M;split at h
   ·rename_i d J;exact⟨_,_,_,h,MC j u M J⟩
   ·cases h
  ·cases h
 case buildSlice t n ps=>
  cases l:nG τ (ps.toList.map (·.2))with
  |false=>rw[l]at h;cases h
  |true=>
   rw[l]at h;simp only[cond_true]at h;split at h
   ·rename_i e cells B;split at h
    ·rename_i K;exact⟨_,_,_,h,MB j l B K⟩
    ·cases h
   ·cases h
 case slice t x lo hi mx=>
  cases mx with
  |some y=>cases h
  |none=>
   dsimp only at h;split at h
   ·rename_i v l;exact⟨_,_,_,h,Qr j l⟩
   ·cases h
 case nilCheck x=>
  split at h
  ·rename_i n off u;have:=Mo (P:=P) (all:=all) (L:=L) (τ:=τ) j (fun v=>by rw[u];simp);rw[u]at this;exact⟨_,_,_,h,this⟩
  ·rename_i f b c u;have:=Mo (P:=P) (all:=all) (L:=L) (τ:=τ) j (fun v=>by rw[u];simp);rw[u]at this;exact⟨_,_,_,h,this⟩
  ·exact A (fun G b q=>by rw[j]at q;cases q) h
 case binOp op t x y yt=>
  split at h
  ·rename_i q a b hq u M;cases B:(b==0)with
   |true=>rw[B]at h;cases h
   |false=>
    rw[B]at h;exact⟨_,_,_,h,aAK j hq u M (by simpa using B)⟩
  ·split at h
   ·rename_i v l;exact⟨_,_,_,h,Cp hE j l⟩
   ·cases h
 case makeFunc f bs G=>
  split at h
  ·rename_i g b c B hc;exact⟨_,_,_,h,TQ j B hc⟩
  ·cases h
 case unOp a b c=>exact A (fun G b q=>by rw[j]at q;cases q) h
 case convert a b c=>exact A (fun G b q=>by rw[j]at q;cases q) h
 case field a b c=>exact A (fun G b q=>by rw[j]at q;cases q) h
 case index a b c=>exact A (fun G b q=>by rw[j]at q;cases q) h
 case extract a b=>exact A (fun G b q=>by rw[j]at q;cases q) h
 case call c=>
  split at h
  ·split at h
   ·rename_i v l;exact⟨_,_,_,h,aAL j l⟩
   ·exact A (fun G b q=>by rw[j]at q;cases q) h
  ·split at h
   ·rename_i _ Y _ g bs cp p;obtain⟨v,U,rd,h1,h2⟩:=SG (all:=all) hC I h;refine⟨v,U,rd,h1,h2 o τ ?_⟩;intro ρ a w τ0 hM hl;cases D:c.callee with
    |builtin b=>exact absurd D (Y b)
    |invoke r m=>rw[D]at p;simp[callee]at p
    |value f=>
     rw[D]at p;have H:=cZ hM f;rw[bQ hl (by simp[j,Op.operands,Call.operands,D])]at H;have ha:dN ρ (c.args.toList.map (iL τ))=some (c.args.toList.map a.eval):=pU hM hl _ fun x u=>by
      simp only[j,Op.operands,Call.operands];exact Array.mem_append.2 (.inr (by simpa using u))
     simp only[callee]at p;split at p
     ·rename_i Z N O V;simp only[zL.injEq,Prod.mk.injEq]at p;obtain⟨e1,e2,Q⟩:=p;subst e1 e2 Q;rw[V]at H;have H:a.eval f=.func (.func Z) N O:=by simpa[gD]using H.symm
      refine⟨N.toList++c.args.toList.map a.eval++O.toList,fC (fC (gI _) ha) (gI _),?_⟩;simp only[execOp,j,resolve,D,H,Deferred.ofValue,Sem.run_bind,Sem.run_pure,Result.andThen_ok,invoke];congr 2;apply acZ.1;simp
     ·rename_i Z N O V;simp only[zL.injEq,Prod.mk.injEq]at p;obtain⟨e1,e2,Q⟩:=p;subst e1 e2 Q;rw[V]at H;simp only[gD,zK,zG]at H;obtain⟨vb,q1,vc,q2,q3⟩:=H;refine⟨vb++c.args.toList.map a.eval++vc,fC (fC (by rw[sY];exact q1) ha) (by rw[sY];exact q2),?_⟩;simp only[execOp,j,resolve,D,<-q3,Deferred.ofValue,Sem.run_bind,Sem.run_pure,Result.andThen_ok,invoke];congr 2;apply acZ.1;simp
     ·cases p
   ·cases h
 all_goals cases h
end
end
end Ev
namespace Ev
open Go.RowKit
def fY(all:List Oper)(τ:List AV)(o:Oper):Bool:=
 match o.guard with
 |none=>true
 |some (j,want)=>match KG all j with
  |none=>false
  |some d=>match dR τ d with
   | .v (.bool b)=>b==want
   |_=>false
theorem Vw(ops:Array Oper)(j:Nat):KG ops.toList j=(ops[j]?).bind (·.dst):=by
 unfold KG;rw[Array.getElem?_toList];cases ops[j]?<;>rfl
theorem Ia(ops:Array Oper){ρ:gP}{τ:List AV}{a:Act}(t:MT ρ τ a)(o:Oper):Region.wanted o (yielded ops a.tmps)=fY ops.toList τ o:=by
 unfold Region.wanted fY;cases w:o.guard with
 |none=>rfl
 |some q=>
  obtain⟨j,m⟩:=q;simp only[Vw,yielded];cases u:(ops[j]?).bind (·.dst)with
  |none=>rfl
  |some d=>
   simp only[yL];have h:=IC t d;cases k:a.tmps[d]? with
   |none=>
    have i:a.tmps.getD d undef=undef:=by simp[k]
    rw[i]at h;cases g:dR τ d with
    |v x=>
     rw[g]at h;simp only[gD,zL.injEq]at h;subst h;rfl
    |p n off=>rfl
    |c f b c=>rfl
    |s n off l c=>rfl
   |some x=>
    have i:a.tmps.getD d undef=x:=by simp[k]
    rw[i]at h;cases g:dR τ d with
    |v y=>
     rw[g]at h;simp only[gD,zL.injEq]at h;subst h;cases y<;>simp
    |p n off=>
     rw[g]at h;simp only[gD,zG]at h;obtain⟨b,_,e⟩:=h;subst e;rfl
    |c f b c=>
     rw[g]at h;simp only[gD,zK,zG]at h;obtain⟨y,_,z,_,r⟩:=h;subst r;rfl
    |s n off l c=>
     rw[g]at h;simp only[gD,zG]at h;obtain⟨b,_,e⟩:=h;subst e;rfl
theorem OR{all:List Oper}{τ b:List AV}{o:Oper}(h:∀t∈looks all o,dR b t=dR τ t):fY all b o=fY all τ o:=by
 unfold fY;cases f:o.guard with
 |none=>rfl
 |some c=>
  obtain⟨j,a⟩:=c
  (try dsimp only)
  cases e:KG all j with
  |none=>rfl
  |some d=>
   (try dsimp only)
   rw[h d (by simp[looks,f,e])]
section
variable {P : Program}
def Ca[Gl](P:Program)(all:List Oper)(o:Oper)(τ:List AV)(L:cD)(v:AV)(U:cD)(rd:List Nm):Prop:=
 (fY all τ o=true/\DL P all o τ L v U rd)\/(fY all τ o=false/\v=.v undef/\U=[]/\rd=[])
inductive Rec [Gl] (P:Program) (all:List Oper):List Oper->List AV->cD->List (AV×cD×List Nm)->List AV->cD->Prop
 |nil (τ:List AV) (L:cD):Rec P all [] τ L [] τ L
 |cons {o:Oper} {rest:List Oper} {τ:List AV} {L:cD} {v:AV} {U:cD} {rd:List Nm} {ds:List (AV×cD×List Nm)} {τf:List AV} {Lf:cD}
   (h:Ca P all o τ L v U rd) (k:Rec P all rest (EO τ o.dst v) (U++L) ds τf Lf):Rec P all (o::rest) τ L ((v,U,rd)::ds) τf Lf
def sH(d:AV×cD×List Nm):Foot:=⟨d.2.2,eX d.2.1⟩
theorem CM{τ:List AV}{d:Nat}{x:AV}(h:τ[d]? =some x):τ.set d x=τ:=by
 apply List.ext_getElem (by simp);intro i b a;rw[List.getElem_set];split
 ·rename_i e;subst e;rw[List.getElem?_eq_getElem a]at h;exact(zL.inj h).symm
 ·rfl
section
variable {α : Type} {E : List (TypeId × Nat)} {C : List FuncId} {call : FuncId -> List AV -> cD -> Nm -> (AV -> cD -> Option α) -> Option α}
theorem tJ[Gl]{all:List Oper}(B:∀e∈E,oT P e)(A:∀g∈C,gU P g)(a:IW P call){fin:List Foot->Bool}{base:Nm}{k:List AV->cD->Option α}{r:α}:
  ∀(rest:List Oper) (i:Nat) (τ:List AV) (L:cD) (n:List Foot),FI P E C call all fin base rest i τ L n k=some r->
   ∃f l c,Rec P all rest τ L f l c/\fin (n++f.map sH)=true/\k l c=some r
 | [],i,τ,L,n,h=>by
  unfold FI at h;cases D:fin n with
  |false=>rw[D]at h;cases h
  |true=>rw[D]at h;exact⟨[],τ,L,.nil τ L,by simpa using D,h⟩
 |o::rest,i,τ,L,n,h=>by
  have go:fY all τ o=true->(y7 P E C call o τ L (i::base) fun v U rd=>FI P E C call all fin base rest (i+1) (EO τ o.dst v) (U++L) (n++[⟨rd,eX U⟩]) k)=some r->
    ∃f l c,Rec P all (o::rest) τ L f l c/\fin (n++f.map sH)=true/\k l c=some r:=fun p m=>by
   obtain⟨v,U,rd,I,J⟩:=El (all:=all) B A a m;obtain⟨f,l,c,u,w,z⟩:=tJ B A a rest _ _ _ _ I;exact⟨(v,U,rd)::f,l,c,.cons (.inl ⟨p,J⟩) u,by simpa[sH]using w,z⟩
  have no:fY all τ o=false->FI P E C call all fin base rest (i+1) (EO τ o.dst (.v undef)) L (n++[⟨[],[]⟩]) k=some r->
    ∃f l c,Rec P all (o::rest) τ L f l c/\fin (n++f.map sH)=true/\k l c=some r:=fun p m=>by
   obtain⟨f,l,c,u,w,z⟩:=tJ B A a rest _ _ _ _ m;exact⟨(.v undef,[],[])::f,l,c,.cons (.inr ⟨p,rfl,rfl,rfl⟩) u,by simpa[sH,eX]using w,z⟩
  unfold FI at h;dsimp only at h;cases m:o.guard with
  |none=>
   rw[m]at h;exact go (by unfold fY;rw[m]) h
  |some H=>
   obtain⟨j,q⟩:=H;rw[m]at h;dsimp only at h;cases s:KG all j with
   |none=>
    rw[s]at h;exact no (by unfold fY;rw[m];dsimp only;rw[s]) h
   |some d=>
    rw[s]at h;dsimp only at h;split at h
    ·rename_i b t;have G:dR τ d=.v (.bool b):=by unfold dR;rw[t]
     have p:fY all τ o=(b==q):=by
      unfold fY;rw[m];dsimp only;rw[s];dsimp only;rw[G]
     cases b<;>cases q<;>simp only[cond_true,cond_false,CM t]at h
     ·exact go (by rw[p];rfl) h
     ·exact no (by rw[p];rfl) h
     ·exact no (by rw[p];rfl) h
     ·exact go (by rw[p];rfl) h
    ·rename_i t;refine no ?_ h;unfold fY;rw[m];dsimp only;rw[s];dsimp only;unfold dR;cases K:τ[d]? with
     |none=>rfl
     |some x=>
      cases x with
      |v y=>cases y with
       |bool b=>exact absurd K (t b)
       |_=>rfl
      |_=>rfl
end
theorem QX[Gl]{ops:Array Oper}{i:Nat}{o:Oper}(r:ops[i]? =some o){τ:List AV}{L:cD}{v:AV}{U:cD}{rd:List Nm}(h:Ca P ops.toList o τ L v U rd)
  {ρ:gP}{a:Act}{w:World}{e:List AV}{c:cD}(d:MT ρ e a)(m:∀t∈looks ops.toList o,dR e t=dR τ t)(l:ML ρ c w)(f:∀n,n∈rd\/n∈eX U->fP c n=fP L n)
  {K:Act->World->Prop}{Q:Exit->Act->World->Prop}(k:∀b a' w',Nxt ρ w b w'->MT b (EO e o.dst v) a'->ML b (U++c) w'->K a' w'):wpOp P ops Q i K a w:=by
 unfold wpOp;simp only[r];rw[Ia ops d o,OR m];rcases h with⟨g,s⟩|⟨g,rfl,rfl,rfl⟩
 ·rw[g,if_pos rfl];exact .inl (s ρ a w e c d m l f K Q fun b w' u j p q=>k b _ w' j ((d.ext j.ext).put o.dst p) q)
 ·rw[g,if_neg (by simp)];exact k ρ _ w (Nxt.refl ρ w) (d.put o.dst (x:=.v undef) rfl) (by simpa using l)
theorem Hs[Gl]{ops:Array Oper}{Q:Exit->Act->World->Prop}:∀{rest:List Oper} {τ:List AV} {L:cD} {e:List (AV×cD×List Nm)} {d:List AV} {b:cD},Rec P ops.toList rest τ L e d b->∀i,ops.toList.drop i=rest->
  ∀{ρ:gP} {a:Act} {w:World},MT ρ τ a->ML ρ L w->(∀c a' w',Nxt ρ w c w'->MT c d a'->ML c b w'->Q .normal a' w')->wpOps P ops Q (List.range' i rest.length) a w:=by
 intro rest τ L e d b h;induction h with
 |nil τ L=>intro i _ ρ a w g f j;exact j ρ a w (Nxt.refl ρ w) g f
 | @cons o rest τ L v U rd e d b r _ s=>
  intro i hi ρ a w g f j;rw[List.length_cons,List.range'_succ,wpOps_cons];have p:ops[i]? =some o:=by
   have:(ops.toList.drop i)[0]? =some o:=by rw[hi];rfl
   rw[List.getElem?_drop]at this;simpa using this
  have q:ops.toList.drop (i+1)=rest:=by
   have:(ops.toList.drop i).drop 1=rest:=by rw[hi];rfl
   rw[List.drop_drop]at this;exact this
  exact QX p r g (fun _ _=>rfl) f (fun _ _=>rfl) fun c a' w' l m n=>s (i+1) q m n fun z k y t u x=>j z k y (l.trans t) u x
def fo{X:Type}(D:Nat->Bool):Nat->List (Option X)->X->X
 |_,[],b=>b
 |i,u::us,b=>fo D (i+1) us (cond (D i) (u.getD b) b)
theorem lM{X:Type}{D a:Nat->Bool}:∀(us:List (Option X)) (i:Nat) (b:X),(∀j,j<us.length->D (i+j)≠a (i+j)->us[j]? =some none)->fo D i us b=fo a i us b
 | [],_,_,_=>rfl
 |u::us,i,b,h=>by
  unfold fo;have d:=h 0 (by simp);simp only[xZ,List.getElem?_cons_zero,zL.injEq]at d;have e:cond (D i) (u.getD b) b=cond (a i) (u.getD b) b:=by
   by_cases f:D i=a i
   ·rw[f]
   ·rw[d f];cases D i<;>cases a i<;>rfl
  rw[e];refine lM us (i+1) _ fun j g c=>?_;have:=h (j+1) (by simp;omega) (by rw[show i+(j+1)=i+1+j by omega];exact c);simpa using this
theorem uL{X:Type}{D:Nat->Bool}:∀(us:List (Option X)) (i:Nat) (b:X),(∀j,j<us.length->D (i+j)=true->us[j]? =some none)->fo D i us b=b
 | [],_,_,_=>rfl
 |u::us,i,b,h=>by
  unfold fo;have c:=h 0 (by simp);simp only[xZ,List.getElem?_cons_zero,zL.injEq]at c;have e:cond (D i) (u.getD b) b=b:=by
   cases d:D i with
   |false=>rfl
   |true=>rw[c d];rfl
  rw[e];refine uL us (i+1) _ fun j f a=>?_;have:=h (j+1) (by simp;omega) (by rw[show i+(j+1)=i+1+j by omega];exact a);simpa using this
theorem tL{X:Type}{D:Nat->Bool}:∀(us:List (Option X)) (i:Nat) (b:X),fo D (i+1) us b=fo (fun x=>D (x+1)) i us b
 | [],_,_=>rfl
 |u::us,i,b=>by
  unfold fo;exact tL us (i+1) _
theorem Ez{X:Type}{D d:Nat->Bool}{p:Nat}(f:∀j,j≠p->d j=D j)(k:d p=true)(l:D p=false):∀(us:List (Option X)) (i:Nat) (b:X) (u:Option X),i<=p->us[p-i]? =some u->
  (∀j,p<j->j-i<us.length->D j=true->u.isSome=true->us[j-i]? =some none)->fo d i us b=u.getD (fo D i us b)
 | [],i,b,u,_,a,_=>by simp at a
 |x::us,i,b,u,hi,a,m=>by
  by_cases e:i=p
  ·subst e;simp only[Nat.sub_self,List.getElem?_cons_zero,zL.injEq]at a;subst a;unfold fo;rw[k,l];simp only[cond_true,cond_false];have o:∀c,fo d (i+1) us c=fo D (i+1) us c:=fun c=>lM us (i+1) c fun j _ h=>absurd (f (i+1+j) (by omega)) h;rw[o];cases x with
   |none=>rfl
   |some y=>
    simp only[Option.getD_some];refine uL us (i+1) y fun j n g=>?_;have:=m (i+1+j) (by omega) (by simp;omega) g rfl;rw[show i+1+j-i=j+1 by omega]at this;simpa using this
  ·unfold fo;rw[f i e];refine Ez f k l us (i+1) _ u (by omega) ?_ ?_
   ·rw[show p-i=(p-(i+1))+1 by omega]at a;simpa using a
   ·intro j n q g r;have:=m j n (by simp;omega) g r;rw[show j-i=(j-(i+1))+1 by omega]at this;simpa using this
def Ru(len t:Nat)(ops:List Oper)(ds:List (AV×cD×List Nm)):List (Option AV):=(ops.zip ds).map fun q=>if q.1.dst=some t/\t<len then some q.2.1 else none
def Rt(n:Nm)(ds:List (AV×cD×List Nm)):List (Option (Option Blk)):=ds.map fun d=>(fP d.2.1 n).map some
theorem KX(τ:List AV)(d:Option Tmp)(v:AV)(t:Nat):dR (EO τ d v) t=(if d=some t/\t<τ.length then some v else none).getD (dR τ t):=by
 cases d with
 |none=>simp[EO]
 |some d=>
  simp only[EO,dR,List.getElem?_set,zL.injEq];by_cases h:d=t
  ·subst h;by_cases a:d<τ.length
   ·simp[a]
   ·simp[a]
  ·simp[h]
theorem oD(τ:List AV)(d:Option Tmp)(v:AV):(EO τ d v).length=τ.length:=by cases d<;>simp[EO]
theorem SW(U L:cD)(n:Nm):fP (U++L) n=((fP U n).map some).getD (fP L n):=by
 rw[wV];cases fP U n<;>rfl
theorem Rec.facts[Gl]{all ops:List Oper}{τ:List AV}{L:cD}{a:List (AV×cD×List Nm)}{d:List AV}{f:cD}(h:Rec P all ops τ L a d f):
  a.length=ops.length/\d.length=τ.length/\
  (∀j o,ops[j]? =some o->∃v U rd e c,a[j]? =some (v,U,rd)/\Ca P all o e c v U rd/\
   (∀t,dR e t=fo (fun x=>decide (x<j)) 0 (Ru τ.length t ops a) (dR τ t))/\(∀n,fP c n=fo (fun x=>decide (x<j)) 0 (Rt n a) (fP L n)))/\
  (∀t,dR d t=fo (fun _=>true) 0 (Ru τ.length t ops a) (dR τ t))/\(∀n,fP f n=fo (fun _=>true) 0 (Rt n a) (fP L n)):=by
 induction h with
 |nil τ L=>exact⟨rfl,rfl,fun j o b=>by simp at b,fun t=>rfl,fun n=>rfl⟩
 | @cons o rest τ L v U rd a d f k _ s=>
  obtain⟨l,m,p,q,r⟩:=s;refine⟨by simp[l],by rw[m,oD],?_,?_,?_⟩
  ·intro j A b;cases j with
   |zero=>
    simp only[List.getElem?_cons_zero,zL.injEq]at b;subst b;refine⟨v,U,rd,τ,L,rfl,k,fun t=>?_,fun n=>?_⟩
    ·exact(uL _ _ _ fun j _ h=>by simp at h).symm
    ·exact(uL _ _ _ fun j _ h=>by simp at h).symm
   |succ j=>
    simp only[List.getElem?_cons_succ]at b;obtain⟨B,i,g,e,c,u,w,y,z⟩:=p j A b;refine⟨B,i,g,e,c,by simpa using u,w,fun t=>?_,fun n=>?_⟩
    ·rw[y t,KX,oD];simp only[Ru,List.zip_cons_cons,xY,fo];rw[tL];simp
    ·rw[z n,SW];simp only[Rt,xY,fo];rw[tL];simp
  ·intro t;rw[q t,KX,oD];simp only[Ru,List.zip_cons_cons,xY,fo];rw[tL];simp
  ·intro n;rw[r n,SW];simp only[Rt,xY,fo];rw[tL];simp
theorem ZU{all:List Oper}{i:Nat}{x:Oper}{d:Foot}:∀{l:List Oper} {c:List Foot} {j:Nat},Mw all i x d j l c=true->∀{k:Nat} {y:Oper} {f:Foot},l[k]? =some y->c[k]? =some f->wZ all i (j+k) x y d f=true
 | [],_,_,_,k,y,f,a,_=>by simp at a
 |_::_,[],_,_,k,y,f,_,b=>by simp at b
 |y'::l,e::c,j,h,k,y,f,a,b=>by
  simp only[Mw,Bool.and_eq_true]at h;cases k with
  |zero=>
   simp only[List.getElem?_cons_zero,zL.injEq]at a b;subst a b;exact h.1
  |succ k=>
   simp only[List.getElem?_cons_succ]at a b;have:=ZU h.2 a b;rw[show j+1+k=j+(k+1) by omega]at this;exact this
theorem JE{all:List Oper}:∀{l:List Oper} {n:List Foot} {i:Nat},UQ all i l n=true->∀{k:Nat} {x:Oper} {f:Foot},l[k]? =some x->n[k]? =some f->
  (∀e∈x.after,Region.binds .any e=true->e.on<i+k)/\∀{m:Nat} {y:Oper} {g:Foot},k<m->l[m]? =some y->n[m]? =some g->wZ all (i+k) (i+m) x y f g=true
 | [],_,_,_,k,x,f,b,_=>by simp at b
 |_::_,[],_,_,k,x,f,_,c=>by simp at c
 |x'::l,v::n,i,h,k,x,f,b,c=>by
  simp only[UQ,Bool.and_eq_true]at h;obtain⟨⟨p,q⟩,r⟩:=h;cases k with
  |zero=>
   simp only[List.getElem?_cons_zero,zL.injEq]at b c;subst b c;refine⟨fun e o a=>?_,fun {m y g} s d j=>?_⟩
   ·rw[yH]at p;have:=p e (by simpa using o);rw[a]at this;simp only[Bool.not_true,Bool.false_or]at this;exact yG this
   ·cases m with
    |zero=>omega
    |succ m=>
     simp only[List.getElem?_cons_succ]at d j;have:=ZU q d j;rw[show i+1+m=i+(m+1) by omega]at this;exact this
  |succ k=>
   simp only[List.getElem?_cons_succ]at b c;obtain⟨t,u⟩:=JE r b c;refine⟨fun e o a=>by have:=t e o a;omega,fun {m y g} s d j=>?_⟩;cases m with
   |zero=>omega
   |succ m=>
    simp only[List.getElem?_cons_succ]at d j;have:=u (by omega) d j;rw[show i+1+k=i+(k+1) by omega,show i+1+m=i+(m+1) by omega]at this;exact this
theorem pZ{a b:List Nm}:LZ a b=true↔∀n∈a,n∉b:=by
 unfold LZ;rw[yH];constructor
 ·intro h n d c;have:=h n d;rw[mJ.2 c]at this;cases this
 ·intro h n d;cases c:PP b n with
  |false=>rfl
  |true=>exact absurd (mJ.1 c) (h n d)
theorem XS{l:List Nat}{n:Nat}:aDg l n=true↔n∈l:=by
 unfold aDg;rw[yN];constructor
 ·rintro⟨x,a,h⟩;have:n=x:=zQ h;exact this ▸ a
 ·intro h;exact⟨n,h,Nat.beq_refl n⟩
theorem rR{all:List Oper}{D:Nat->Prop}{i:Nat}(b:∀j o,all[j]? =some o->D j->∀e∈o.after,Region.binds .any e=true->D e.on):∀(n j:Nat),nO all n i j=true->D j->D i
 | 0,_,h,_=>by simp[nO]at h
 |n+1,j,h,f=>by
  unfold nO at h;split at h
  ·rename_i o g;rw[yN]at h;obtain⟨e,d,a⟩:=h;simp only[Bool.and_eq_true,Bool.or_eq_true]at a;have c:=b j o g f e (by simpa using d) a.1;rcases a.2 with h3|h3
   ·have:e.on=i:=zQ h3;exact this ▸ c
   ·exact rR b n e.on h3.2 c
  ·cases h
theorem Bh{all:List Oper}{D:Nat->Prop}{i j:Nat}{o:Oper}(f:all[j]? =some o)(c:∀j o,all[j]? =some o->D j->∀e∈o.after,Region.binds .any e=true->D e.on)
  (g:∀e∈o.after,Region.binds .any e=true->D e.on):∀n,nO all n i j=true->D i
 | 0,h=>by simp[nO]at h
 |n+1,h=>by
  unfold nO at h;rw[f]at h;simp only[yN]at h;obtain⟨e,d,a⟩:=h;simp only[Bool.and_eq_true,Bool.or_eq_true]at a;have b:=g e (by simpa using d) a.1;rcases a.2 with h3|h3
  ·have:e.on=i:=zQ h3;exact this ▸ b
  ·exact rR c n e.on h3.2 b
end
end Ev
namespace Ev
open Go.RowKit
section
variable {P : Program}
theorem Gg{ops:Array Oper}{a:Array Bool}(m:a.size=ops.size)(b:∀k x,ops[k]? =some x->∀e∈x.after,Region.binds .any e=true->e.on<k)
  (h:Region.ready .any ops a=[]):∀k,k<ops.size->a.getD k false=true:=by
 intro k;induction k using Nat.strongRecOn with
 |_ k n=>
  intro l;have g:ops[k]? =some ops[k]:=Array.getElem?_eq_getElem l;cases c:a.getD k true with
  |false=>
   exfalso;have:k∈Region.ready .any ops a:=mem_ready.2 ⟨c,ops[k],g,fun e j i=>by
    have f:=b k _ g e j i;exact n e.on f (by omega)⟩
   rw[h]at this;cases this
  |true=>
   have d:k<a.size:=by omega
   simp[d]at c ⊢;exact c
theorem WV[Gl]{ops:Array Oper}{τ:List AV}{L:cD}{l:List (AV×cD×List Nm)}{τf:List AV}{Lf:cD}(b8:Rec P ops.toList ops.toList τ L l τf Lf)
  (b7:UQ ops.toList 0 ops.toList (l.map sH)=true){ρ:gP}{a:Act}{w:World}(hM:MT ρ τ a)(hL:ML ρ L w){Q:Exit->Act->World->Prop}
  (hQ:∀ρ' a' w',Nxt ρ w ρ' w'->MT ρ' τf a'->ML ρ' Lf w'->Q .normal a' w'):wpAny P .any ops Q ops.size (qS ops.size false) a w:=by
 obtain⟨f1,f2,f3,f4,f5⟩:=b8.facts;have d7:l.length=ops.size:=by simpa using f1
 have u:∀{k:Nat} {d:AV×cD×List Nm},l[k]? =some d->(l.map sH)[k]? =some (sH d):=fun h=>by simp[h]
 have a6:∀k x,ops[k]? =some x->∀e∈x.after,Region.binds .any e=true->e.on<k:=fun k x hx e he hb=>by
  have H:ops.toList[k]? =some x:=by simpa using hx
  obtain⟨v,U,rd,τj,Lj,k1,_⟩:=f3 k x H;have:=(JE b7 H (u k1)).1 e he hb;omega
 have B:∀i j x y Z g,i<j->ops[i]? =some x->ops[j]? =some y->l[i]? =some Z->l[j]? =some g->wZ ops.toList i j x y (sH Z) (sH g)=true:=fun i j x y Z g c5 hx hy J h2=>by
  have H:ops.toList[i]? =some x:=by simpa using hx
  have d5:ops.toList[j]? =some y:=by simpa using hy
  have:=(JE b7 H (u J)).2 c5 d5 (u h2);simpa using this
 have d6:∀(fuel:Nat) (b:Array Bool) (a₁:Act) (w₁:World),b.size=ops.size->((qL ops.size).filter fun i=> !b.getD i false).length<=fuel->
   (∀j o,ops.toList[j]? =some o->b.getD j false=true->∀e∈o.after,Region.binds .any e=true->b.getD e.on false=true)->
   (∃ρ₁ τ₁ L₁,Nxt ρ w ρ₁ w₁/\MT ρ₁ τ₁ a₁/\τ₁.length=τ.length/\(∀t,dR τ₁ t=fo (fun j=>b.getD j false) 0 (Ru τ.length t ops.toList l) (dR τ t))/\
    ML ρ₁ L₁ w₁/\(∀n,fP L₁ n=fo (fun j=>b.getD j false) 0 (Rt n l) (fP L n)))->wpAny P .any ops Q fuel b a₁ w₁:=by
  intro fuel;induction fuel with
  |zero=>
   intro b a₁ w₁ b0 c0 a5 R;have m:∀k,k<ops.size->b.getD k false=true:=fun k hk=>by
    cases K:b.getD k false with
    |true=>rfl
    |false=>
     have:k∈(qL ops.size).filter fun i=> !b.getD i false:=List.mem_filter.2 ⟨xW.2 hk,by simp only[K];rfl⟩;have h0:((qL ops.size).filter fun i=> !b.getD i false)=[]:=List.length_eq_zero_iff.1 (by omega);rw[h0]at this;cases this
   have a9:Region.ready .any ops b=[]:=by
    cases O:Region.ready .any ops b with
    |nil=>rfl
    |cons x xs=>
     have:x∈Region.ready .any ops b:=by rw[O];exact zH
     obtain⟨J,o,N,_⟩:=mem_ready.1 this;have hx:x<ops.size:=(Array.getElem?_eq_some_iff.1 N).1;have:=m x hx;have H:x<b.size:=by omega
     simp[H]at J this;rw[J]at this;cases this
   refine⟨a9,?_⟩;obtain⟨ρ₁,τ₁,L₁,g1,g2,g3,g4,g5,g6⟩:=R;refine hQ ρ₁ a₁ w₁ g1 (g2.of_get (by rw[f2,g3]) fun t=>?_) (g5.congr fun n=>?_)
   ·rw[f4 t,g4 t];refine lM _ _ _ fun j f c=>absurd ?_ c;simp only[Ru,qC,List.length_zip]at f;have:=m j (by simp at f;omega);simp only[qP];exact this.symm
   ·rw[f5 n,g6 n];refine lM _ _ _ fun j f c=>absurd ?_ c;simp only[Rt,qC]at f;have:=m j (by omega);simp only[qP];exact this.symm
  |succ fuel ih=>
   intro b a₁ w₁ b0 c0 a5 R;refine⟨fun a9=>?_,fun i hi=>?_⟩
   ·have m:=Gg b0 a6 a9;obtain⟨ρ₁,τ₁,L₁,g1,g2,g3,g4,g5,g6⟩:=R;refine hQ ρ₁ a₁ w₁ g1 (g2.of_get (by rw[f2,g3]) fun t=>?_) (g5.congr fun n=>?_)
    ·rw[f4 t,g4 t];refine lM _ _ _ fun j f c=>absurd ?_ c;simp only[Ru,qC,List.length_zip]at f;have:=m j (by simp at f;omega);simp only[qP];exact this.symm
    ·rw[f5 n,g6 n];refine lM _ _ _ fun j f c=>absurd ?_ c;simp only[Rt,qC]at f;have:=m j (by omega);simp only[qP];exact this.symm
   ·obtain⟨b9,o,N,a1⟩:=mem_ready.1 hi;have c4:i<ops.size:=(Array.getElem?_eq_some_iff.1 N).1;have b4:i<b.size:=by omega
    have s:b.getD i false=false:=by simp[b4]at b9 ⊢;exact b9
    have a7:ops.toList[i]? =some o:=by simpa using N
    obtain⟨v,U,rd,τi,Li,k1,k2,k3,k4⟩:=f3 i o a7;obtain⟨ρ₁,τ₁,L₁,g1,g2,g3,g4,g5,g6⟩:=R;have a0:∀j o,ops.toList[j]? =some o->(fun j=>b.getD j false=true) j->∀e∈o.after,Region.binds .any e=true->(fun j=>b.getD j false=true) e.on:=a5;have d0:∀j n,b.getD j false=false->nO ops.toList n j i=true->False:=fun j n f V=>by
     have:=Bh (D:=fun j=>b.getD j false=true) a7 a0 a1 n V;rw[f]at this;cases this
    have b6:∀j n,b.getD j false=true->nO ops.toList n i j=true->False:=fun j n f V=>by
     have:=rR (D:=fun j=>b.getD j false=true) a0 n j V f;rw[s]at this;cases this
    have a4:∀j y g,ops[j]? =some y->l[j]? =some g->b.getD j false≠decide (j<i)->
      (∀d,y.dst=some d->d∉looks ops.toList o)/\(∀n,n∈rd\/n∈eX U->n∉eX g.2.1):=by
     intro j y g hy b3 c;have c8:j≠i:=fun e=>by rw[e,s]at c;simp at c
     have Y:∀(p q:Nat) (x z:Oper) (Z dz:AV×cD×List Nm),wZ ops.toList p q x z (sH Z) (sH dz)=true->nO ops.toList 24 p q=false->
       (∀d,x.dst=some d->d∉looks ops.toList z)/\(∀d,z.dst=some d->d∉looks ops.toList x)/\pA (sH Z) (sH dz)=true:=by
      intro p q x z Z dz A V;unfold wZ at A;cases hs:UB x.dst z.dst with
      |true=>rw[hs]at A;cases A
      |false=>
       rw[hs,V]at A;simp only[cond_false]at A;cases hc:(!PE x.dst (looks ops.toList z)&& !PE z.dst (looks ops.toList x)&&pA (sH Z) (sH dz))with
       |false=>rw[hc]at A;cases A
       |true=>
        simp only[Bool.and_eq_true,Bool.not_eq_true']at hc;refine⟨fun d K M=>?_,fun d K M=>?_,hc.2⟩
        ·have:=hc.1.1;rw[K]at this;simp only[PE]at this;rw[XS.2 M]at this;cases this
        ·have:=hc.1.2;rw[K]at this;simp only[PE]at this;rw[XS.2 M]at this;cases this
     rcases Nat.lt_or_gt_of_ne c8 with r|hgt
     ·have c7:b.getD j false=false:=by
       cases O:b.getD j false with
       |false=>rfl
       |true=>rw[O]at c;simp[r]at c
      have A:=B j i y o g (v,U,rd) r hy N b3 k1;have V:nO ops.toList 24 j i=false:=by
       cases O:nO ops.toList 24 j i with
       |false=>rfl
       |true=>exact(d0 j 24 c7 O).elim
      obtain⟨c1,c2,c3⟩:=Y j i y o g (v,U,rd) A V;refine⟨c1,fun n hn M=>?_⟩;simp only[pA,Bool.and_eq_true,sH]at c3;obtain⟨⟨d1,d2⟩,d3⟩:=c3;rcases hn with hn|hn
      ·exact pZ.1 d1 n M hn
      ·exact pZ.1 d2 n M hn
     ·have c9:b.getD j false=true:=by
       cases O:b.getD j false with
       |true=>rfl
       |false=>rw[O]at c;simp[show ¬j<i by omega]at c
      have A:=B i j o y (v,U,rd) g hgt N hy k1 b3;have V:nO ops.toList 24 i j=false:=by
       cases O:nO ops.toList 24 i j with
       |false=>rfl
       |true=>exact(b6 j 24 c9 O).elim
      obtain⟨c1,c2,c3⟩:=Y i j o y (v,U,rd) g A V;refine⟨c2,fun n hn M=>?_⟩;simp only[pA,Bool.and_eq_true,sH]at c3;obtain⟨⟨d1,d2⟩,d3⟩:=c3;rcases hn with hn|hn
      ·exact pZ.1 d3 n M hn
      ·exact pZ.1 d2 n hn M
    have a3:∀t j,j<(Ru τ.length t ops.toList l).length->∃y g,ops[j]? =some y/\l[j]? =some g/\(Ru τ.length t ops.toList l)[j]? =some (if y.dst=some t/\t<τ.length then some g.1 else none):=by
     intro t j f;simp only[Ru,qC,List.length_zip]at f;have J:j<ops.size:=by simp at f;omega
     have h2:j<l.length:=by omega
     refine⟨ops[j],l[j],Array.getElem?_eq_getElem J,List.getElem?_eq_getElem h2,?_⟩;have hz:(ops.toList.zip l)[j]? =some (ops[j],l[j]):=by
      rw[List.getElem?_zip_eq_some];exact⟨by simp[J],by simp[h2]⟩
     unfold Ru;rw[List.getElem?_map,hz];rfl
    have a2:∀n j,j<(Rt n l).length->∃y g,ops[j]? =some y/\l[j]? =some g/\(Rt n l)[j]? =some ((fP g.2.1 n).map some):=by
     intro n j f;simp only[Rt,qC]at f;have J:j<ops.size:=by omega
     refine⟨ops[j],l[j],Array.getElem?_eq_getElem J,List.getElem?_eq_getElem f,?_⟩;simp[Rt,f]
    have b2:∀t∈looks ops.toList o,dR τ₁ t=dR τi t:=fun t ht=>by
     rw[g4 t,k3 t];refine lM _ _ _ fun j f c=>?_;simp only[qP]at c;obtain⟨y,g,q1,X,q3⟩:=a3 t j f;rw[q3,if_neg];rintro⟨e,_⟩;exact(a4 j y g q1 X c).1 t e ht
    have b1:∀n,n∈rd\/n∈eX U->fP L₁ n=fP Li n:=fun n hn=>by
     rw[g6 n,k4 n];refine lM _ _ _ fun j f c=>?_;simp only[qP]at c;obtain⟨y,g,q1,X,q3⟩:=a2 n j f;rw[q3];have:=(a4 j y g q1 X c).2 n hn;rw[mI.2 this];rfl
    refine QX N k2 g2 b2 g5 b1 fun ρ' a' w' J h2 h3=>?_;have G:∀j,j≠i->(b.setIfInBounds i true).getD j false=b.getD j false:=fun j f=>getD_set_ne false (Ne.symm f);have E:(b.setIfInBounds i true).getD i false=true:=by simp[b4]
    refine ih _ a' w' (by simpa using b0) ?_ ?_ ?_
    ·have d8:((qL ops.size).filter fun k=> !(b.setIfInBounds i true).getD k false).length<((qL ops.size).filter fun k=> !b.getD k false).length:=by
      have e:((qL ops.size).filter fun k=> !(b.setIfInBounds i true).getD k false)=((qL ops.size).filter fun k=> !b.getD k false).filter (fun k=>k != i):=by
       rw[List.filter_filter];refine List.filter_congr fun k hk=>?_;by_cases e:k=i
       ·subst e;rw[E];simp
       ·rw[G k e];simp[e]
      rw[e];have b5:i∈(qL ops.size).filter fun k=> !b.getD k false:=List.mem_filter.2 ⟨xW.2 c4,by simp only[s];rfl⟩;exact List.length_filter_lt_length_iff_exists.2 ⟨i,b5,by simp⟩
     omega
    ·intro j y hy f e he hb;by_cases q:j=i
     ·subst q;have:y=o:=by rw[a7]at hy;exact(zL.inj hy).symm
      subst this;exact getD_set_true (a1 e he hb)
     ·rw[G j q]at f;exact getD_set_true (a5 j y hy f e he hb)
    ·refine⟨ρ',_,_,g1.trans J,h2,by rw[oD];exact g3,fun t=>?_,h3,fun n=>?_⟩
     ·rw[KX,g4 t,g3];have K:i<(Ru τ.length t ops.toList l).length:=by
       simp only[Ru,qC,List.length_zip];simp;omega
      obtain⟨y,g,q1,X,q3⟩:=a3 t i K;have e1:y=o:=by rw[N]at q1;exact(zL.inj q1).symm
      have e2:g=(v,U,rd):=by rw[k1]at X;exact(zL.inj X).symm
      subst e1 e2;symm;refine Ez (p:=i) (fun j f=>G j f) E s _ 0 _ _ (zO _) (by simpa using q3) fun j f r hD hs=>?_;simp only[Nat.sub_zero]at r ⊢;obtain⟨z,dz,p1,p2,p3⟩:=a3 t j r;rw[p3];split at hs
      ·rename_i hc;rw[if_neg];rintro⟨e,_⟩;have A:=B i j y z (v,U,rd) dz f N p1 k1 p2;unfold wZ at A;rw[hc.1,e]at A;simp[UB]at A
      ·cases hs
     ·rw[SW,g6 n];have K:i<(Rt n l).length:=by
       simp only[Rt,qC];omega
      obtain⟨y,g,q1,X,q3⟩:=a2 n i K;have e2:g=(v,U,rd):=by rw[k1]at X;exact(zL.inj X).symm
      subst e2;symm;refine Ez (p:=i) (fun j f=>G j f) E s _ 0 _ _ (zO _) (by simpa using q3) fun j f r hD hs=>?_;simp only[Nat.sub_zero]at r ⊢;obtain⟨z,dz,p1,p2,p3⟩:=a2 n j r;rw[p3];have c6:n∈eX U:=LK.2 (by simpa using hs);have c:b.getD j false≠decide (j<i):=by rw[hD];simp[show ¬j<i by omega]
      have:=(a4 j z dz p1 p2 c).2 n (.inr c6);rw[mI.2 this];rfl
 have I:∀j,(qS ops.size false).getD j false=false:=fun j=>by
  rw[Array.getD_eq_getD_getElem?,Array.getElem?_replicate];split<;>rfl
 refine d6 ops.size (qS ops.size false) a w (by simp) ?_ ?_ ⟨ρ,τ,L,Nxt.refl ρ w,hM,rfl,fun t=>?_,hL,fun n=>?_⟩
 ·refine zJ (List.length_filter_le _ _) ?_;simp
 ·intro j o f hl;rw[I j]at hl;cases hl
 ·refine(uL _ _ _ fun j f h=>?_).symm;rw[I]at h;cases h
 ·refine(uL _ _ _ fun j f h=>?_).symm;rw[I]at h;cases h
end
end Ev
namespace Ev
open Go.RowKit
section
variable {P : Program}
def RK[Gl](σ':St)(e:Ex)(ρ:gP)(w:World):Exit->Act->World->Prop:=fun e' a' w'=>e'=e.cv/\∃ρ',Nxt ρ w ρ' w'/\MT ρ' σ'.τ a'/\ML ρ' σ'.L w'
def aEc[Gl](P:Program)(c:Code)(σ:St)(e:Ex)(σ':St):Prop:=∀ρ a w,MT ρ σ.τ a->ML ρ σ.L w->c.wp P (RK σ' e ρ w) a w
theorem RK.trans[Gl]{c:St}{e:Ex}{ρ b:gP}{w a:World}(h:Nxt ρ w b a){e':Exit}{a':Act}{w':World}(k:RK c e b a e' a' w'):RK c e ρ w e' a' w':=by
 obtain⟨d,i,f,g⟩:=k;exact⟨d,i,h.trans f,g⟩
theorem XM{τ:List AV}{x:Operand}{b:Bool}(h:iL τ x=.v (.bool b)):fix τ x b=τ:=by
 cases x with
 |tmp t=>
  simp only[iL,dR]at h;cases a:τ[t]? with
  |none=>simp only[fix];exact List.set_eq_of_length_le (List.getElem?_eq_none_iff.1 a)
  |some y=>
   rw[a]at h;simp only at h;subst h;exact CM a
 |_=>rfl
section
variable {α : Type} {E : List (TypeId × Nat)} {C : List FuncId} {call : FuncId -> List AV -> cD -> Nm -> (AV -> cD -> Option α) -> Option α}
theorem LE[Gl]{b:Code}{F:(Ex->St->Option α)->St->Option α}(hF:∀k σ r,F k σ=some r->∃e c,k e c=some r/\aEc P b σ e c):
  ∀(n:Nat) (k:Ex->St->Option α) (σ:St) (r:α),Xn F n k σ=some r->∃e c,k e c=some r/\∀ρ a w,MT ρ σ.τ a->ML ρ σ.L w->Code.rounds P b (RK c e ρ w) n a w
 | 0,_,_,_,h=>by simp[Xn]at h
 |n+1,k,σ,r,h=>by
  unfold Xn at h;obtain⟨e1,A,o,p⟩:=hF _ _ _ h;cases e1 with
  |norm=>
   obtain⟨e,c,v,x⟩:=LE hF n k A r o;refine⟨e,c,v,fun ρ a w l j=>?_⟩;rw[rounds_succ];refine wp_mono (p ρ a w l j) fun m f g d=>?_;obtain⟨rfl,z,s,t,u⟩:=d;show Code.rounds P b (RK c e ρ w) n f g;have:=x z f g t u;exact rounds_mono n (fun m f g y=>RK.trans s y) f g this
  |ex i=>
   refine⟨_,_,o,fun ρ a w l j=>?_⟩;rw[rounds_succ];refine wp_mono (p ρ a w l j) fun m f g d=>?_;have q:=d.1;subst q;exact d
  |ret=>
   refine⟨_,_,o,fun ρ a w l j=>?_⟩;rw[rounds_succ];refine wp_mono (p ρ a w l j) fun m f g d=>?_;have q:=d.1;subst q;exact d
where
 rounds_mono {b:Code} {Q Q':Exit->Act->World->Prop}:∀(n:Nat),(∀e a w,Q e a w->Q' e a w)->∀a w,Code.rounds P b Q n a w->Code.rounds P b Q' n a w
  | 0,_,_,_,h=>h.elim
  |n+1,hq,a,w,h=>by
   rw[rounds_succ]at h ⊢
   refine wp_mono h fun e' a' w' hp=>?_
   cases e' with
   |normal=>exact rounds_mono n hq a' w' hp
   |_=>exact hq _ _ _ hp
theorem Pt[Gl](hm:P.follows .mixedOrders=true)(hE:∀e∈E,oT P e)(hC:∀g∈C,gU P g)(D:IW P call)(G:Nat):
  ∀(c:Code) (k:Ex->St->Option α) (σ:St) (r:α),UI P E C call G c k σ=some r->∃e A,k e A=some r/\aEc P c σ e A:=by
 intro c;induction c with
 |skip=>intro k σ r h;exact⟨.norm,σ,h,fun ρ a w d m=>wp_skip ⟨rfl,ρ,Nxt.refl ρ w,d,m⟩⟩
 |ret=>intro k σ r h;exact⟨.ret,σ,h,fun ρ a w d m=>wp_ret ⟨rfl,ρ,Nxt.refl ρ w,d,m⟩⟩
 |exit i=>intro k σ r h;exact⟨.ex i,σ,h,fun ρ a w d m=>wp_exit ⟨rfl,ρ,Nxt.refl ρ w,d,m⟩⟩
 |seq x y a0 a1=>
  intro k σ r h;unfold UI at h;obtain⟨e1,σ1,p,u⟩:=a0 _ _ _ h;cases e1 with
  |norm=>
   obtain⟨e,A,B,M⟩:=a1 _ _ _ p;refine⟨e,A,B,fun ρ a w d m=>wp_seq (wp_mono (u ρ a w d m) fun H o z n=>?_)⟩;obtain⟨rfl,U,J,K,L⟩:=n;exact wp_mono (M U o z K L) fun _ _ _ hq=>RK.trans J hq
  |ex i=>
   refine⟨_,_,p,fun ρ a w d m=>wp_seq (wp_mono (u ρ a w d m) fun H o z n=>?_)⟩;have v:=n.1;subst v;exact n
  |ret=>
   refine⟨_,_,p,fun ρ a w d m=>wp_seq (wp_mono (u ρ a w d m) fun H o z n=>?_)⟩;have v:=n.1;subst v;exact n
 |region id ops I=>
  intro k σ r h;unfold UI at h;obtain⟨ds,τf,Lf,p,u,B⟩:=tJ hE hC D _ _ _ _ _ h;refine⟨.norm,_,B,fun ρ a w d m=>?_⟩;cases I with
  |false=>
   refine wp_region ?_;have:=Hs (Q:=RK ⟨τf,Lf,σ.c+1,σ.pre⟩ .norm ρ w) p 0 (by simp) d m fun U o z J K L=>⟨rfl,U,J,K,L⟩;rw[List.range_eq_range'];simpa using this
  |true=>
   refine wp_region_any hm ?_;refine WV p (by simpa using u) d m.drew fun U o z J K L=>⟨rfl,U,Nxt.drew.trans J,K,L⟩
 |cond x a b O R=>
  intro k σ r h;unfold UI at h;split at h
  ·rename_i t X;cases t with
   |true=>
    rw[XM X]at h;simp only[cond_true]at h;obtain⟨e,A,B,M⟩:=O _ _ _ h;refine⟨e,A,B,fun ρ o w d m=>?_⟩;have N:=cZ d x;rw[X]at N;exact wp_cond_true (by simpa[gD]using N.symm) (M ρ o w d m)
   |false=>
    rw[XM X]at h;simp only[cond_false]at h;obtain⟨e,A,B,M⟩:=R _ _ _ h;refine⟨e,A,B,fun ρ o w d m=>?_⟩;have N:=cZ d x;rw[X]at N;exact wp_cond_false (by simpa[gD]using N.symm) (M ρ o w d m)
  ·cases h
 |block i b Y=>
  intro k σ r h;unfold UI at h;obtain⟨e1,σ1,p,u⟩:=Y _ _ _ h;cases e1 with
  |norm=>
   refine⟨_,_,p,fun ρ a w d m=>wp_block (wp_mono (u ρ a w d m) fun H o z n=>?_)⟩;have v:=n.1;subst v;exact n
  |ret=>
   refine⟨_,_,p,fun ρ a w d m=>wp_block (wp_mono (u ρ a w d m) fun H o z n=>?_)⟩;have v:=n.1;subst v;exact n
  |ex j=>
   cases V:yD j i with
   |true=>
    simp only[V,cond_true]at p;refine⟨_,_,p,fun ρ a w d m=>wp_block (wp_mono (u ρ a w d m) fun H o z n=>?_)⟩;obtain⟨v,Z⟩:=n;subst v;have e:j=i:=zQ V;show Exit.inBlock i _ (.exit j) o z;simp only[Exit.inBlock,e,if_true];exact⟨rfl,Z⟩
   |false=>
    simp only[V,cond_false]at p;refine⟨_,_,p,fun ρ a w d m=>wp_block (wp_mono (u ρ a w d m) fun H o z n=>?_)⟩;obtain⟨v,Z⟩:=n;subst v;have e:j≠i:=fun q=>by subst q;simp at V
    show Exit.inBlock i _ (.exit j) o z;simp only[Exit.inBlock,e,if_false];exact⟨rfl,Z⟩
 |loop b Y=>
  intro k σ r h;unfold UI at h;obtain⟨e,A,p,u⟩:=LE Y G k σ r h;exact⟨e,A,p,fun ρ a w d m=>wp_loop_rounds G (u ρ a w d m)⟩
 |rangeFunc f ps a b O R=>intro k σ r h;simp[UI]at h
 |scope b Y=>intro k σ r h;simp[UI]at h
 |label l=>intro k σ r h;simp[UI]at h
 |goto l=>intro k σ r h;simp[UI]at h
 |refuse s=>intro k σ r h;simp[UI]at h
end
def aB2(tmps:Array Value):ResultVar->Sem Value
 | .tmp t=>pure (tmps.getD t undef)
 | .cell a t=>do loadVar t (<-asAddr (tmps.getD a undef))
theorem MR[Gl]{σ:St}{f:ResultVar}{x:AV}(h:MQ P σ f=some x){ρ:gP}{a:Act}{w:World}(g:MT ρ σ.τ a)(m:ML ρ σ.L w):∃u,gD ρ x=some u/\(aB2 a.tmps f).run P w=.ok u w:=by
 cases f with
 |tmp t=>
  simp only[MQ,zL.injEq]at h;subst h;exact⟨_,IC g t,rfl⟩
 |cell p t=>
  simp only[MQ]at h;split at h
  ·rename_i n off r;split at h
   ·rename_i b o;have d:=IC g p;rw[r]at d;simp only[gD,zG]at d;obtain⟨c,q,e⟩:=d;obtain⟨s,i,j⟩:=m.blk n c b q o;obtain⟨u,k,l⟩:=nK h i j;refine⟨u,k,?_⟩;simp only[aB2,<-e,asAddr,Sem.run_bind,Sem.run_pure,Result.andThen_ok,l]
   ·cases h
  ·cases h
theorem FR[Gl]{σ:St}{ρ:gP}{a:Act}{w:World}(d:MT ρ σ.τ a)(c:ML ρ σ.L w):∀(l:List ResultVar) (vs:List Value),mM P σ l=some vs->(l.mapM (aB2 a.tmps)).run P w=.ok vs w
 | [],vs,h=>by simp[mM]at h;subst h;simp
 |r::l,vs,h=>by
  unfold mM at h;split at h
  ·rename_i x i;split at h
   ·rename_i m g;simp only[zL.injEq]at h;subst h;obtain⟨u,b,e⟩:=MR i d c;simp only[gD,zL.injEq]at b;subst b;have f:=FR d c l m g;simp[List.mapM_cons,e,f]
   ·cases h
  ·cases h
theorem tW{σ:St}:∀(l:List ResultVar) (vs:List Value),mM P σ l=some vs->vs.length=l.length
 | [],vs,h=>by simp[mM]at h;subst h;rfl
 |r::l,vs,h=>by
  unfold mM at h;split at h
  ·split at h
   ·rename_i m a;simp only[zL.injEq]at h;subst h;simp[tW l m a]
   ·cases h
  ·cases h
theorem ZP[Gl]{c:Func}{σ:St}{x:AV}(h:Qw P σ c.results.toList=some x){ρ:gP}{a:Act}{w:World}(g:MT ρ σ.τ a)(f:ML ρ σ.L w):∃u,gD ρ x=some u/\(results c a.tmps).run P w=.ok u w:=by
 have e:results c a.tmps=(do
   let b <-c.results.mapM (aB2 a.tmps)
   pure (if h:b.size=1 then b[0] else .tuple b)):=by
  unfold results;congr 1
 rw[e,Array.mapM_eq_mapM_toList];cases i:c.results.toList with
 |nil=>
  rw[i]at h;simp only[Qw,mM,zL.injEq]at h;subst h;exact⟨_,rfl,by simp⟩
 |cons r l=>
  rw[i]at h;cases l with
  |nil=>
   simp only[Qw]at h;obtain⟨u,j,k⟩:=MR h g f;exact⟨u,j,by simp[k]⟩
  |cons o l=>
   simp only[Qw]at h;split at h
   ·rename_i b d;simp only[zL.injEq]at h;subst h;have m:=FR g f _ b d;have n:=tW _ b d;refine⟨_,rfl,?_⟩;simp only[Sem.run_bind,Sem.run_map,m,Sem.run_pure];simp[Result.andThen,n]
   ·cases h
def aO[Gl](P:Program)(O:bW):Prop:=∀g h,look O g=some h->∀args L b r L',h args L=some (b,r,L')->b=true->fZ P g args L r L'
theorem EE[Gl]{α:Type}{E:List (TypeId×Nat)}{C:List FuncId}{O:bW}(J:P.follows .mixedOrders=true)(H:∀e∈E,oT P e)(G:∀g∈C,gU P g)(I:aO P O)(a:Nat):∀d,IW (α:=α) P (t8 P E C O a d)
 | 0=>fun g args L Z k r h=>by simp[t8]at h
 |d+1=>fun g args L Z k r h=>by
  unfold t8 at h;split at h
  ·rename_i f V;split at h
   ·rename_i b v j y;cases b with
    |false=>cases h
    |true=>exact⟨v,j,I g f V args L true v j y rfl,h⟩
   ·cases h
  ·split at h
   ·rename_i l s;split at h
    ·rename_i c U;obtain⟨e,z,q,M⟩:=Pt J H G (EE J H G I a d) a _ _ _ _ h;have fin:(∀i,e≠.ex i)->(match Qw P z l.results.toList with|some r=>k r z.L|none=>none)=some r->∃v j,fZ P g args L v j/\k v j=some r:=fun x t=>by
      split at t
      ·rename_i v y;refine⟨v,z.L,?_,t⟩;intro ρ w n m Q;refine calls_of_wp s U ?_;have R:MT ρ (args++afQ (l.ntmps-args.length) (.v undef)) {tmps:=(⟨n⟩:Array Value)++qS (l.ntmps-(⟨n⟩:Array Value).size) undef,defers:=[]}:=by
        refine⟨rfl,?_⟩;have X:=sX m;have:((⟨n⟩:Array Value)++qS (l.ntmps-(⟨n⟩:Array Value).size) undef).toList=n++afQ (l.ntmps-args.length) undef:=by
         simp[X]
        rw[this];exact fC m (JJ _ _)
       refine wp_mono (M ρ _ w R Q) fun e' a' w' Y=>?_;obtain⟨N,K,A,o,p⟩:=Y;obtain⟨u,B,D⟩:=ZP y o p;subst N;cases e with
       |norm=>exact⟨o.1,u,D,u,K,rfl,A,B,p⟩
       |ret=>exact⟨o.1,u,D,u,K,rfl,A,B,p⟩
       |ex i=>exact absurd rfl (x i)
      ·cases t
     cases e with
     |norm=>exact fin (by simp) q
     |ret=>exact fin (by simp) q
     |ex i=>simp at q
    ·cases h
   ·cases h
end
end Ev
namespace Ev
open Go.RowKit
section
variable {P : Program}
def aF[Gl](P:Program)(g:FuncId)(vs:List Value)(V:Value):Prop:=∀w,iX w->Calls P g ⟨vs⟩ w fun e w'=>e=.returned V/\Below w.heap.size w w'
def aAo(r:AV)(_:cD):Option AV:=some r
theorem Sz[Gl]{w:World}(h:iX w):ML (fun _=>none) [] w:=⟨fun n=>rfl,fun n b k q=>(by cases q),fun n m b q=>(by cases q),h,fun e _ n q=>(by cases q)⟩
theorem Gv[Gl]{g:FuncId}{vs:List Value}{V:Value}{b:cD}(h:fZ P g (vs.map AV.v) [] (.v V) b):aF P g vs V:=by
 intro w d;refine(h (fun _=>none) w vs (gI vs) (Sz d)).mono ?_;rintro e f ⟨v,i,rfl,hN,a,_⟩;simp only[gD,zL.injEq]at a;subst a;exact⟨rfl,hN.os,hN.tape,hN.output,hN.size,fun k c=>hN.old k c fun n q=>by cases q⟩
theorem bK[Gl]{g:FuncId}{vs:List Value}{V:Value}(h:aF P g vs V):fZ P g (vs.map AV.v) [] (.v V) []:=by
 intro ρ w p f c;rw[gI]at f;cases f;refine(h w c.glb).mono ?_;rintro e r ⟨rfl,a⟩;have d:∀n,ρ n=none:=fun n=>by
  have:=c.dom n;simp only[fP,Option.isSome_none]at this;cases l:ρ n with
  |none=>rfl
  |some b=>rw[l]at this;cases this
 exact⟨V,ρ,rfl,⟨OS.refl ρ,a.os,a.tape,a.output,a.size,fun k j _=>a.block k j,fun n b q o=>by rw[o]at q;cases q⟩,rfl,
  ⟨c.dom,fun n b k q=>(by rw[d n]at q;cases q),fun n m b q=>(by rw[d n]at q;cases q),c.glb.of fun g i _=>a.block g i,c.far⟩⟩
theorem PH[Gl]{E:List (TypeId×Nat)}{C:List FuncId}{O:bW}(k:P.follows .mixedOrders=true)(i:∀e∈E,oT P e)(f:∀g∈C,gU P g)(j:aO P O){a d:Nat}{g:FuncId}{vs:List Value}{l:Nm}{V:Value}
  (h:t8 P E C O a d g (vs.map AV.v) [] l aAo=some (.v V)):aF P g vs V:=by
 obtain⟨v,m,c,b⟩:=EE k i f j a d g _ _ _ _ _ h;simp only[aAo,zL.injEq]at b;subst b;exact Gv c
theorem F7[Gl]{g:FuncId}{us vs:List Value}{off:Nat}{k:Blk}{V:Value}{B:cD}{cs:List Value}{s:Blk}(h:fZ P g (us.map AV.v++.p [] off::vs.map AV.v) [([],k)] (.v V) B)(M:OH k.cells=[])
  (r:fP B []=some s)(J:Cj s.cells=some cs)(n:Nm):fZ P g (us.map AV.v++.p n off::vs.map AV.v) [(n,k)] (.v V) [(n,⟨cs.map CV.v,s.ty⟩)]:=by
 intro ρ w G D d;have z:∃b,ρ n=some b:=by
  have:=d.dom n;rw[dU,if_pos rfl]at this;cases O:ρ n with
  |none=>rw[O]at this;cases this
  |some b=>exact⟨b,rfl⟩
 obtain⟨b,i⟩:=z;obtain⟨E,Y,Z⟩:=d.blk n b k i (by rw[dU,if_pos rfl]);have u:ML (fun m=>if m=[] then some b else none) [([],k)] w:=by
  refine⟨fun m=>?_,fun m c l q r=>?_,fun m m' c q o=>?_,d.glb,fun e K m q=>?_⟩
  ·rw[dU];by_cases e:m=[]
   ·subst e;simp
   ·have t:¬[]=m:=fun q=>e q.symm;simp[e,t,fP]
  ·(try dsimp only at q)
   split at q
   ·rename_i e;subst e;cases q;rw[dU,if_pos rfl]at r;cases r;refine⟨E,?_,Z⟩;have:=oY (ρ:=ρ) (ks:=[]) (l:=k.cells) (vs:=E) (by rw[M];rfl) Y;exact lI (fun m c q=>by have:=(gX q).1;simp[PP]at this) this
   ·cases q
  ·(try dsimp only at q o)
   split at q<;>split at o
   ·rename_i e t;rw[e,t]
   ·cases o
   ·cases q
   ·cases q
  ·(try dsimp only at q)
   split at q
   ·cases q;exact d.far e K n i
   ·cases q
 have y:dN (fun m:Nm=>if m=[] then some b else none) (us.map AV.v++.p [] off::vs.map AV.v)=some G:=by
  have I:dN ρ (us.map AV.v++.p n off::vs.map AV.v)=some (us++.pointer (some ⟨b,off,none⟩)::vs):=
   fC (gI us) (by simp[dN,gD,i,gI])
  rw[I]at D;cases D;exact fC (gI us) (by simp[dN,gD,gI])
 refine(h _ w G y u).mono ?_;rintro e w' ⟨v,H,rfl,hN,R,f⟩;have Q:H []=some b:=hN.ext [] b (by simp);obtain⟨A,U,X⟩:=f.blk [] b s Q r;have x:A=cs:=by
  have:=RM (ρ:=H) J;rw[U]at this;exact zL.inj this
 subst x;refine⟨v,ρ,rfl,⟨OS.refl ρ,hN.os,hN.tape,hN.output,hN.size,fun j L N=>hN.old j L fun m q=>?_,fun m c q o=>by rw[o]at q;cases q⟩,R,⟨fun m=>?_,fun m c l q a=>?_,d.inj,f.glb,d.far⟩⟩
 ·(try dsimp only at q)
  split at q
  ·cases q;exact N n i
  ·cases q
 ·have:=d.dom m;rw[dU]at this ⊢;by_cases e:n=m
  ·rw[if_pos e]at this ⊢;exact this
  ·rw[if_neg e]at this ⊢;exact this
 ·rw[dU]at a;split at a
  ·rename_i e;cases a;subst e;rw[i]at q;cases q;exact⟨A,mS A,X⟩
  ·cases a
theorem dK[Gl]:aO P []:=fun g h q=>by simp[look]at q
theorem aA[Gl]{g:FuncId}{h:AL}{O:bW}(d:∀args L b r a,h args L=some (b,r,a)->b=true->fZ P g args L r a)(i:aO P O):aO P ((g,h)::O):=fun f c q=>by
 unfold look at q;cases e:yD g f with
 |true=>
  rw[e]at q;simp only[cond_true,zL.injEq]at q;subst q;have:g=f:=zQ e;subst this;exact d
 |false=>
  rw[e]at q;exact i f c q
theorem VN{g:FuncId}{a:Func}(h:P.funcs[g]? =some a)(f:(a.name== "runtime.NumGoroutine")=false)(d:a.body.isNone=false):gU P g:=by
 intro args w;have b:¬a.body=none:=fun e=>by rw[e]at d;cases d
 have c:¬a.name= "runtime.NumGoroutine" :=fun e=>by rw[e]at f;simp at f
 simp[callFunc,h,c,b]
end
def lt{α β:Type}(a:α)(f:α->β):β:=f a
theorem aL{α β:Type}{b:Bool}{X Y:Option α}{x y:β}(g:β->α)(a:X=some (g x))(c:Y=some (g y)):cond b X Y=some (g (cond b x y)):=by cases b<;>assumption
theorem aY{α β γ:Type}{a:γ}{X:γ->Option α}{x:γ->β}(g:β->α)(h:∀c,X c=some (g (x c))):lt a X=some (g (lt a x)):=h a
def sO[Gl](P:Program)(g:FuncId)(ty:TypeId)(c:Int)(vs:List Value)(V:Value)(c':Int):Prop:=
 ∀n,fZ P g (.p n 0::vs.map AV.v) [(n,⟨[.v (.int .i64 c)],ty⟩)] (.v V) [(n,⟨[.v (.int .i64 c')],ty⟩)]
def Xv(r:AV)(L:cD):Option (AV×Blk):=
 match fP L []with
 |some b=>some (r,b)
 |none=>none
theorem Wi[Gl]{P:Program}{E:List (TypeId×Nat)}{C:List FuncId}{O:bW}(q:P.follows .mixedOrders=true)(l:∀e∈E,oT P e)(k:∀g∈C,gU P g)(m:aO P O){f d:Nat}{g:FuncId}{vs:List Value}{r:Nm}{V:Value}{i:TypeId}{c c':Int}
  (h:t8 P E C O f d g (.p [] 0::vs.map AV.v) [([],⟨[.v (.int .i64 c)],i⟩)] r Xv=some (.v V,⟨[.v (.int .i64 c')],i⟩)):sO P g i c vs V c':=by
 intro n;obtain⟨v,s,j,a⟩:=EE q l k m f d g _ _ _ _ _ h;unfold Xv at a;split at a
 ·rename_i b o;simp only[zL.injEq,Prod.mk.injEq]at a;obtain⟨rfl,rfl⟩:=a;exact F7 (us:=[]) (vs:=vs) (cs:=[.int .i64 c']) j rfl o rfl n
 ·cases a
def lS(c e:Int):Int:=if c=0 then e else c
section
variable {P : Program} {g : FuncId}
def e0(F:Value):AL
 | [],[]=>some (true,.v F,[])
 |_,_=>none
theorem aEK[Gl]{F:Value}(h:aF P g [] F)(args:List AV)(L:cD)(z:Bool)(r:AV)(a:cD)(q:e0 F args L=some (z,r,a))(_:z=true):fZ P g args L r a:=by
 unfold e0 at q;split at q
 ·cases q;exact bK h
 ·cases q
def eP(F:Int->Int->Value):AL
 | [.v (.agg ⟨[.int .i64 a,.int .i64 b]⟩)],[]=>some (true,.v (F a b),[])
 |_,_=>none
theorem cX[Gl]{F:Int->Int->Value}(h:∀a b,aF P g [.agg ⟨[.int .i64 a,.int .i64 b]⟩] (F a b))(args:List AV)(L:cD)(z:Bool)(r:AV)(c:cD)(q:eP F args L=some (z,r,c))(_:z=true):fZ P g args L r c:=by
 unfold eP at q;split at q
 ·cases q;exact bK (h _ _)
 ·cases q
def Pp(p:Int->Int->Bool)(F:Int->Int->Value):AL
 | [.v (.agg ⟨[.int .i64 a,.int .i64 b]⟩)],[]=>some (p a b,.v (F a b),[])
 |_,_=>none
theorem GV[Gl]{p:Int->Int->Bool}{F:Int->Int->Value}(h:∀a b,p a b=true->aF P g [.agg ⟨[.int .i64 a,.int .i64 b]⟩] (F a b))(args:List AV)(L:cD)(z:Bool)(r:AV)(c:cD)(q:Pp p F args L=some (z,r,c))(d:z=true):fZ P g args L r c:=by
 unfold Pp at q;split at q
 ·cases q;exact bK (h _ _ d)
 ·cases q
def GU(F:Int->Int->Int->Int->Value):AL
 | [.v (.agg ⟨[.int .i64 a,.int .i64 b]⟩),.v (.agg ⟨[.int .i64 c,.int .i64 d]⟩)],[]=>some (true,.v (F a b c d),[])
 |_,_=>none
theorem dZ[Gl]{F:Int->Int->Int->Int->Value}(h:∀a b c d,aF P g [.agg ⟨[.int .i64 a,.int .i64 b]⟩,.agg ⟨[.int .i64 c,.int .i64 d]⟩] (F a b c d))(args:List AV)(L:cD)(z:Bool)(r:AV)(e:cD)(q:GU F args L=some (z,r,e))(_:z=true):fZ P g args L r e:=by
 unfold GU at q;split at q
 ·cases q;exact bK (h _ _ _ _)
 ·cases q
def XA(p:Int->Int->Int->Int->Bool)(F:Int->Int->Int->Int->Value):AL
 | [.v (.agg ⟨[.int .i64 a,.int .i64 b]⟩),.v (.agg ⟨[.int .i64 c,.int .i64 d]⟩)],[]=>some (p a b c d,.v (F a b c d),[])
 |_,_=>none
theorem KI[Gl]{p:Int->Int->Int->Int->Bool}{F:Int->Int->Int->Int->Value}(h:∀a b c d,p a b c d=true->aF P g [.agg ⟨[.int .i64 a,.int .i64 b]⟩,.agg ⟨[.int .i64 c,.int .i64 d]⟩] (F a b c d))(args:List AV)(L:cD)(z:Bool)(r:AV)(e:cD)(q:XA p F args L=some (z,r,e))(f:z=true):fZ P g args L r e:=by
 unfold XA at q;split at q
 ·cases q;exact bK (h _ _ _ _ f)
 ·cases q
def eI(F:Int->Value):AL
 | [.v (.int .i64 a)],[]=>some (true,.v (F a),[])
 |_,_=>none
theorem KH[Gl]{F:Int->Value}(h:∀a,aF P g [.int .i64 a] (F a))(args:List AV)(L:cD)(z:Bool)(r:AV)(b:cD)(q:eI F args L=some (z,r,b))(_:z=true):fZ P g args L r b:=by
 unfold eI at q;split at q
 ·cases q;exact bK (h _)
 ·cases q
def aD6(p:Int->Bool)(F:Int->Value):AL
 | [.v (.int .i64 a)],[]=>some (p a,.v (F a),[])
 |_,_=>none
theorem o9[Gl]{p:Int->Bool}{F:Int->Value}(h:∀a,p a=true->aF P g [.int .i64 a] (F a))(args:List AV)(L:cD)(z:Bool)(r:AV)(b:cD)(q:aD6 p F args L=some (z,r,b))(c:z=true):fZ P g args L r b:=by
 unfold aD6 at q;split at q
 ·cases q;exact bK (h _ c)
 ·cases q
def eII(F:Int->Int->Value):AL
 | [.v (.int .i64 a),.v (.int .i64 b)],[]=>some (true,.v (F a b),[])
 |_,_=>none
theorem Ef[Gl]{F:Int->Int->Value}(h:∀a b,aF P g [.int .i64 a,.int .i64 b] (F a b))(args:List AV)(L:cD)(z:Bool)(r:AV)(c:cD)(q:eII F args L=some (z,r,c))(_:z=true):fZ P g args L r c:=by
 unfold eII at q;split at q
 ·cases q;exact bK (h _ _)
 ·cases q
def PF(p:Int->Int->Bool)(F:Int->Int->Value):AL
 | [.v (.int .i64 a),.v (.int .i64 b)],[]=>some (p a b,.v (F a b),[])
 |_,_=>none
theorem BA[Gl]{p:Int->Int->Bool}{F:Int->Int->Value}(h:∀a b,p a b=true->aF P g [.int .i64 a,.int .i64 b] (F a b))(args:List AV)(L:cD)(z:Bool)(r:AV)(c:cD)(q:PF p F args L=some (z,r,c))(d:z=true):fZ P g args L r c:=by
 unfold PF at q;split at q
 ·cases q;exact bK (h _ _ d)
 ·cases q
def ePI(F:Int->Int->Int->Value):AL
 | [.v (.agg ⟨[.int .i64 a,.int .i64 b]⟩),.v (.int .i64 c)],[]=>some (true,.v (F a b c),[])
 |_,_=>none
theorem aD7[Gl]{F:Int->Int->Int->Value}(h:∀a b c,aF P g [.agg ⟨[.int .i64 a,.int .i64 b]⟩,.int .i64 c] (F a b c))(args:List AV)(L:cD)(z:Bool)(r:AV)(d:cD)(q:ePI F args L=some (z,r,d))(_:z=true):fZ P g args L r d:=by
 unfold ePI at q;split at q
 ·cases q;exact bK (h _ _ _)
 ·cases q
def Wg(p:Int->Int->Int->Bool)(F:Int->Int->Int->Value):AL
 | [.v (.agg ⟨[.int .i64 a,.int .i64 b]⟩),.v (.int .i64 c)],[]=>some (p a b c,.v (F a b c),[])
 |_,_=>none
theorem Wh[Gl]{p:Int->Int->Int->Bool}{F:Int->Int->Int->Value}(h:∀a b c,p a b c=true->aF P g [.agg ⟨[.int .i64 a,.int .i64 b]⟩,.int .i64 c] (F a b c))(args:List AV)(L:cD)(z:Bool)(r:AV)(d:cD)(q:Wg p F args L=some (z,r,d))(e:z=true):fZ P g args L r d:=by
 unfold Wg at q;split at q
 ·cases q;exact bK (h _ _ _ e)
 ·cases q
def eT(F:Int->Int->Int->Int->Int->Int->Value):AL
 | [.v (.agg ⟨[.int .i64 a,.int .i64 b,.int .i64 c,.int .i64 d,.int .i64 e,.int .i64 f]⟩)],[]=>some (true,.v (F a b c d e f),[])
 |_,_=>none
theorem XB[Gl]{F:Int->Int->Int->Int->Int->Int->Value}(h:∀a b c d e f,aF P g [.agg ⟨[.int .i64 a,.int .i64 b,.int .i64 c,.int .i64 d,.int .i64 e,.int .i64 f]⟩] (F a b c d e f))(args:List AV)(L:cD)(z:Bool)(r:AV)(i:cD)(q:eT F args L=some (z,r,i))(_:z=true):fZ P g args L r i:=by
 unfold eT at q;split at q
 ·cases q;exact bK (h _ _ _ _ _ _)
 ·cases q
def SH(p:Int->Int->Int->Int->Int->Int->Bool)(F:Int->Int->Int->Int->Int->Int->Value):AL
 | [.v (.agg ⟨[.int .i64 a,.int .i64 b]⟩),.v (.agg ⟨[.int .i64 c,.int .i64 d]⟩),.v (.agg ⟨[.int .i64 e,.int .i64 f]⟩)],[]=>some (p a b c d e f,.v (F a b c d e f),[])
 |_,_=>none
def cP(ty:TypeId)(F:Int->Int->Value)(G:Int->Int->Int->Int):AL
 | [.p n 0,.v (.agg ⟨[.int .i64 a,.int .i64 b]⟩)],[(m,⟨[.v (.int .i64 k)],t⟩)]=>cond (sI n m&&yD t ty) (some (true,.v (F a b),[(m,⟨[.v (.int .i64 (G k a b))],t⟩)])) none
 |_,_=>none
theorem VM[Gl]{d:TypeId}{F:Int->Int->Value}{G:Int->Int->Int->Int}(h:∀k a b,sO P g d k [.agg ⟨[.int .i64 a,.int .i64 b]⟩] (F a b) (G k a b))(args:List AV)(L:cD)(z:Bool)(r:AV)(e:cD)(q:cP d F G args L=some (z,r,e))(_:z=true):fZ P g args L r e:=by
 unfold cP at q;split at q
 ·rename_i n a b m k t;cases c:(sI n m&&yD t d)with
  |false=>rw[c]at q;cases q
  |true=>
   rw[c]at q;simp only[cond_true,zL.injEq,Prod.mk.injEq]at q;obtain⟨_,rfl,rfl⟩:=q;simp only[Bool.and_eq_true]at c;have e1:=lT.1 c.1;have e2:t=d:=zQ c.2;subst e1 e2;exact h k a b n
 ·cases q
def cPP(ty:TypeId)(F:Int->Int->Int->Int->Value)(G:Int->Int->Int->Int->Int->Int):AL
 | [.p n 0,.v (.agg ⟨[.int .i64 a,.int .i64 b]⟩),.v (.agg ⟨[.int .i64 c,.int .i64 d]⟩)],[(m,⟨[.v (.int .i64 k)],t⟩)]=>cond (sI n m&&yD t ty) (some (true,.v (F a b c d),[(m,⟨[.v (.int .i64 (G k a b c d))],t⟩)])) none
 |_,_=>none
theorem JO[Gl]{f:TypeId}{F:Int->Int->Int->Int->Value}{G:Int->Int->Int->Int->Int->Int}(h:∀k a b c d,sO P g f k [.agg ⟨[.int .i64 a,.int .i64 b]⟩,.agg ⟨[.int .i64 c,.int .i64 d]⟩] (F a b c d) (G k a b c d))(args:List AV)(L:cD)(z:Bool)(r:AV)(i:cD)(q:cPP f F G args L=some (z,r,i))(_:z=true):fZ P g args L r i:=by
 unfold cPP at q;split at q
 ·rename_i n a b c d m k t;cases e:(sI n m&&yD t f)with
  |false=>rw[e]at q;cases q
  |true=>
   rw[e]at q;simp only[cond_true,zL.injEq,Prod.mk.injEq]at q;obtain⟨_,rfl,rfl⟩:=q;simp only[Bool.and_eq_true]at e;have e1:=lT.1 e.1;have e2:t=f:=zQ e.2;subst e1 e2;exact h k a b c d n
 ·cases q
def cPI(ty:TypeId)(F:Int->Int->Int->Value)(G:Int->Int->Int->Int->Int):AL
 | [.p n 0,.v (.agg ⟨[.int .i64 a,.int .i64 b]⟩),.v (.int .i64 e)],[(m,⟨[.v (.int .i64 k)],t⟩)]=>cond (sI n m&&yD t ty) (some (true,.v (F a b e),[(m,⟨[.v (.int .i64 (G k a b e))],t⟩)])) none
 |_,_=>none
theorem Ul[Gl]{d:TypeId}{F:Int->Int->Int->Value}{G:Int->Int->Int->Int->Int}(h:∀k a b e,sO P g d k [.agg ⟨[.int .i64 a,.int .i64 b]⟩,.int .i64 e] (F a b e) (G k a b e))(args:List AV)(L:cD)(z:Bool)(r:AV)(f:cD)(q:cPI d F G args L=some (z,r,f))(_:z=true):fZ P g args L r f:=by
 unfold cPI at q;split at q
 ·rename_i n a b e m k t;cases c:(sI n m&&yD t d)with
  |false=>rw[c]at q;cases q
  |true=>
   rw[c]at q;simp only[cond_true,zL.injEq,Prod.mk.injEq]at q;obtain⟨_,rfl,rfl⟩:=q;simp only[Bool.and_eq_true]at c;have e1:=lT.1 c.1;have e2:t=d:=zQ c.2;subst e1 e2;exact h k a b e n
 ·cases q
end
end Ev
end Go.Proofs.YtlbklncoihhfcaaGreatDoor
