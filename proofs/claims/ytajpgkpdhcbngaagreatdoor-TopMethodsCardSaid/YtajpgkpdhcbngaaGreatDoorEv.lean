/-
  A machine for code that works on variables of its own, shown true: it runs a function's code in the text's order on values and on local blocks that have names of their own; what it answers, the call gives, in whatever order drawn regions come up.
-/
import Derived.Orders
import Derived.LoopN
import Derived.Laws.Tables
import Derived.Deep.MidRow
import Derived.Laws.StructEq
import Derived.Laws.CopyRow
import Derived.Below
import Derived.Great.BuildSlice
set_option maxRecDepth 100000
set_option maxHeartbeats 4000000
open _root_.Array renaming toList_inj→akX
open _root_.List renaming all_cons→ayX,all_eq_true→apJ,any_eq_true→auZ,append_nil→awJ,cons_append→auJ,length_append→aqZ,length_map→atJ,map_cons→auQ,mem_cons→avX,mem_cons_of_mem→aqX,mem_cons_self→arJ,range→azZ
open _root_.Nat renaming add_mul→asQ,add_zero→avJ,beq→agJ,ble→aiZ,eq_of_beq_eq_true→adX,le_of_ble_eq_true→aeQ,le_refl→aaJ,le_trans→ahJ,lt_of_lt_of_le→apZ,zero_add→apX,zero_le→afX
open _root_.Option renaming bind_eq_some_iff→adJ,bind_some→awQ,map_eq_some_iff→abQ,map_some→ayZ,some→afZ
namespace Go.Proofs.YtajpgkpdhcbngaaGreatDoor
namespace Ev
noncomputable section
abbrev Nm:=List Nat
def mZ:Nm→Nm→Bool
 | [],[]=>true
 | a::l,b::m=>cond (agJ a b) (mZ l m) false
 | _,_=>false
inductive CV where
 | v (x:Value)
 | p (n:Nm) (off:Nat)
 | s (n:Nm) (off len cap:Nat)
 | o (n:Nm) (e lo len:Nat)
inductive AV where
 | v (x:Value)
 | p (n:Nm) (off:Nat)
 | c (f:FuncId) (bound cap:List CV)
 | s (n:Nm) (off len cap:Nat)
 | o (n:Nm) (e lo len:Nat)
 | t (l:List CV)
 | g (l:List CV)
structure kJ where
 cells:List CV
 ty:TypeId
abbrev cF:=List (Nm×kJ)
def eR:cF→Nm→Option kJ
 | [],_=>none
 | (m,b)::l,n=>cond (mZ m n) (some b) (eR l n)
def dead (b:kJ):Bool:=b.cells.isEmpty
def uO (l:cF) (n:Nm):Option kJ:=
 match eR l n with
 | some b=>cond (dead b) none (some b)
 | none=>none
def RO:Nat:=1000000
def rwB (b:kJ):Bool:=aiZ (b.ty+1) RO
def fQ (l:cF):List Nm:=l.map (·.1)
def has (l:List Nm) (n:Nm):Bool:=l.any (mZ n)
def CV.toA:CV→AV
 | .v x=>.v x
 | .p n i=>.p n i
 | .s n i l c=>.s n i l c
 | .o n e i l=>.o n e i l
def gO (τ:List AV) (t:Nat):AV:=
 match τ[t]? with
 | some x=>x
 | none=>.v undef
@[reducible] def LX (τ:List AV) (t:Nat):AV:=List.rec (motive:=fun _=>Nat→AV) (fun _=>.v undef) (fun x _ ih n=>Nat.rec (motive:=fun _=>AV) x (fun m _=>ih m) n) τ t
@[reducible] def setR (τ:List AV) (t:Nat) (x:AV):List AV:=List.rec (motive:=fun _=>Nat→List AV) (fun _=>[]) (fun y l ih n=>Nat.rec (motive:=fun _=>List AV) (x::l) (fun m _=>y::ih m) n) τ t
theorem oE:∀(τ:List AV) (t:Nat),LX τ t=gO τ t
 | [],_=>rfl
 | _::_,0=>rfl
 | _::l,t+1=>oE l t
theorem pV:∀(τ:List AV) (t:Nat) (x:AV),setR τ t x=τ.set t x
 | [],_,_=>rfl
 | _::_,0,_=>rfl
 | y::l,t+1,x=>congrArg (y::·) (pV l t x)
def iI (τ:List AV):Operand→AV
 | .tmp t=>LX τ t
 | .const x=>.v x
 | .global g=>.v (.pointer (some ⟨g,0,none⟩))
 | .func f=>.v (.func (.func f) #[] #[])
def evV (τ:List AV) (x:Operand):Value:=
 match iI τ x with
 | .v y=>y
 | _=>undef
def isV:AV→Bool
 | .v _=>true
 | _=>false
def CG (τ:List AV):Option Tmp→AV→List AV
 | some d,x=>setR τ d x
 | none,_=>τ
def val? {α:Type} (P:Program):Sem α→Option α
 | .pure a=>some a
 | .program k=>val? P (k P)
 | .mark _ k=>val? P k
 | _=>none
def LV:List CV→Option (List Value)
 | []=>some []
 | .v x::l=>match LV l with
  | some r=>some (x::r)
  | none=>none
 | _::_=>none
def pA (τ:List AV) (xs:List Operand):Bool:=xs.all fun x=>isV (iI τ x)
def EW (P:Program) (τ:List AV) (o:Oper):Option AV:=
 cond (pA τ o.op.operands.toList) (match val? P (execOp (evV τ) o) with
  | some (.value v)=>some (.v v)
  | _=>none) none
def pE (cs:List CV) (off n:Nat):List CV:=(cs.drop off).take n
def GS:List (Nat×List Value):=[(0,[.int .i64 5400000,.int .i64 5400000])]
def eJ (w:World):Prop:=∀e∈GS,∃ty fz,w.heap[e.1]? =some (.cells ⟨e.2⟩ ty fz)
theorem eJ.lt {w:World} (h:eJ w) {e:Nat×List Value} (he:e∈GS):e.1<w.heap.size:=by
 obtain ⟨ty,fz,h1⟩:=h e he;exact (Array.getElem?_eq_some_iff.1 h1).1
theorem eJ.of {w w':World} (h:eJ w) (k:∀g,g<w.heap.size→(∃e∈GS,e.1=g)→w'.heap[g]? =w.heap[g]?):eJ w':=fun e he=>by
 obtain ⟨ty,fz,h1⟩:=h e he;exact ⟨ty,fz,(k e.1 (h.lt he) ⟨e,he,rfl⟩).trans h1⟩
def WY:List (Nat×List Value)→Nat→Option (List Value)
 | [],_=>none
 | e::l,g=>cond (agJ e.1 g) (some e.2) (WY l g)
theorem NO:∀{l:List (Nat×List Value)} {g:Nat} {vs:List Value},WY l g=some vs→(g,vs)∈l
 | [],g,vs,h=>by simp [WY] at h
 | e::l,g,vs,h=>by
  unfold WY at h;cases hb:agJ e.1 g with
  | true=>
   rw [hb] at h;simp only [cond_true,afZ.injEq] at h;have h1:e.1=g:=adX hb;rw [←h1,←h];exact arJ
  | false=>
   rw [hb] at h;exact aqX _ (NO h)
def OB (P:Program) (b:kJ) (t:TypeId) (off:Nat):Option AV:=
  match P.underlying t,P.info? t with
  | some d,some i=>cond d.isRow
      (match LV (pE b.cells off i.size) with
       | some vs=>cond (agJ vs.length i.size) (some (.v (.agg ⟨vs⟩))) none
       | none=>cond (agJ (pE b.cells off i.size).length i.size) (some (.g (pE b.cells off i.size))) none)
      (match b.cells[off]? with
       | some c=>some c.toA
       | none=>none)
  | _,_=>none
def globA (P:Program) (t:TypeId) (g:Nat):Option AV:=
 match WY GS g with
 | some vs=>OB P ⟨vs.map CV.v,0⟩ t 0
 | none=>none
def nH:AV→Option (List CV)
 | .v x=>some (x.cells.toList.map CV.v)
 | .p n o=>some [.p n o]
 | .s n o l c=>some [.s n o l c]
 | .o n e i l=>some [.o n e i l]
 | .g l=>some l
 | _=>none
def one:CV→Bool
 | .v x=>x.oneCell'
 | _=>true
def storeA (P:Program) (b:kJ) (t:TypeId) (off:Nat) (x:AV):Option kJ:=
 match nH x,P.info? t with
 | some cs,some i=>
  cond (agJ cs.length i.size&&aiZ (off+i.size) b.cells.length&&cs.all one) (some ⟨b.cells.take off++cs++b.cells.drop (off+cs.length),b.ty⟩) none
 | _,_=>none
def fieldA (P:Program) (s:TypeId) (f:Nat):Option Nat:=
 match P.underlying s with
 | some (.struct fs)=>match fs[f]? with
  | some fd=>match P.info? fd.type with
   | some i=>cond (agJ i.size 0) none (some fd.offset)
   | none=>none
  | none=>none
 | _=>none
def indexA (P:Program) (t:TypeId) (ix:Int):Option Nat:=
 match P.underlying t with
 | some (.array len e)=>match P.info? e with
  | some i=>match ix with
   | .ofNat k=>cond (aiZ (k+1) len) (some (k*i.size)) none
   | .negSucc _=>none
  | none=>none
 | _=>none
def BW (P:Program) (t:TypeId) (len:Nat) (ix:Int):Option Nat:=
 match P.underlying t with
 | some (.slice e)=>match P.info? e with
  | some i=>match ix with
   | .ofNat k=>cond (aiZ (k+1) len) (some (k*i.size)) none
   | .negSucc _=>none
  | none=>none
 | _=>none
def LC (P:Program) (t:TypeId) (n:Nat) (ps:List (Nat×Value)):Option (TypeId×Array Value):=
  match P.underlying t with
  | some (.slice e)=>match P.info? e with
    | some i=>match i.zero with
      | some z=>cond (agJ (n*i.size) 0||aiZ 16777216 (n*i.size)) none
          (match Instr.fill (fun j=>some (j*i.size,i.size)) ((Array.range (n*i.size)).map (z.cells[· %z.cells.size]!)) ps with
           | some cells=>some (e,cells)
           | none=>none)
      | none=>none
    | none=>none
  | _=>none
def WJ (place:Nat→Option (Nat×Nat)) (cells:List CV):List (Nat×AV)→Option (List CV)
 | []=>some cells
 | (i,x)::l=>match place i,nH x with
  | some (off,size),some cs=>cond (agJ cs.length size&&aiZ (off+cs.length) cells.length) (WJ place (cells.take off++cs++cells.drop (off+cs.length)) l) none
  | _,_=>none
def builtC (P:Program) (t:TypeId) (ps:List (Nat×AV)):Option (List CV):=
 match P.info? t,P.underlying t with
 | some it,some (.struct fields)=>
  match it.zero,fields.toList.mapM (fun f=>(P.info? f.type).map fun i=>(f.offset,i.size)) with
  | some z,some places=>WJ (places[·]?) (z.cells.toList.map CV.v) ps
  | _,_=>none
 | _,_=>none
def bound (τ:List AV) (d:Nat):Option Operand→Option Nat
 | none=>some d
 | some x=>match iI τ x with
  | .v (.int _ (.ofNat k))=>some k
  | _=>none
def sliceA (P:Program) (τ:List AV) (t:TypeId) (x:AV) (lo hi:Option Operand):Option AV:=
 match x,P.underlying t with
 | .p n off,some (.array m e)=>match P.info? e,bound τ 0 lo,bound τ m hi with
  | some i,some l,some h=>cond (aiZ l h&&aiZ h m) (some (.s n (cond (agJ m l) off (off+l*i.size)) (h-l) (m-l))) none
  | _,_,_=>none
 | .s n off len m,some (.slice e)=>match P.info? e,bound τ 0 lo,bound τ len hi with
  | some i,some l,some h=>cond (aiZ l h&&aiZ h m) (some (.s n (cond (agJ m l) off (off+l*i.size)) (h-l) (m-l))) none
  | _,_,_=>none
 | _,_=>none
def sliceO (P:Program) (τ:List AV) (b:kJ) (t:TypeId) (x:AV) (lo hi:Option Operand):Option AV:=
 match x,P.underlying t with
 | .o n e i len,some (.slice el)=>match P.info? el,bound τ 0 lo,bound τ len hi with
  | some ti,some l,some h=>cond (agJ ti.size e&&aiZ 1 e&&aiZ l h&&aiZ h len&&(agJ l 0||aiZ (l+1) len)&&aiZ ((i+len)*e) b.cells.length) (some (.o n e (i+l) (h-l))) none
  | _,_,_=>none
 | _,_=>none
def lenA (P:Program) (τ:List AV) (c:Call):Option AV:=
 match c.callee,c.args.toList,c.argTypes.toList with
 | .builtin .len,[x],[t]=>match iI τ x,P.underlying t with
  | .s _ _ n _,some (.slice _)=>some (.v (.int .i64 (n:Int)))
  | .o _ _ _ n,some (.slice _)=>some (.v (.int .i64 (n:Int)))
  | _,_=>none
 | _,_,_=>none
def yH:List Value→List Value→Option Bool
 | [],[]=>some true
 | .int .i64 a::l,.int .i64 b::m=>match yH l m with
  | some r=>some ((a==b)&&r)
  | none=>none
 | _,_=>none
def tW:List AV→Option (List CV)
 | []=>some []
 | .v x::l=>match tW l with
  | some r=>some (.v x::r)
  | none=>none
 | .p n o::l=>match tW l with
  | some r=>some (.p n o::r)
  | none=>none
 | .s n o m c::l=>match tW l with
  | some r=>some (.s n o m c::r)
  | none=>none
 | .o n e i m::l=>match tW l with
  | some r=>some (.o n e i m::r)
  | none=>none
 | _::_=>none
def divOp:BinOp→Option Bool
 | .quo=>some true
 | .rem=>some false
 | _=>none
def xF:List CV→List Nm
 | []=>[]
 | .v _::l=>xF l
 | .p n _::l=>n::xF l
 | .s n _ _ _::l=>n::xF l
 | .o n _ _ _::l=>n::xF l
def oZ:List AV→List Nm
 | []=>[]
 | .v _::l=>oZ l
 | .p n _::l=>n::oZ l
 | .c _ b c::l=>xF b++xF c++oZ l
 | .s n _ _ _::l=>n::oZ l
 | .o n _ _ _::l=>n::oZ l
 | .t c::l=>xF c++oZ l
 | .g c::l=>xF c++oZ l
def zF (r:List Nm):List Nm→List Nm
 | []=>r
 | n::l=>cond (has r n) (zF r l) (zF (n::r) l)
def KJ (L:cF):Nat→List Nm→List Nm
 | 0,r=>r
 | d+1,r=>KJ L d (zF r (r.flatMap fun n=>match eR L n with | some b=>xF b.cells | none=>[]))
def part (L:cF) (r:List Nm):cF:=r.filterMap fun n=>match uO L n with | some b=>some (n,b) | none=>none
def YW (L:cF) (r:List Nm):cF:=r.filterMap fun n=>match eR L n with | some b=>some (n,b) | none=>none
def closed (ks:List Nm):cF→Bool
 | []=>true
 | (_,b)::l=>(xF b.cells).all (has ks)&&closed ks l
def fresh (L:cF) (n:Nm):Bool:=
 match eR L n with
 | none=>true
 | some _=>false
def gc (ks:List Nm) (v:AV) (L:cF):cF:=
 let r:=KJ L 4 (zF ks (oZ [v]))
 cond ((oZ [v]).all (has r)&&closed r (YW L r)) (YW L r) L
def newOk (ks:List Nm) (L L':cF):Bool:=(fQ L').all fun n=>has ks n||fresh L n
inductive Ex where
 | norm
 | ex (id:Nat)
 | ret
def Ex.cv:Ex→Exit
 | .norm=>.normal
 | .ex i=>.exit i
 | .ret=>.ret
structure St where
 τ:List AV
 L:cF
 c:Nat
 pre:Nm
structure Foot where
 rd:List Nm
 wr:List Nm
section
variable {α : Type} (P : Program) (E : List (TypeId × Nat)) (C : List FuncId) (call : FuncId → List AV → cF → Nm → (AV → cF → Option α) → Option α)
def isEq:BinOp→Option Bool
 | .eql=>some true
 | .neq=>some false
 | _=>none
def eqTy (t:TypeId) (n:Nat):Bool:=E.any fun e=>agJ e.1 t&&agJ e.2 n
def binA (τ:List AV) (o:Oper) (op:BinOp) (t:TypeId) (x y:Operand):Option AV:=
 match isEq op,iI τ x,iI τ y with
 | some b,.v (.agg xs),.v (.agg ys)=>
  cond (eqTy E t xs.toList.length&&agJ xs.toList.length ys.toList.length) (match yH xs.toList ys.toList with
   | some r=>some (.v (.bool (cond b r (!r))))
   | none=>none) none
 | _,_,_=>EW P τ o
def callee (τ:List AV):Callee→Option (FuncId×List AV×List AV)
 | .value f=>match iI τ f with
  | .v (.func (.func g) b c)=>some (g,b.toList.map AV.v,c.toList.map AV.v)
  | .c g b c=>some (g,b.map CV.toA,c.map CV.toA)
  | _=>none
 | _=>none
def doCall (args:List AV) (g:FuncId) (L:cF) (nm:Nm) (k:AV→cF→List Nm→Option α):Option α:=
 let r:=KJ L 4 (zF [] (oZ args))
 let LR:=part L r
 cond (C.any (agJ g)&&(oZ args).all (has (fQ LR))&&closed (fQ LR) LR)
  (call g args LR nm fun v L'=>cond (newOk (fQ LR) L (gc (fQ LR) v L')) (k v (gc (fQ LR) v L') (fQ LR)) none) none
def srcA (L:cF) (size:Nat):AV→Option (Nm×Nat×List CV)
 | .s m off n _=>match uO L m with
  | some b=>cond (aiZ (off+n*size) b.cells.length&&aiZ 1 n&&aiZ 1 size&&(pE b.cells off (n*size)).all one) (some (m,n,pE b.cells off (n*size))) none
  | none=>none
 | .o m e i n=>match uO L m with
  | some b=>cond (agJ e size&&aiZ (i*e+n*size) b.cells.length&&aiZ 1 n&&aiZ 1 size&&(pE b.cells (i*e) (n*size)).all one) (some (m,n,pE b.cells (i*e) (n*size))) none
  | none=>none
 | _=>none
def PM (L:cF) (nm:Nm) (c:Call) (τ:List AV) (k:AV→cF→List Nm→Option α):Option α:=
 match c.args.toList,c.argTypes.toList with
 | [x,y],[t,t']=>cond (agJ t t') (match P.underlying t with
  | some (.slice el)=>match P.info? el with
   | some i=>match i.zero with
    | some z=>cond (agJ z.cells.toList.length i.size&&aiZ 1 i.size) (match srcA L i.size (iI τ y) with
     | some (m,n,news)=>match iI τ x,eR L nm with
      | .v (.slice none 0 0),none=>cond (aiZ (n*i.bytes) 140737488355328&&aiZ n 140737488355328) (k (.o nm i.size 0 n) [(nm,⟨news,el⟩)] [m]) none
      | .o d e 0 len,none=>match uO L d with
       | some b=>cond (agJ e i.size&&agJ b.ty el&&rwB b&&aiZ (len*e) b.cells.length&&aiZ ((len+n)*i.bytes) 140737488355328&&aiZ (len+n) 140737488355328)
         (cond (aiZ ((len+n)*e) b.cells.length)
          (k (.o d e 0 (len+n)) [(d,⟨b.cells.take (len*e)++news++b.cells.drop (len*e+news.length),b.ty⟩)] [m])
          (k (.o nm e 0 (len+n)) [(nm,⟨b.cells.take (len*e)++news,el⟩),(d,⟨[],el⟩)] [m]))
         none
       | none=>none
      | _,_=>none
     | none=>none) none
    | none=>none
   | none=>none
  | _=>none) none
 | _,_=>none
def copyA (L:cF) (c:Call) (τ:List AV) (k:AV→cF→List Nm→Option α):Option α:=
 match c.args.toList,c.argTypes.toList with
 | [x,y],t::_=>match P.underlying t with
  | some (.slice el)=>match P.info? el with
   | some i=>match srcA L i.size (iI τ y),iI τ x with
    | some (m,n,news),.s d off len _=>match uO L d with
     | some b=>cond (agJ n len&&agJ b.ty el&&rwB b&&aiZ (off+news.length) b.cells.length) (k (.v (.int .i64 (n:Int))) [(d,⟨b.cells.take off++news++b.cells.drop (off+news.length),b.ty⟩)] [m]) none
     | none=>none
    | _,_=>none
   | none=>none
  | _=>none
 | _,_=>none
def makeA (L:cF) (nm:Nm) (t:TypeId) (x y:AV) (k:AV→cF→List Nm→Option α):Option α:=
 match x,y,P.underlying t,eR L nm with
 | .v (.int _ (.ofNat l)),.v (.int _ (.ofNat c)),some (.slice el),none=>match P.info? el with
  | some i=>match i.zero with
   | some z=>cond (aiZ 1 (c*i.size)&&aiZ l c&&aiZ c 140737488355328&&aiZ (c*i.bytes) 140737488355328)
     (k (.s nm 0 l c) [(nm,⟨((Array.range (c*i.size)).map (z.cells[· %z.cells.size]!)).toList.map CV.v,el⟩)] []) none
   | none=>none
  | none=>none
 | _,_,_,_=>none
def evOp (o:Oper) (τ:List AV) (L:cF) (nm:Nm) (k:AV→cF→List Nm→Option α):Option α:=
 let vl (x:Option AV):Option α:=match x with
  | some v=>k v [] []
  | none=>none
 match o.op with
 | .move x=>k (iI τ x) [] []
 | .assign x=>k (iI τ x) [] []
 | .pick c a b=>match iI τ c with
  | .v (.bool t)=>cond t (k (iI τ a) [] []) (k (iI τ b) [] [])
  | _=>none
 | .box t x=>match nH (iI τ x) with
  | some cs=>match eR L nm with
   | none=>k (.p nm 0) [(nm,⟨cs,t⟩)] []
   | some _=>none
  | none=>none
 | .alloc t=>match P.info? t with
  | some i=>match i.zero with
   | some z=>match eR L nm with
    | none=>k (.p nm 0) [(nm,⟨z.cells.toList.map CV.v,t⟩)] []
    | some _=>none
   | none=>none
  | none=>none
 | .build t ps=>cond (pA τ (ps.toList.map (·.2))) (match P.built t (ps.toList.map fun q=>(q.1,evV τ q.2)) with
  | some cells=>k (.v (.agg cells)) [] []
  | none=>none) (match builtC P t (ps.toList.map fun q=>(q.1,iI τ q.2)) with
  | some cells=>k (.g cells) [] []
  | none=>none)
 | .load t x=>match iI τ x with
  | .p n off=>match uO L n with
   | some b=>match OB P b t off with
    | some v=>k v [] [n]
    | none=>none
   | none=>none
  | .v (.pointer (some ⟨g,0,none⟩))=>vl (globA P t g)
  | _=>none
 | .store t x y=>match iI τ x with
  | .p n off=>match uO L n with
   | some b=>cond (rwB b) (match storeA P b t off (iI τ y) with
    | some b'=>k (.v undef) [(n,b')] []
    | none=>none) none
   | none=>none
  | _=>none
 | .fieldAddr s x f=>match iI τ x with
  | .p n off=>match fieldA P s f with
   | some d=>k (.p n (off+d)) [] []
   | none=>none
  | _=>none
 | .indexAddr t x y=>match iI τ x,iI τ y with
  | .p n off,.v (.int _ ix)=>match indexA P t ix with
   | some d=>k (.p n (off+d)) [] []
   | none=>none
  | .s n off len _,.v (.int _ ix)=>match BW P t len ix with
   | some d=>k (.p n (off+d)) [] []
   | none=>none
  | .o n e i len,.v (.int _ ix)=>match BW P t len ix with
   | some d=>k (.p n (i*e+d)) [] []
   | none=>none
  | _,_=>none
 | .makeSlice t x y=>makeA P L nm t (iI τ x) (iI τ y) k
 | .buildSlice t n ps=>cond (pA τ (ps.toList.map (·.2))) (match LC P t n (ps.toList.map fun q=>(q.1,evV τ q.2)) with
  | some (e,cells)=>match eR L nm with
   | none=>k (.s nm 0 n n) [(nm,⟨cells.toList.map CV.v,e⟩)] []
   | some _=>none
  | none=>none) none
 | .slice t x lo hi mx=>match mx with
  | some _=>none
  | none=>match iI τ x with
   | .o n _ _ _=>match uO L n with
    | some b=>match sliceO P τ b t (iI τ x) lo hi with
     | some v=>k v [] [n]
     | none=>none
    | none=>none
   | _=>vl (sliceA P τ t (iI τ x) lo hi)
 | .nilCheck x=>match iI τ x with
  | .p n off=>k (.p n off) [] []
  | .c f b c=>k (.c f b c) [] []
  | .s n i l c=>k (.s n i l c) [] []
  | .o n e i l=>k (.o n e i l) [] []
  | _=>vl (EW P τ o)
 | .binOp op t x y _=>match divOp op,iI τ x,iI τ y with
  | some q,.v (.int .i64 a),.v (.int .i64 b)=>cond (b==0) none (k (.v (.int .i64 (cond q (IntKind.i64.wrap (a.tdiv b)) (a.tmod b)))) [] [])
  | _,_,_=>vl (binA P E τ o op t x y)
 | .makeFunc f bs cs=>match f,tW (bs.toList.map (iI τ)),tW (cs.toList.map (iI τ)) with
  | .func g,some b,some c=>k (.c g b c) [] []
  | _,_,_=>none
 | .unOp _ _ _=>vl (EW P τ o)
 | .convert _ _ _=>vl (EW P τ o)
 | .field _ _ _=>vl (EW P τ o)
 | .index _ _ _=>vl (EW P τ o)
 | .extract x i=>match iI τ x with
  | .t l=>match l[i]? with
   | some c=>k c.toA [] []
   | none=>none
  | _=>vl (EW P τ o)
 | .call c=>match c.callee with
  | .builtin b=>match b with
   | .append=>PM P L nm c τ k
   | .copy=>copyA P L c τ k
   | _=>match lenA P τ c with
    | some v=>k v [] []
    | none=>vl (EW P τ o)
  | _=>match callee τ c.callee with
   | some (g,b,cp)=>doCall C call (b++c.args.toList.map (iI τ)++cp) g L nm fun v U rd=>k v U rd
   | none=>none
 | _=>none
def IQ (ops:List Oper) (j:Nat):Option Tmp:=
 match ops[j]? with
 | some o=>o.dst
 | none=>none
def DP (all:List Oper) (fin:List Foot→Bool) (base:Nm):List Oper→Nat→List AV→cF→List Foot→(List AV→cF→Option α)→Option α
 | [],_,τ,L,fs,k=>cond (fin fs) (k τ L) none
 | o::rest,i,τ,L,fs,k=>
  let go (τ:List AV):Option α:=evOp P E C call o τ L (i::base) fun v U rd=>DP all fin base rest (i+1) (CG τ o.dst v) (U++L) (fs++[⟨rd,fQ U⟩]) k
  let no (τ:List AV):Option α:=DP all fin base rest (i+1) (CG τ o.dst (.v undef)) L (fs++[⟨[],[]⟩]) k
  match o.guard with
  | none=>go τ
  | some (j,want)=>match IQ all j with
   | none=>no τ
   | some d=>match LX τ d with
    | .v (.bool b)=>cond b
      (let τ':=setR τ d (.v (.bool true));cond want (go τ') (no τ'))
      (let τ':=setR τ d (.v (.bool false));cond want (no τ') (go τ'))
    | _=>no τ
def pH (ops:List Oper):Nat→Nat→Nat→Bool
 | 0,_,_=>false
 | n+1,i,j=>match ops[j]? with
  | some o=>o.after.toList.any fun e=>Region.binds .any e&&(agJ e.on i||(aiZ (i+1) e.on&&pH ops n i e.on))
  | none=>false
def JW (a b:List Nm):Bool:=a.all fun n=> !has b n
def qV (x y:Foot):Bool:=JW x.wr y.rd&&JW x.wr y.wr&&JW y.wr x.rd
def looks (ops:List Oper) (o:Oper):List Tmp:=
  (o.op.operands.toList.filterMap fun | .tmp t=>some t | _=>none)++
  (match o.guard with
   | some (g,_)=>(IQ ops g).toList
   | none=>[])
def hasN (l:List Nat) (n:Nat):Bool:=l.any (agJ n)
def NH (d:Option Tmp) (l:List Tmp):Bool:=
 match d with
 | some d=>hasN l d
 | none=>false
def TP:Option Tmp→Option Tmp→Bool
 | some a,some b=>agJ a b
 | _,_=>false
def yP (ops:List Oper) (i j:Nat) (x y:Oper) (fx fy:Foot):Bool:=
 cond (TP x.dst y.dst) false
  (cond (!NH x.dst (looks ops y)&& !NH y.dst (looks ops x)&&qV fx fy) true (pH ops 24 i j))
def rowOk (ops:List Oper) (i:Nat) (x:Oper) (fx:Foot):Nat→List Oper→List Foot→Bool
 | j,y::l,f::fl=>yP ops i j x y fx f&&rowOk ops i x fx (j+1) l fl
 | _,_,_=>true
def UK (ops:List Oper):Nat→List Oper→List Foot→Bool
 | i,x::l,f::fl=>x.after.toList.all (fun e=> !Region.binds .any e||Nat.blt e.on i)&&rowOk ops i x f (i+1) l fl&&UK ops (i+1) l fl
 | _,_,_=>true
def fix (τ:List AV) (x:Operand) (b:Bool):List AV:=
 match x with
 | .tmp t=>setR τ t (.v (.bool b))
 | _=>τ
def iter (F:(Ex→St→Option α)→St→Option α):Nat→(Ex→St→Option α)→St→Option α
 | 0,_,_=>none
 | n+1,k,σ=>F (fun e σ'=>match e with | .norm=>iter F n k σ' | e=>k e σ') σ
def UC (lim:Nat):Code→(Ex→St→Option α)→St→Option α
 | .skip,k,σ=>k .norm σ
 | .seq a b,k,σ=>UC lim a (fun e σ'=>match e with | .norm=>UC lim b k σ' | e=>k e σ') σ
 | .region _ ops draw,k,σ=>DP P E C call ops.toList (fun fs=>cond draw (UK ops.toList 0 ops.toList fs) true) (σ.c::σ.pre) ops.toList 0 σ.τ σ.L [] fun τ L=>k .norm ⟨τ,L,σ.c+1,σ.pre⟩
 | .cond x a b,k,σ=>match iI σ.τ x with
  | .v (.bool t)=>cond t (UC lim a k ⟨fix σ.τ x true,σ.L,σ.c,σ.pre⟩) (UC lim b k ⟨fix σ.τ x false,σ.L,σ.c,σ.pre⟩)
  | _=>none
 | .block i b,k,σ=>UC lim b (fun e σ'=>match e with | .ex j=>cond (agJ j i) (k .norm σ') (k (.ex j) σ') | e=>k e σ') σ
 | .loop b,k,σ=>iter (UC lim b) lim k σ
 | .exit i,k,σ=>k (.ex i) σ
 | .ret,k,σ=>k .ret σ
 | _,_,_=>none
def CL (σ:St):ResultVar→Option AV
 | .tmp t=>some (LX σ.τ t)
 | .cell a t=>match LX σ.τ a with
  | .p n off=>match uO σ.L n with
   | some b=>OB P b t off
   | none=>none
  | _=>none
def oI (σ:St):List ResultVar→Option (List Value)
 | []=>some []
 | r::l=>match CL P σ r with
  | some (.v x)=>match oI σ l with
   | some m=>some (x::m)
   | none=>none
  | _=>none
def ZH (σ:St):List ResultVar→Option (List CV)
 | []=>some []
 | r::l=>match CL P σ r with
  | some x=>match tW [x],ZH σ l with
   | some c,some m=>some (c++m)
   | _,_=>none
  | none=>none
def resA (σ:St):List ResultVar→Option AV
 | [r]=>CL P σ r
 | l=>match oI P σ l with
  | some vs=>some (.v (.tuple ⟨vs⟩))
  | none=>match ZH P σ l with
   | some cs=>some (.t cs)
   | none=>none
end
def SF {β:Type}:List (FuncId×β)→FuncId→Option β
 | [],_=>none
 | (g,h)::l,f=>cond (agJ g f) (some h) (SF l f)
abbrev zC:=List AV→cF→Option (Bool×AV×cF)
abbrev bJ:=List (FuncId×zC)
abbrev Ent2:=List AV→cF→Nm→Option (Bool×AV×cF)
abbrev xI:=List (FuncId×Ent2)
def evG {α:Type} (P:Program) (E:List (TypeId×Nat)) (C:List FuncId) (A:xI) (O:bJ) (lim:Nat):Nat→FuncId→List AV→cF→Nm→(AV→cF→Option α)→Option α
 | 0,_,_,_,_,_=>none
 | d+1,g,args,L,pre,k=>match SF O g with
  | some h=>match h args L with
   | some (b,r,L')=>cond b (k r L') none
   | none=>none
  | none=>match SF A g with
   | some h=>match h args L pre with
    | some (b,r,L')=>cond b (k r L') none
    | none=>none
   | none=>match P.funcs[g]? with
    | some fn=>match fn.body with
     | some c=>UC P E C (evG P E C A O lim d) lim c (fun e σ=>match e with
       | .ex _=>none
       | _=>match resA P σ fn.results.toList with
        | some r=>k r σ.L
        | none=>none) ⟨args++List.replicate (fn.ntmps-args.length) (.v undef),L,0,pre⟩
     | none=>none
    | none=>none
def evF {α:Type} (P:Program) (E:List (TypeId×Nat)) (C:List FuncId) (O:bJ) (lim:Nat):Nat→FuncId→List AV→cF→Nm→(AV→cF→Option α)→Option α:=evG P E C [] O lim
end
end Ev
namespace Ev
open Go.RowKit
abbrev gZ:=Nm→Option (Nat×Nat×Option Obj)
def FH (ρ:gZ):CV→Option Value
 | .v x=>some x
 | .p n o=>(ρ n).map fun b=>.pointer (some ⟨b.1,o,none⟩)
 | .s n o l c=>(ρ n).map fun b=>.slice (some ⟨b.1,o,none⟩) l c
 | .o n e i l=>(ρ n).map fun b=>.slice (some ⟨b.1,i*e,none⟩) l (b.2.1/e-i)
def dF (ρ:gZ):List CV→Option (List Value)
 | []=>some []
 | x::l=>(FH ρ x).bind fun v=>(dF ρ l).map (v::·)
def fP (ρ:gZ):AV→Option Value
 | .v x=>some x
 | .p n o=>(ρ n).map fun b=>.pointer (some ⟨b.1,o,none⟩)
 | .c f b c=>(dF ρ b).bind fun vb=>(dF ρ c).map fun vc=>.func (.func f) ⟨vb⟩ ⟨vc⟩
 | .s n o l c=>(ρ n).map fun b=>.slice (some ⟨b.1,o,none⟩) l c
 | .o n e i l=>(ρ n).map fun b=>.slice (some ⟨b.1,i*e,none⟩) l (b.2.1/e-i)
 | .t l=>(dF ρ l).map fun vs=>.tuple ⟨vs⟩
 | .g l=>(dF ρ l).map fun vs=>.agg ⟨vs⟩
def fD (ρ:gZ):List AV→Option (List Value)
 | []=>some []
 | x::l=>(fP ρ x).bind fun v=>(fD ρ l).map (v::·)
theorem gV:∀{a b:Nm},mZ a b=true↔a=b
 | [],[]=>by simp [mZ]
 | [],_::_=>by simp [mZ]
 | _::_,[]=>by simp [mZ]
 | a::l,b::m=>by
  have ih:=gV (a:=l) (b:=m);simp only [mZ,List.cons.injEq];cases h:agJ a b
  ·simp only [cond_false,Bool.false_eq_true,false_iff,not_and];intro e;subst e;simp at h
  ·simp only [cond_true,ih];have:a=b:=adX h;simp [this]
theorem nmEq_refl (a:Nm):mZ a a=true:=gV.2 rfl
theorem nmEq_false {a b:Nm}:mZ a b=false↔a≠b:=by
 rw [←Bool.not_eq_true,gV]
theorem lQ {l:cF} {n:Nm} {b:kJ} (h:uO l n=some b):eR l n=some b∧b.cells≠[]:=by
 unfold uO at h;split at h
 ·rename_i c hc;cases hd:dead c with
  | true=>rw [hd] at h;cases h
  | false=>
   rw [hd] at h;cases h;exact ⟨hc,fun e=>by unfold dead at hd;rw [e] at hd;cases hd⟩
 ·cases h
theorem bN (m:Nm) (b:kJ) (l:cF) (n:Nm):eR ((m,b)::l) n=if m=n then some b else eR l n:=by
 show cond (mZ m n) (some b) (eR l n)=_;cases h:mZ m n
 ·rw [if_neg (nmEq_false.1 h)];rfl
 ·rw [if_pos (gV.1 h)];rfl
theorem oW (a b:cF) (n:Nm):eR (a++b) n=(eR a n).or (eR b n):=by
 induction a with
 | nil=>simp [eR]
 | cons x l ih=>
  obtain ⟨m,y⟩:=x;rw [auJ,bN,bN];split
  ·simp
  ·exact ih
theorem mA {l:List Nm} {n:Nm}:has l n=true↔n∈l:=by
 unfold has;rw [auZ];constructor
 ·rintro ⟨x,hx,h⟩;rw [gV] at h;exact h ▸ hx
 ·intro h;exact ⟨n,h,nmEq_refl n⟩
theorem oF {l:cF} {n:Nm}:eR l n=none↔n∉fQ l:=by
 induction l with
 | nil=>simp [eR,fQ]
 | cons x l ih=>
  obtain ⟨m,b⟩:=x;rw [bN];simp only [fQ,auQ,avX,not_or] at ih ⊢;split
  ·rename_i h;subst h;simp
  ·rename_i h;rw [ih];exact ⟨fun q=>⟨fun e=>h e.symm,q⟩,fun q=>q.2⟩
def LU (ρ ρ':gZ):Prop:=∀n b,ρ n=some b→ρ' n=some b
theorem LU.refl (ρ:gZ):LU ρ ρ:=fun _ _ h=>h
theorem LU.trans {a b c:gZ} (h:LU a b) (k:LU b c):LU a c:=fun n x q=>k n x (h n x q)
theorem FI {ρ ρ':gZ} (h:LU ρ ρ') {x:CV} {v:Value} (q:FH ρ x=some v):FH ρ' x=some v:=by
 cases x with
 | v y=>exact q
 | p n o=>
  simp only [FH,abQ] at q ⊢;obtain ⟨b,h1,h2⟩:=q;exact ⟨b,h n b h1,h2⟩
 | s n o l c=>
  simp only [FH,abQ] at q ⊢;obtain ⟨b,h1,h2⟩:=q;exact ⟨b,h n b h1,h2⟩
 | o n e i l=>
  simp only [FH,abQ] at q ⊢;obtain ⟨b,h1,h2⟩:=q;exact ⟨b,h n b h1,h2⟩
theorem iR {ρ ρ':gZ} (h:LU ρ ρ'):∀{l:List CV} {v:List Value},dF ρ l=some v→dF ρ' l=some v
 | [],_,q=>q
 | x::l,v,q=>by
  simp only [dF,adJ,abQ] at q ⊢;obtain ⟨y,h1,z,h2,h3⟩:=q;exact ⟨y,FI h h1,z,iR h h2,h3⟩
theorem aAt_ext {ρ ρ':gZ} (h:LU ρ ρ') {x:AV} {v:Value} (q:fP ρ x=some v):fP ρ' x=some v:=by
 cases x with
 | v y=>exact q
 | p n o=>exact FI (x:=.p n o) h q
 | c f b c=>
  simp only [fP,adJ,abQ] at q ⊢;obtain ⟨y,h1,z,h2,h3⟩:=q;exact ⟨y,iR h h1,z,iR h h2,h3⟩
 | s n o l c=>exact FI (x:=.s n o l c) h q
 | o n e i l=>exact FI (x:=.o n e i l) h q
 | t l=>
  simp only [fP,abQ] at q ⊢;obtain ⟨y,h1,h2⟩:=q;exact ⟨y,iR h h1,h2⟩
 | g l=>
  simp only [fP,abQ] at q ⊢;obtain ⟨y,h1,h2⟩:=q;exact ⟨y,iR h h1,h2⟩
theorem US {ρ ρ':gZ} (h:LU ρ ρ'):∀{l:List AV} {v:List Value},fD ρ l=some v→fD ρ' l=some v
 | [],_,q=>q
 | x::l,v,q=>by
  simp only [fD,adJ,abQ] at q ⊢;obtain ⟨y,h1,z,h2,h3⟩:=q;exact ⟨y,aAt_ext h h1,z,US h h2,h3⟩
theorem eO {ρ:gZ}:∀{l:List CV} {v:List Value},dF ρ l=some v→v.length=l.length
 | [],_,q=>by simp [dF] at q;subst q;rfl
 | x::l,v,q=>by
  simp only [dF,adJ,abQ] at q;obtain ⟨y,h1,z,h2,h3⟩:=q;subst h3;simp [eO h2]
theorem IG {ρ:gZ}:∀{l:List CV} {v:List Value} (_:dF ρ l=some v) (i:Nat),(l[i]?).bind (FH ρ)=v[i]?
 | [],_,q,i=>by simp [dF] at q;subst q;simp
 | x::l,v,q,i=>by
  simp only [dF,adJ,abQ] at q;obtain ⟨y,h1,z,h2,h3⟩:=q;subst h3;cases i with
  | zero=>simp [h1]
  | succ i=>simpa using IG h2 i
theorem fY {ρ:gZ}:∀{l m:List CV} {v u:List Value},dF ρ l=some v→dF ρ m=some u→dF ρ (l++m)=some (v++u)
 | [],_,_,_,q,h=>by simp [dF] at q;subst q;simpa using h
 | x::l,m,v,u,q,h=>by
  simp only [auJ,dF,adJ,abQ] at q ⊢;obtain ⟨y,h1,z,h2,h3⟩:=q;subst h3;exact ⟨y,h1,z++u,fY h2 h,rfl⟩
theorem jT {ρ:gZ}:∀{l:List CV} {v:List Value} (n:Nat),dF ρ l=some v→dF ρ (l.take n)=some (v.take n)
 | [],_,n,q=>by simp [dF] at q;subst q;simp [dF]
 | x::l,v,0,_=>by simp [dF]
 | x::l,v,n+1,q=>by
  simp only [dF,adJ,abQ,List.take_succ_cons] at q ⊢;obtain ⟨y,h1,z,h2,h3⟩:=q;subst h3;exact ⟨y,h1,z.take n,jT n h2,by simp⟩
theorem lM {ρ:gZ}:∀{l:List CV} {v:List Value} (n:Nat),dF ρ l=some v→dF ρ (l.drop n)=some (v.drop n)
 | [],_,n,q=>by simp [dF] at q;subst q;simp [dF]
 | x::l,v,0,q=>by simpa using q
 | x::l,v,n+1,q=>by
  simp only [dF,adJ,abQ] at q;obtain ⟨y,h1,z,h2,h3⟩:=q;subst h3;simpa using lM n h2
theorem UT {ρ:gZ}:∀{l:List AV} {v:List Value} (_:fD ρ l=some v) (i:Nat),(l[i]?).bind (fP ρ)=v[i]?
 | [],_,q,i=>by simp [fD] at q;subst q;simp
 | x::l,v,q,i=>by
  simp only [fD,adJ,abQ] at q;obtain ⟨y,h1,z,h2,h3⟩:=q;subst h3;cases i with
  | zero=>simp [h1]
  | succ i=>simpa using UT h2 i
theorem tY {ρ:gZ}:∀{l:List AV} {v:List Value},fD ρ l=some v→v.length=l.length
 | [],_,q=>by simp [fD] at q;subst q;rfl
 | x::l,v,q=>by
  simp only [fD,adJ,abQ] at q;obtain ⟨y,h1,z,h2,h3⟩:=q;subst h3;simp [tY h2]
theorem iK {ρ:gZ}:∀{l m:List AV} {v u:List Value},fD ρ l=some v→fD ρ m=some u→fD ρ (l++m)=some (v++u)
 | [],_,_,_,q,h=>by simp [fD] at q;subst q;simpa using h
 | x::l,m,v,u,q,h=>by
  simp only [auJ,fD,adJ,abQ] at q ⊢;obtain ⟨y,h1,z,h2,h3⟩:=q;subst h3;exact ⟨y,h1,z++u,iK h2 h,rfl⟩
theorem UV {ρ:gZ}:∀{l:List AV} {v:List Value} (n:Nat) {x:AV} {u:Value},fD ρ l=some v→fP ρ x=some u→fD ρ (l.set n x)=some (v.set n u)
 | [],_,n,_,_,q,_=>by simp [fD] at q;subst q;simp [fD]
 | x::l,v,0,y,u,q,h=>by
  simp only [fD,adJ,abQ] at q;obtain ⟨y',h1,z,h2,h3⟩:=q;subst h3;simp [fD,h,h2]
 | x::l,v,n+1,y,u,q,h=>by
  simp only [fD,adJ,abQ] at q;obtain ⟨y',h1,z,h2,h3⟩:=q;subst h3;simp [fD,h1,UV n h2 h]
theorem jR {ρ:gZ}:∀(l:List Value),fD ρ (l.map AV.v)=some l
 | []=>rfl
 | x::l=>by simp [fD,fP,jR l]
theorem lN {ρ:gZ}:∀(l:List Value),dF ρ (l.map CV.v)=some l
 | []=>rfl
 | x::l=>by simp [dF,FH,lN l]
theorem toA_at {ρ:gZ} (x:CV):fP ρ x.toA=FH ρ x:=by cases x<;>rfl
theorem tZ {ρ:gZ}:∀(l:List CV),fD ρ (l.map CV.toA)=dF ρ l
 | []=>rfl
 | x::l=>by simp [fD,dF,toA_at,tZ l]
theorem GN {ρ:gZ} (n:Nat) (x:Value):fD ρ (List.replicate n (.v x))=some (List.replicate n x):=by
 induction n with
 | zero=>rfl
 | succ n ih=>simp [List.replicate_succ,fD,fP,ih]
theorem PK {ρ:gZ}:∀{l:List CV} {vs:List Value},LV l=some vs→dF ρ l=some vs
 | [],_,q=>by simp [LV] at q;subst q;rfl
 | .v x::l,vs,q=>by
  simp only [LV] at q;split at q
  ·rename_i r hr;simp only [afZ.injEq] at q;subst q;simp [dF,FH,PK hr]
  ·cases q
 | .p _ _::_,_,q=>by simp [LV] at q
 | .s _ _ _ _::_,_,q=>by simp [LV] at q
 | .o _ _ _ _::_,_,q=>by simp [LV] at q
structure ML (ρ:gZ) (L:cF) (w:World):Prop where
 dom:∀n,(ρ n).isSome=(eR L n).isSome
 lt:∀n b,ρ n=some b→b.1<w.heap.size
 blk:∀n b k,ρ n=some b→eR L n=some k→k.cells≠[]→∃vs us ty,dF ρ k.cells=some vs∧w.heap[b.1]? =some (.cells ⟨vs++us⟩ ty (0,0))∧b.2.1=(vs++us).length∧(rwB k=true→ty=k.ty)
 flag:∀n b k,ρ n=some b→eR L n=some k→b.2.2≠none→rwB k=false∧k.cells≠[]
 ro:∀n b o,ρ n=some b→b.2.2=some o→w.heap[b.1]? =some o
 inj:∀n m b c k l,ρ n=some b→ρ m=some c→b.1=c.1→eR L n=some k→eR L m=some l→k.cells≠[]→l.cells≠[]→n=m
 glb:eJ w
 far:∀e∈GS,∀n b,ρ n=some b→b.1≠e.1
theorem ML.congr {ρ:gZ} {L L':cF} {w:World} (h:ML ρ L w) (e:∀n,eR L' n=eR L n):ML ρ L' w:=
 ⟨fun n=>by rw [e];exact h.dom n,h.lt,fun n b k q g=>h.blk n b k q (by rw [←e];exact g),fun n b k q g=>h.flag n b k q (by rw [←e];exact g),h.ro,fun n m b c k l q q' qe g g'=>h.inj n m b c k l q q' qe (by rw [←e];exact g) (by rw [←e];exact g'),h.glb,h.far⟩
theorem ML.free {ρ:gZ} {L:cF} {w:World} (h:ML ρ L w) {n:Nm} {b:Nat×Nat×Option Obj} {k:kJ} (hn:ρ n=some b) (g:eR L n=some k) (hk:rwB k=true):b.2.2=none:=by
 cases hb:b.2.2 with
 | none=>rfl
 | some o=>
  have:=(h.flag n b k hn g (by rw [hb];simp)).1;rw [this] at hk;cases hk
theorem ML.has {ρ:gZ} {L:cF} {w:World} (h:ML ρ L w) {n:Nm} {k:kJ} (g:eR L n=some k):∃b,ρ n=some b:=by
 have:=h.dom n;rw [g] at this;cases hq:ρ n with
 | none=>rw [hq] at this;cases this
 | some b=>exact ⟨b,rfl⟩
def MT (ρ:gZ) (τ:List AV) (a:Act):Prop:=a.defers=[]∧fD ρ τ=some a.tmps.toList
structure Nxt (ρ:gZ) (w:World) (ρ':gZ) (w':World):Prop where
 ext:LU ρ ρ'
 os:w'.os=w.os
 tape:w'.tape=w.tape
 output:w'.output=w.output
 size:w.heap.size≤w'.heap.size
 old:∀k,k<w.heap.size→(∀n b,ρ n=some b→b.1≠k)→w'.heap[k]? =w.heap[k]?
 new:∀n b,ρ' n=some b→ρ n=none→w.heap.size≤b.1∨∃m c,ρ m=some c∧c.1=b.1
theorem Nxt.refl (ρ:gZ) (w:World):Nxt ρ w ρ w:=⟨LU.refl ρ,rfl,rfl,rfl,aaJ _,fun _ _ _=>rfl,fun n b h q=>by rw [h] at q;cases q⟩
theorem Nxt.trans {ρ ρ₁ ρ₂:gZ} {w w₁ w₂:World} (h:Nxt ρ w ρ₁ w₁) (k:Nxt ρ₁ w₁ ρ₂ w₂):Nxt ρ w ρ₂ w₂ where
 ext:=h.ext.trans k.ext
 os:=k.os.trans h.os
 tape:=k.tape.trans h.tape
 output:=k.output.trans h.output
 size:=ahJ h.size k.size
 old:=fun i hi hn=>by
  rw [k.old i (apZ hi h.size) ?_,h.old i hi hn];intro n b q e;cases hr:ρ n with
  | none=>
   rcases h.new n b q hr with h1 | ⟨m,c,h1,h2⟩
   ·omega
   ·exact hn m c h1 (h2.trans e)
  | some c=>
   have:=h.ext n c hr;rw [q] at this;cases this;exact hn n b hr e
 new:=fun n b hb hn=>by
  cases hr:ρ₁ n with
  | none=>
   rcases k.new n b hb hr with h1 | ⟨m,c,h1,h2⟩
   ·exact .inl (ahJ h.size h1)
   ·cases hm:ρ m with
    | none=>
     rcases h.new m c h1 hm with h3 | ⟨m',c',h3,h4⟩
     ·exact .inl (by omega)
     ·exact .inr ⟨m',c',h3,h4.trans h2⟩
    | some d=>
     have:=h.ext m d hm;rw [h1] at this;cases this;exact .inr ⟨m,c,hm,h2⟩
  | some c=>
   have:=k.ext n c hr;rw [hb] at this;cases this;exact h.new n b hr hn
theorem Nxt.drew {ρ:gZ} {w:World}:Nxt ρ w ρ {w with drawn:=w.drawn+1}:=⟨LU.refl ρ,rfl,rfl,rfl,aaJ _,fun _ _ _=>rfl,fun n b h q=>by rw [h] at q;cases q⟩
theorem ML.drew {ρ:gZ} {L:cF} {w:World} (h:ML ρ L w):ML ρ L {w with drawn:=w.drawn+1}:=⟨h.dom,h.lt,h.blk,h.flag,h.ro,h.inj,h.glb,h.far⟩
def fI (P:Program) (f:FuncId) (args:List AV) (L:cF) (r:AV) (L':cF):Prop:=
 ∀ρ w vs,fD ρ args=some vs→ML ρ L w→Calls P f ⟨vs⟩ w fun e w'=>∃v ρ',e=.returned v∧Nxt ρ w ρ' w'∧fP ρ' r=some v∧ML ρ' L' w'
def wK (P:Program) (all:List Oper) (o:Oper) (τ:List AV) (L:cF) (v:AV) (U:cF) (rd:List Nm):Prop:=
 ∀ρ a w τ0 L0,MT ρ τ0 a→(∀t∈looks all o,gO τ0 t=gO τ t)→ML ρ L0 w→(∀n,n∈rd∨n∈fQ U→eR L0 n=eR L n)→
  ∀next Q,(∀ρ' w' u,Nxt ρ w ρ' w'→fP ρ' v=some u→ML ρ' (U++L0) w'→next (a.put o.dst u) w')→o.wp P a w next Q
theorem FP {ρ:gZ} {τ:List AV} {a:Act} (h:MT ρ τ a) (t:Nat):fP ρ (gO τ t)=some (a.tmps.getD t undef):=by
 have:=UT h.2 t;unfold gO;cases hx:τ[t]? with
 | none=>
  rw [hx] at this;simp only [Option.bind_none] at this;have h2:a.tmps[t]? =none:=by rw [←Array.getElem?_toList];exact this.symm
  simp [fP,h2]
 | some x=>
  rw [hx] at this;simp only [awQ] at this;rw [this];have hl:t<τ.length:=(List.getElem?_eq_some_iff.1 hx).1;have h3:=tY h.2;have h4:t<a.tmps.size:=by simp at h3;omega
  simp [h4]
theorem dH {ρ:gZ} {τ:List AV} {a:Act} (h:MT ρ τ a) (x:Operand):fP ρ (iI τ x)=some (a.eval x):=by
 cases x with
 | tmp t=>show fP ρ (LX τ t)=_;rw [oE];exact FP h t
 | const x=>rfl
 | global g=>rfl
 | func f=>rfl
theorem aZ {τ τ0:List AV} {all:List Oper} {o:Oper} (h:∀t∈looks all o,gO τ0 t=gO τ t) {x:Operand} (hx:x∈o.op.operands):iI τ0 x=iI τ x:=by
 cases x with
 | tmp t=>
  show LX τ0 t=LX τ t;rw [oE,oE];refine h t ?_;unfold looks;refine List.mem_append_left _ (List.mem_filterMap.2 ⟨.tmp t,by simpa using hx,rfl⟩)
 | _=>rfl
theorem MT.put {ρ:gZ} {τ:List AV} {a:Act} (h:MT ρ τ a) (d:Option Tmp) {x:AV} {u:Value} (hx:fP ρ x=some u):MT ρ (CG τ d x) (a.put d u):=by
 cases d with
 | none=>exact h
 | some d=>
  refine ⟨h.1,?_⟩;simp only [CG,pV,Act.put,Array.toList_setIfInBounds];exact UV d h.2 hx
theorem MT.ext {ρ ρ':gZ} (e:LU ρ ρ') {τ:List AV} {a:Act} (h:MT ρ τ a):MT ρ' τ a:=⟨h.1,US e h.2⟩
theorem MT.of_get {ρ:gZ} {τ τ':List AV} {a:Act} (h:MT ρ τ a) (hl:τ'.length=τ.length) (e:∀t,gO τ' t=gO τ t):MT ρ τ' a:=by
 have:τ'=τ:=by
  apply List.ext_getElem hl;intro i h1 h2;have:=e i;unfold gO at this;rw [List.getElem?_eq_getElem h1,List.getElem?_eq_getElem h2] at this;exact this
 rw [this];exact h
theorem val?_run {α:Type} {P:Program} {s:Sem α} {a:α}:val? P s=some a→∀w,s.run P w=.ok a w:=by
 induction s with
 | pure x=>intro h w;simp only [val?,afZ.injEq] at h;subst h;rfl
 | program k ih=>intro h w;exact ih P h w
 | mark m k ih=>intro h w;exact ih h w
 | _=>intro h;simp [val?] at h
end Ev
namespace Ev
open Go.RowKit
section
variable {P : Program} {all : List Oper} {o : Oper} {τ : List AV} {L : cF}
theorem iB {v:AV} (h:∀ρ a w τ0,MT ρ τ0 a→(∀t∈looks all o,gO τ0 t=gO τ t)→∃u,fP ρ v=some u∧(execOp a.eval o).run P w=.ok (.value u) w):
  wK P all o τ L v [] []:=by
 intro ρ a w τ0 L0 hM hl hL _ next Q hn
 obtain ⟨u,hu,hr⟩:=h ρ a w τ0 hM hl;unfold Oper.wp;rw [hr];exact hn ρ w u (Nxt.refl ρ w) hu (by simpa using hL)
theorem isV_v {x:AV} (h:isV x=true):∃v,x=.v v:=by cases x<;>simp [isV] at h;exact ⟨_,rfl⟩
theorem IX {ρ:gZ} {a:Act} {τ0:List AV} (hM:MT ρ τ0 a) (hl:∀t∈looks all o,gO τ0 t=gO τ t) {x:Operand} (hx:x∈o.op.operands) (hv:isV (iI τ x)=true):a.eval x=evV τ x:=by
 have h1:=dH hM x;rw [aZ hl hx] at h1;obtain ⟨v,e⟩:=isV_v hv;unfold evV;rw [e] at h1 ⊢;simp only [fP,afZ.injEq] at h1;exact h1.symm
theorem genA_run {v:AV} (hs:∀cs b,o.op≠.select cs b) (h:EW P τ o=some v) {ρ:gZ} {a:Act} {τ0:List AV} (hM:MT ρ τ0 a) (hl:∀t∈looks all o,gO τ0 t=gO τ t) (w:World):
  ∃u,fP ρ v=some u∧(execOp a.eval o).run P w=.ok (.value u) w:=by
 unfold EW at h;cases hv:pA τ o.op.operands.toList with
 | false=>rw [hv] at h;cases h
 | true=>
  rw [hv] at h;simp only [cond_true] at h;have e:execOp a.eval o=execOp (evV τ) o:=execOp_congr o hs fun x hx=>IX hM hl hx (by
   unfold pA at hv;rw [apJ] at hv;exact hv x (by simpa using hx))
  split at h
  ·rename_i u hu;simp only [afZ.injEq] at h;subst h;exact ⟨u,rfl,by rw [e];exact val?_run hu w⟩
  ·cases h
theorem opS_gen {v:AV} (hs:∀cs b,o.op≠.select cs b) (h:EW P τ o=some v):wK P all o τ L v [] []:=
 iB fun _ _ w _ hM hl=>genA_run hs h hM hl w
theorem opS_ev {x:Operand} (hx:x∈o.op.operands) (hr:∀ρ:Operand→Value,execOp ρ o=pure (.value (ρ x))):wK P all o τ L (iI τ x) [] []:=
 iB fun ρ a w τ0 hM hl=>by
  have h1:=dH hM x;rw [aZ hl hx] at h1;exact ⟨a.eval x,h1,by rw [hr];rfl⟩
theorem opS_move {x:Operand} (ho:o.op=.move x):wK P all o τ L (iI τ x) [] []:=
 opS_ev (by simp [ho,Op.operands]) fun ρ=>by simp [execOp,ho]
theorem opS_assign {x:Operand} (ho:o.op=.assign x):wK P all o τ L (iI τ x) [] []:=
 opS_ev (by simp [ho,Op.operands]) fun ρ=>by simp [execOp,ho]
theorem opS_pick {c x y:Operand} {t:Bool} (ho:o.op=.pick c x y) (hc:iI τ c=.v (.bool t)):wK P all o τ L (cond t (iI τ x) (iI τ y)) [] []:=
 iB fun ρ a w τ0 hM hl=>by
  have h1:=dH hM c;rw [aZ hl (by simp [ho,Op.operands]),hc] at h1;have h1:a.eval c=.bool t:=by simpa [fP] using h1.symm
  have h2:=dH hM x;rw [aZ hl (by simp [ho,Op.operands])] at h2;have h3:=dH hM y;rw [aZ hl (by simp [ho,Op.operands])] at h3;cases t
  ·exact ⟨a.eval y,h3,by simp [execOp,ho,h1,asBool]⟩
  ·exact ⟨a.eval x,h2,by simp [execOp,ho,h1,asBool]⟩
theorem LZ {s f:Nat} {x:Operand} {n:Nm} {off d:Nat} (ho:o.op=.fieldAddr s x f) (hx:iI τ x=.p n off) (hf:fieldA P s f=some d):wK P all o τ L (.p n (off+d)) [] []:=
 iB fun ρ a w τ0 hM hl=>by
  have h1:=dH hM x;rw [aZ hl (by simp [ho,Op.operands]),hx] at h1;simp only [fP,abQ] at h1;obtain ⟨b,hb,e⟩:=h1;unfold fieldA at hf;split at hf
  ·rename_i fs hu;split at hf
   ·rename_i fd hfd;split at hf
    ·rename_i i hi;cases hz:agJ i.size 0 with
     | true=>rw [hz] at hf;cases hf
     | false=>
      rw [hz] at hf;simp only [cond_false,afZ.injEq] at hf;subst hf;have hne:i.size≠0:=by intro q;rw [q] at hz;cases hz
      refine ⟨.pointer (some ⟨b.1,off+fd.offset,none⟩),by simp [fP,hb],?_⟩;simp [execOp,ho,Instr.fieldAt,run_underlying hu,hfd,←e,Instr.sureAddr,fieldPlace,sizeOf,typeInfo,hi,hne,Addr.add_mid]
    ·cases hf
   ·cases hf
  ·cases hf
theorem MA {t:Nat} {x y:Operand} {n:Nm} {k:IntKind} {ix:Int} {off d:Nat} (ho:o.op=.indexAddr t x y) (hx:iI τ x=.p n off) (hy:iI τ y=.v (.int k ix)) (hf:indexA P t ix=some d):wK P all o τ L (.p n (off+d)) [] []:=
 iB fun ρ a w τ0 hM hl=>by
  have h1:=dH hM x;rw [aZ hl (by simp [ho,Op.operands]),hx] at h1;simp only [fP,abQ] at h1;obtain ⟨b,hb,e⟩:=h1;have h2:=dH hM y;rw [aZ hl (by simp [ho,Op.operands]),hy] at h2;have h2:a.eval y=.int k ix:=by simpa [fP] using h2.symm
  unfold indexA at hf;split at hf
  ·rename_i len el hu;split at hf
   ·rename_i i hi;split at hf
    ·rename_i j _;cases hz:aiZ (j+1) len with
     | false=>rw [hz] at hf;cases hf
     | true=>
      rw [hz] at hf;simp only [cond_true,afZ.injEq] at hf;subst hf;have hlt:j+1≤len:=aeQ hz;refine ⟨.pointer (some ⟨b.1,off+j*i.size,none⟩),by simp [fP,hb],?_⟩;have h3:(0:Int)≤Int.ofNat j∧Int.ofNat j<(len:Int):=by
       constructor
       ·exact Int.natCast_nonneg j
       ·show (j:Int)<len;omega
      have h4:(Int.ofNat j)<(len:Int):=h3.2;simp [execOp,ho,Instr.indexAt,asIntOf,h2,run_underlying hu,←e,Instr.sureAddr,sizeOf,typeInfo,hi,Addr.add_mid];omega
    ·cases hf
   ·cases hf
  ·cases hf
theorem JZ {t:Nat} {x y:Operand} {n:Nm} {k:IntKind} {ix:Int} {off len cp d:Nat} (ho:o.op=.indexAddr t x y) (hx:iI τ x=.s n off len cp) (hy:iI τ y=.v (.int k ix)) (hf:BW P t len ix=some d):wK P all o τ L (.p n (off+d)) [] []:=
 iB fun ρ a w τ0 hM hl=>by
  have h1:=dH hM x;rw [aZ hl (by simp [ho,Op.operands]),hx] at h1;simp only [fP,abQ] at h1;obtain ⟨b,hb,e⟩:=h1;have h2:=dH hM y;rw [aZ hl (by simp [ho,Op.operands]),hy] at h2;have h2:a.eval y=.int k ix:=by simpa [fP] using h2.symm
  unfold BW at hf;split at hf
  ·rename_i el hu;split at hf
   ·rename_i i hi;split at hf
    ·rename_i j _;cases hz:aiZ (j+1) len with
     | false=>rw [hz] at hf;cases hf
     | true=>
      rw [hz] at hf;simp only [cond_true,afZ.injEq] at hf;subst hf;have hlt:j+1≤len:=aeQ hz;refine ⟨.pointer (some ⟨b.1,off+j*i.size,none⟩),by simp [fP,hb],?_⟩;simp [execOp,ho,Instr.indexAt,asIntOf,h2,run_underlying hu,←e,sizeOf,typeInfo,hi,Addr.add_mid];omega
    ·cases hf
   ·cases hf
  ·cases hf
theorem MB {t:Nat} {x y:Operand} {n:Nm} {k:IntKind} {ix:Int} {e i0 len d:Nat} (ho:o.op=.indexAddr t x y) (hx:iI τ x=.o n e i0 len) (hy:iI τ y=.v (.int k ix)) (hf:BW P t len ix=some d):wK P all o τ L (.p n (i0*e+d)) [] []:=
 iB fun ρ a w τ0 hM hl=>by
  have h1:=dH hM x;rw [aZ hl (by simp [ho,Op.operands]),hx] at h1;simp only [fP,abQ] at h1;obtain ⟨b,hb,ee⟩:=h1;have h2:=dH hM y;rw [aZ hl (by simp [ho,Op.operands]),hy] at h2;have h2:a.eval y=.int k ix:=by simpa [fP] using h2.symm
  unfold BW at hf;split at hf
  ·rename_i el hu;split at hf
   ·rename_i i hi;split at hf
    ·rename_i j _;cases hz:aiZ (j+1) len with
     | false=>rw [hz] at hf;cases hf
     | true=>
      rw [hz] at hf;simp only [cond_true,afZ.injEq] at hf;subst hf;have hlt:j+1≤len:=aeQ hz;refine ⟨.pointer (some ⟨b.1,i0*e+j*i.size,none⟩),by simp [fP,hb],?_⟩;simp [execOp,ho,Instr.indexAt,asIntOf,h2,run_underlying hu,←ee,sizeOf,typeInfo,hi,Addr.add_mid];omega
    ·cases hf
   ·cases hf
  ·cases hf
theorem BI {ρ:gZ} {a:Act} {τ0:List AV} (hM:MT ρ τ0 a) (hl:∀t∈looks all o,gO τ0 t=gO τ t) {d k:Nat} {x:Operand} (hx:x∈o.op.operands) (h:bound τ d (some x)=some k):∃q,a.eval x=.int q (k:Int):=by
 simp only [bound] at h;split at h
 ·rename_i q j e;simp only [afZ.injEq] at h;subst h;have h1:=dH hM x;rw [aZ hl hx,e] at h1;exact ⟨q,by simpa [fP] using h1.symm⟩
 ·cases h
theorem nU {ρ:gZ} {a:Act} {τ0:List AV} (hM:MT ρ τ0 a) (hl:∀t∈looks all o,gO τ0 t=gO τ t) {is:Bool} {len m l h:Nat} {lo hi:Option Operand} (h1:∀x,lo=some x→x∈o.op.operands) (h2:∀x,hi=some x→x∈o.op.operands)
  (hlo:bound τ 0 lo=some l) (hhi:bound τ len hi=some h) (hlh:l≤h) (hhm:h≤m) (w:World):(Instr.sliceBounds is len m (lo.map a.eval) (hi.map a.eval) none).run P w=.ok (l,h,m) w:=by
 have sb:∀(x:Operand) (q:IntKind) (v y:Nat) (c:BoundsCode),a.eval x=.int q (v:Int)→v≤y→(Instr.sliceBound (a.eval x) y c).run P w=.ok v w:=fun x q v y c e hv=>by
  simp [Instr.sliceBound,e,asIntOf];omega
 cases lo with
 | none=>
  simp only [bound,afZ.injEq] at hlo;subst hlo;cases hi with
  | none=>
   simp only [bound,afZ.injEq] at hhi;subst hhi;simp [Instr.sliceBounds]
  | some y=>
   obtain ⟨q,e⟩:=BI hM hl (h2 y rfl) hhi;simp [Instr.sliceBounds,sb y q h m _ e hhm]
 | some x=>
  obtain ⟨q',e'⟩:=BI hM hl (h1 x rfl) hlo;cases hi with
  | none=>
   simp only [bound,afZ.injEq] at hhi;subst hhi;simp [Instr.sliceBounds,sb x q' l len _ e' hlh]
  | some y=>
   obtain ⟨q,e⟩:=BI hM hl (h2 y rfl) hhi;simp [Instr.sliceBounds,sb y q h m _ e hhm,sb x q' l h _ e' hlh]
theorem opS_slice {t:Nat} {x:Operand} {lo hi:Option Operand} {v:AV} (ho:o.op=.slice t x lo hi none) (hv:sliceA P τ t (iI τ x) lo hi=some v):wK P all o τ L v [] []:=
 iB fun ρ a w τ0 hM hl=>by
  have h1:=dH hM x;rw [aZ hl (by simp [ho,Op.operands])] at h1;have m1:∀y,lo=some y→y∈o.op.operands:=fun y e=>by subst e;simp [ho,Op.operands]
  have m2:∀y,hi=some y→y∈o.op.operands:=fun y e=>by subst e;simp [ho,Op.operands]
  unfold sliceA at hv;split at hv
  ·rename_i n off m e hx hu;rw [hx] at h1;simp only [fP,abQ] at h1;obtain ⟨b,hb,ex⟩:=h1;split at hv
   ·rename_i i l h hi' hlo hhi;cases hc:(aiZ l h&&aiZ h m) with
    | false=>rw [hc] at hv;cases hv
    | true=>
     rw [hc] at hv;simp only [cond_true,afZ.injEq] at hv;subst hv;simp only [Bool.and_eq_true] at hc;have c1:l≤h:=aeQ hc.1;have c2:h≤m:=aeQ hc.2;have hr:=nU (P:=P) (is:=false) hM hl m1 m2 hlo hhi c1 c2 w;refine ⟨.slice (some ⟨b.1,cond (agJ m l) off (off+l*i.size),none⟩) (h-l) (m-l),by simp [fP,hb],?_⟩;cases hm:agJ m l with
     | true=>
      have:m=l:=adX hm;subst this;simp [execOp,ho,Instr.sliceAt,run_underlying hu,←ex,Instr.sureAddr,hr,sizeOf,typeInfo,hi']
     | false=>
      have:m≠l:=fun q=>by subst q;simp at hm
      simp [execOp,ho,Instr.sliceAt,run_underlying hu,←ex,Instr.sureAddr,hr,sizeOf,typeInfo,hi',this,Addr.add_mid]
   ·cases hv
  ·rename_i n off len m e hx hu;rw [hx] at h1;simp only [fP,abQ] at h1;obtain ⟨b,hb,ex⟩:=h1;split at hv
   ·rename_i i l h hi' hlo hhi;cases hc:(aiZ l h&&aiZ h m) with
    | false=>rw [hc] at hv;cases hv
    | true=>
     rw [hc] at hv;simp only [cond_true,afZ.injEq] at hv;subst hv;simp only [Bool.and_eq_true] at hc;have c1:l≤h:=aeQ hc.1;have c2:h≤m:=aeQ hc.2;have hr:=nU (P:=P) (is:=true) hM hl m1 m2 hlo hhi c1 c2 w;refine ⟨.slice (some ⟨b.1,cond (agJ m l) off (off+l*i.size),none⟩) (h-l) (m-l),by simp [fP,hb],?_⟩;cases hm:agJ m l with
     | true=>
      have:m=l:=adX hm;subst this;simp [execOp,ho,Instr.sliceAt,Instr.slice,run_underlying hu,←ex,hr,sizeOf,typeInfo,hi']
     | false=>
      have:m≠l:=fun q=>by subst q;simp at hm
      simp [execOp,ho,Instr.sliceAt,Instr.slice,run_underlying hu,←ex,hr,sizeOf,typeInfo,hi',this,Addr.add_mid]
   ·cases hv
  ·cases hv
theorem opS_len {c:Call} {v:AV} (ho:o.op=.call c) (hv:lenA P τ c=some v):wK P all o τ L v [] []:=
 iB fun ρ a w τ0 hM hl=>by
  unfold lenA at hv;split at hv
  ·rename_i x t hc ha ht;split at hv
   ·rename_i n off len cp e hx hu;simp only [afZ.injEq] at hv;subst hv;have hm:x∈o.op.operands:=by
     simp only [ho,Op.operands,Call.operands];refine Array.mem_append.2 (.inr ?_);have:x∈c.args.toList:=by rw [ha];simp
     simpa using this
    have h1:=dH hM x;rw [aZ hl hm,hx] at h1;simp only [fP,abQ] at h1;obtain ⟨b,hb,ex⟩:=h1;have ea:c.args= #[x]:=by apply akX.1;rw [ha]
    have et:c.argTypes= #[t]:=by apply akX.1;rw [ht]
    refine ⟨_,rfl,?_⟩;simp [execOp,ho,resolve,hc,ea,et,invoke,builtin,Builtin.len_,run_underlying hu,←ex,goInt]
   ·rename_i n el lo len e hx hu;simp only [afZ.injEq] at hv;subst hv;have hm:x∈o.op.operands:=by
     simp only [ho,Op.operands,Call.operands];refine Array.mem_append.2 (.inr ?_);have:x∈c.args.toList:=by rw [ha];simp
     simpa using this
    have h1:=dH hM x;rw [aZ hl hm,hx] at h1;simp only [fP,abQ] at h1;obtain ⟨b,hb,ex⟩:=h1;have ea:c.args= #[x]:=by apply akX.1;rw [ha]
    have et:c.argTypes= #[t]:=by apply akX.1;rw [ht]
    refine ⟨_,rfl,?_⟩;simp [execOp,ho,resolve,hc,ea,et,invoke,builtin,Builtin.len_,run_underlying hu,←ex,goInt]
   ·cases hv
  ·cases hv
theorem FY {x:Operand} (ho:o.op=.nilCheck x) (hx:∀v,iI τ x≠.v v) (hx':∀l,iI τ x≠.t l) (hx2:∀l,iI τ x≠.g l):wK P all o τ L (iI τ x) [] []:=
 iB fun ρ a w τ0 hM hl=>by
  have h1:=dH hM x;rw [aZ hl (by simp [ho,Op.operands])] at h1;refine ⟨a.eval x,h1,?_⟩;cases hq:iI τ x with
  | v v=>exact absurd hq (hx v)
  | p n off=>
   rw [hq] at h1;simp only [fP,abQ] at h1;obtain ⟨b,hb,e⟩:=h1;simp [execOp,ho,←e]
  | c f b c=>
   rw [hq] at h1;simp only [fP,adJ,abQ] at h1;obtain ⟨y,h1,z,h2,h3⟩:=h1;simp [execOp,ho,←h3]
  | s n off l c=>
   rw [hq] at h1;simp only [fP,abQ] at h1;obtain ⟨b,hb,e⟩:=h1;simp [execOp,ho,←e]
  | o n off l c=>
   rw [hq] at h1;simp only [fP,abQ] at h1;obtain ⟨b,hb,e⟩:=h1;simp [execOp,ho,←e]
  | t l=>exact absurd hq (hx' l)
  | g l=>exact absurd hq (hx2 l)
theorem opS_div {op:BinOp} {t yt:Nat} {x y:Operand} {q:Bool} {a b:Int} (ho:o.op=.binOp op t x y yt) (hq:divOp op=some q) (hx:iI τ x=.v (.int .i64 a)) (hy:iI τ y=.v (.int .i64 b)) (hb:b≠0):
  wK P all o τ L (.v (.int .i64 (cond q (IntKind.i64.wrap (a.tdiv b)) (a.tmod b)))) [] []:=
 iB fun ρ c w τ0 hM hl=>by
  refine ⟨_,rfl,?_⟩;have h1:=dH hM x;rw [aZ hl (by simp [ho,Op.operands]),hx] at h1;have h1:c.eval x=.int .i64 a:=by simpa [fP] using h1.symm
  have h2:=dH hM y;rw [aZ hl (by simp [ho,Op.operands]),hy] at h2;have h2:c.eval y=.int .i64 b:=by simpa [fP] using h2.symm
  cases op<;>simp [divOp] at hq;all_goals
   subst hq;simp [execOp,ho,h1,h2,eqGuard,binOp,Op.intDiv,hb]
theorem opS_build {t:Nat} {ps:Array (Nat×Operand)} {cells:Array Value} (ho:o.op=.build t ps) (hv:pA τ (ps.toList.map (·.2))=true)
  (hb:P.built t (ps.toList.map fun q=>(q.1,evV τ q.2))=some cells):wK P all o τ L (.v (.agg cells)) [] []:=
 iB fun ρ a w τ0 hM hl=>by
  refine ⟨_,rfl,?_⟩;have e:(ps.map fun (i,x)=>(i,a.eval x)).toList=ps.toList.map fun q=>(q.1,evV τ q.2):=by
   rw [Array.toList_map];refine List.map_congr_left fun q hq=>?_;obtain ⟨i,x⟩:=q;simp only;rw [IX (τ:=τ) hM hl (x:=x)]
   ·rw [ho];simp only [Op.operands];have:x∈ps.toList.map (·.2):=List.mem_map.2 ⟨(i,x),hq,rfl⟩;simpa using this
   ·unfold pA at hv;rw [apJ] at hv;exact hv x (List.mem_map.2 ⟨(i,x),hq,rfl⟩)
  have:=run_build (P:=P) w t (ps.map fun (i,x)=>(i,a.eval x)) cells (by rw [e];exact hb);simp [execOp,ho,this]
theorem yU {ρ:gZ} {x:AV} {cs:List CV} {v:Value} (h:nH x=some cs) (hx:fP ρ x=some v):dF ρ cs=some v.cells.toList:=by
 cases x with
 | v y=>
  simp only [nH,afZ.injEq,fP] at h hx;subst h hx;exact lN _
 | p n o=>
  simp only [nH,afZ.injEq] at h;subst h;simp only [fP,abQ] at hx;obtain ⟨b,hb,e⟩:=hx;subst e;simp [dF,FH,hb,Value.cells]
 | c f b c=>cases h
 | s n o l c=>
  simp only [nH,afZ.injEq] at h;subst h;simp only [fP,abQ] at hx;obtain ⟨b,hb,e⟩:=hx;subst e;simp [dF,FH,hb,Value.cells]
 | o n e i l=>
  simp only [nH,afZ.injEq] at h;subst h;simp only [fP,abQ] at hx;obtain ⟨b,hb,e⟩:=hx;subst e;simp [dF,FH,hb,Value.cells]
 | t l=>cases h
 | g l=>
  simp only [nH,afZ.injEq] at h;subst h;simp only [fP,abQ] at hx;obtain ⟨vs,hb,e⟩:=hx;subst e;exact hb
theorem NK (off:Nat):∀(l:List Value) (j:Nat) (cs:List Value),off+j+l.length≤cs.length→
  ((l.zipIdx j).foldl (fun (cs:Array Value) (p:Value×Nat)=>cs.setIfInBounds (off+p.2) p.1) cs.toArray).toList=cs.take (off+j)++l++cs.drop (off+j+l.length)
 | [],j,cs,_=>by simp
 | v::l,j,cs,h=>by
  simp only [List.length_cons] at h;rw [List.zipIdx_cons,List.foldl_cons];have e1:cs.toArray.setIfInBounds (off+j) v=(cs.set (off+j) v).toArray:=by apply akX.1;simp
  (try dsimp only)
  rw [e1,NK off l (j+1) (cs.set (off+j) v) (by simp;omega)];have e:=list_seg_step cs (off+j) v l (by omega);simpa [Nat.add_assoc,Nat.add_comm,Nat.add_left_comm] using e
theorem WK {ρ:gZ} {place:Nat→Option (Nat×Nat)} {a:Act}:∀{ps:List (Nat×Operand)} {f:Operand→AV} (_:∀q∈ps,fP ρ (f q.2)=some (a.eval q.2)) {cs:List CV} {vs:List Value} {out:List CV},dF ρ cs=some vs→
  WJ place cs (ps.map fun q=>(q.1,f q.2))=some out→∃us,dF ρ out=some us∧Instr.fill place vs.toArray (ps.map fun q=>(q.1,a.eval q.2))=some us.toArray
 | [],f,_,cs,vs,out,hc,h=>by
  simp only [List.map_nil,WJ,afZ.injEq] at h;subst h;exact ⟨vs,hc,rfl⟩
 | (i,x)::l,f,hf,cs,vs,out,hc,h=>by
  simp only [auQ,WJ] at h;split at h
  ·rename_i off size xs hp hx;cases hb:(agJ xs.length size&&aiZ (off+xs.length) cs.length) with
   | false=>rw [hb] at h;cases h
   | true=>
    rw [hb] at h;simp only [cond_true] at h;simp only [Bool.and_eq_true] at hb;have b1:xs.length=size:=adX hb.1;have b2:=aeQ hb.2;have h1:=yU hx (hf (i,x) (by simp));have h2:=eO h1;have h3:=eO hc;obtain ⟨us,h4,h5⟩:=WK (fun q hq=>hf q (by simp [hq])) (fY (fY (jT off hc) h1) (lM (off+xs.length) hc)) h;refine ⟨us,h4,?_⟩;simp only [Array.length_toList] at h2;have n1:¬((a.eval x).cells.size≠size∨off+(a.eval x).cells.size>vs.toArray.size):=by simp;omega
    have h6:=NK off (a.eval x).cells.toList 0 vs (by simp;omega);simp only [avJ,Array.length_toList] at h6;have h7:(a.eval x).cells.zipIdx.foldl (fun (cs:Array Value) (p:Value×Nat)=>cs.setIfInBounds (off+p.2) p.1) vs.toArray=(vs.take off++(a.eval x).cells.toList++vs.drop (off+xs.length)).toArray:=by
     apply akX.1;rw [←Array.foldl_toList,Array.toList_zipIdx,h6];simp [h2]
    simp only [auQ,Instr.fill,hp];rw [if_neg (by simpa using n1)];rw [←h5];congr 1
  ·cases h
theorem opS_buildC {t:Nat} {ps:Array (Nat×Operand)} {cells:List CV} (ho:o.op=.build t ps) (hb:builtC P t (ps.toList.map fun q=>(q.1,iI τ q.2))=some cells):wK P all o τ L (.g cells) [] []:=
 iB fun ρ a w τ0 hM hl=>by
  unfold builtC at hb;split at hb
  ·rename_i it fields hit hu;split at hb
   ·rename_i z places hz hpl;have hf:∀q∈ps.toList,fP ρ (iI τ q.2)=some (a.eval q.2):=fun q hq=>by
     have h1:=dH hM q.2;rw [aZ hl (by
      rw [ho];simp only [Op.operands];have:q.2∈ps.toList.map (·.2):=List.mem_map.2 ⟨q,hq,rfl⟩;simpa using this)] at h1
     exact h1
    obtain ⟨us,h2,h3⟩:=WK hf (lN (ρ:=ρ) z.cells.toList) hb;refine ⟨.agg ⟨us⟩,by simp only [fP,h2,ayZ],?_⟩;have e:(ps.map fun (i,x)=>(i,a.eval x)).toList=ps.toList.map fun q=>(q.1,a.eval q.2):=by rw [Array.toList_map]
    have:=run_build (P:=P) w t (ps.map fun (i,x)=>(i,a.eval x)) us.toArray (by
     unfold Program.built;rw [hit,hu]
     (try dsimp only)
     rw [hz,hpl,e]
     (try dsimp only)
     rw [←h3];congr 1;funext x;simp)
    simp [execOp,ho,this]
   ·cases hb
  ·cases hb
theorem opS_eq {op:BinOp} {t yt:Nat} {x y:Operand} {xs ys:Array Value} {b r:Bool} (hE:∀w,(Op.equalIn 10000 t (.agg xs) (.agg ys)).run P w=.ok r w) (hg:P.eqGuardType P.depth t=false)
  (ho:o.op=.binOp op t x y yt) (hop:isEq op=some b) (hx:iI τ x=.v (.agg xs)) (hy:iI τ y=.v (.agg ys)):wK P all o τ L (.v (.bool (cond b r (!r)))) [] []:=
 iB fun ρ a w τ0 hM hl=>by
  refine ⟨_,rfl,?_⟩;have h1:=dH hM x;rw [aZ hl (by simp [ho,Op.operands]),hx] at h1;have h1:a.eval x=.agg xs:=by simpa [fP] using h1.symm
  have h2:=dH hM y;rw [aZ hl (by simp [ho,Op.operands]),hy] at h2;have h2:a.eval y=.agg ys:=by simpa [fP] using h2.symm
  have hge:=run_eqGuard_agg (P:=P) w op t x y xs ys hg;cases op<;>simp [isEq] at hop;all_goals
   subst hop;simp [execOp,ho,h1,h2,hge,run_eql_struct,run_neq_struct,hE,Result.andThen]
theorem ML.allocU {ρ:gZ} {w:World} (h:ML ρ L w) {nm:Nm} (hn:eR L nm=none) {cs:List CV} {vs:List Value} (hc:dF ρ cs=some vs) (us:List Value) (t:TypeId):
  ∃ρ',ρ' nm=some (w.heap.size,(vs++us).length,none)∧Nxt ρ w ρ' (w.alloc (.cells ⟨vs++us⟩ t))∧ML ρ' ((nm,⟨cs,t⟩)::L) (w.alloc (.cells ⟨vs++us⟩ t)):=by
 have hρ:ρ nm=none:=by
  have:=h.dom nm;rw [hn] at this;cases hq:ρ nm with
  | none=>rfl
  | some b=>rw [hq] at this;cases this
 have hext:LU ρ (fun m=>if nm=m then some (w.heap.size,(vs++us).length,none) else ρ m):=fun m b q=>by
  (try dsimp only)
  rw [if_neg (fun e=>by rw [←e,hρ] at q;cases q)];exact q
 refine ⟨fun m=>if nm=m then some (w.heap.size,(vs++us).length,none) else ρ m,by simp,⟨hext,rfl,rfl,rfl,by simp,fun k hk _=>heap_alloc_old w _ k hk,?_⟩,⟨?_,?_,?_,?_,?_,?_,h.glb.of fun g hg _=>heap_alloc_old w _ g hg,fun e he m b q=>?_⟩⟩
 ·intro m b q q2
  (try dsimp only at q)
  split at q
  ·cases q;exact .inl (aaJ _)
  ·rw [q2] at q;cases q
 ·intro m;rw [bN]
  (try dsimp only)
  split
  ·rfl
  ·exact h.dom m
 ·intro m b q
  (try dsimp only at q)
  split at q
  ·cases q;simp
  ·have:=h.lt m b q;simp;omega
 ·intro m b k q hg hk
  (try dsimp only at q)
  rw [bN] at hg;split at q
  ·rename_i e;rw [if_pos e] at hg;cases hg;cases q;exact ⟨vs,us,t,iR hext hc,heap_alloc_new w _,rfl,fun _=>rfl⟩
  ·rename_i e;rw [if_neg e] at hg;obtain ⟨xs,ys,ty,h1,h2,h3,h4⟩:=h.blk m b k q hg hk;exact ⟨xs,ys,ty,iR hext h1,by rw [heap_alloc_old w _ b.1 (h.lt m b q)];exact h2,h3,h4⟩
 ·intro m b k q hg hz
  (try dsimp only at q)
  rw [bN] at hg;split at q
  ·cases q;exact absurd rfl hz
  ·rename_i e;rw [if_neg e] at hg;exact h.flag m b k q hg hz
 ·intro m b o q hz
  (try dsimp only at q)
  split at q
  ·cases q;cases hz
  ·rw [heap_alloc_old w _ b.1 (h.lt m b q)];exact h.ro m b o q hz
 ·intro m m' b c k l q q' qe hg hg' hk hl
  (try dsimp only at q q')
  rw [bN] at hg hg';split at q<;>split at q'
  ·rename_i e e';exact e.symm.trans e'
  ·cases q;have:=h.lt _ _ q';rw [←qe] at this;exact absurd this (Nat.lt_irrefl _)
  ·cases q';have:=h.lt _ _ q;rw [qe] at this;exact absurd this (Nat.lt_irrefl _)
  ·rename_i e e';rw [if_neg e] at hg;rw [if_neg e'] at hg';exact h.inj m m' b c k l q q' qe hg hg' hk hl
 ·(try dsimp only at q)
  split at q
  ·have:=h.glb.lt he;cases q
   (try dsimp only)
   omega
  ·exact h.far e he m b q
theorem ML.alloc {ρ:gZ} {w:World} (h:ML ρ L w) {nm:Nm} (hn:eR L nm=none) {cs:List CV} {vs:List Value} (hc:dF ρ cs=some vs) (t:TypeId):
  ∃ρ' c,ρ' nm=some (w.heap.size,c,none)∧Nxt ρ w ρ' (w.alloc (.cells ⟨vs⟩ t))∧ML ρ' ((nm,⟨cs,t⟩)::L) (w.alloc (.cells ⟨vs⟩ t)):=by
 obtain ⟨ρ',h1,h2,h3⟩:=h.allocU hn hc [] t;rw [awJ] at h1 h2 h3;exact ⟨ρ',_,h1,h2,h3⟩
theorem ML.set {ρ:gZ} {w:World} (h:ML ρ L w) {n:Nm} {b:Nat×Nat×Option Obj} (hn:ρ n=some b) {k:kJ} (hk:eR L n=some k) (hl:k.cells≠[]) {cs:List CV} {vs:List Value} (hc:dF ρ cs=some vs) (us:List Value) (hb:b.2.1=(vs++us).length) (hz:b.2.2=none):
  Nxt ρ w ρ (w.setRow b.1 ⟨vs++us⟩)∧ML ρ ((n,⟨cs,k.ty⟩)::L) (w.setRow b.1 ⟨vs++us⟩):=by
 obtain ⟨xs,ys,ty,_,h2,h3,h3b⟩:=h.blk n b k hn hk hl;refine ⟨⟨LU.refl ρ,rfl,rfl,rfl,by simp,fun j _ hj=>setRow_other w b.1 j _ (fun e=>hj n b hn e.symm),fun m c q q'=>by rw [q] at q';cases q'⟩,⟨?_,?_,?_,?_,?_,?_,h.glb.of fun g hg hx=>setRow_other w b.1 g _ (fun q=>by obtain ⟨e,he,h5⟩:=hx;exact h.far e he n b hn (by rw [h5,q])),h.far⟩⟩
 ·intro m;rw [bN];split
  ·rename_i e;subst e;rw [hn];rfl
  ·exact h.dom m
 ·intro m c q;have:=h.lt m c q;simpa using this
 ·intro m c l q hg hll;rw [bN] at hg;split at hg
  ·rename_i e;subst e;cases hg;rw [hn] at q;cases q;exact ⟨vs,us,ty,hc,setRow_heap w b.1 _ _ _ _ h2,hb,h3b⟩
  ·rename_i e;obtain ⟨zs,zu,tz,h4,h5,h6,h7⟩:=h.blk m c l q hg hll;refine ⟨zs,zu,tz,h4,?_,h6,h7⟩;rw [setRow_other w b.1 c.1 _ (fun e2=>e (h.inj n m b c k l hn q e2.symm hk hg hl hll))];exact h5
 ·intro m c l q hg hy;rw [bN] at hg;split at hg
  ·rename_i e;subst e;rw [hn] at q;cases q;exact absurd hz hy
  ·exact h.flag m c l q hg hy
 ·intro m c o q hy;have hne:c.1≠b.1:=fun e=>by
   cases hg:eR L m with
   | none=>have:=h.dom m;rw [q,hg] at this;cases this
   | some l=>
    have hf:=h.flag m c l q hg (by rw [hy];simp);have:=h.inj n m b c k l hn q e.symm hk hg hl hf.2;subst this;rw [hn] at q;cases q;rw [hz] at hy;cases hy
  rw [setRow_other w b.1 c.1 _ hne];exact h.ro m c o q hy
 ·intro m m' c c' l l' q q' qe hg hg' hll hll';rw [bN] at hg hg';split at hg<;>split at hg'
  ·rename_i e e';exact e.symm.trans e'
  ·rename_i e e';subst e;exact h.inj n m' c c' k l' q q' qe hk hg' hl hll'
  ·rename_i e e';subst e';exact h.inj m n c c' l k q q' qe hg hk hll hl
  ·exact h.inj m m' c c' l l' q q' qe hg hg' hll hll'
theorem ML.kill {ρ:gZ} {w:World} (h:ML ρ L w) {n:Nm} {b:Nat×Nat×Option Obj} (hn:ρ n=some b) (hz:b.2.2=none) (t:TypeId):ML ρ ((n,⟨[],t⟩)::L) w:=by
 refine ⟨?_,h.lt,?_,?_,h.ro,?_,h.glb,h.far⟩
 ·intro m;rw [bN];split
  ·rename_i e;subst e;rw [hn];rfl
  ·exact h.dom m
 ·intro m c l q hg hll;rw [bN] at hg;split at hg
  ·cases hg;exact absurd rfl hll
  ·exact h.blk m c l q hg hll
 ·intro m c l q hg hy;rw [bN] at hg;split at hg
  ·rename_i e;subst e;rw [hn] at q;cases q;exact absurd hz hy
  ·exact h.flag m c l q hg hy
 ·intro m m' c c' l l' q q' qe hg hg' hll hll';rw [bN] at hg hg';split at hg
  ·cases hg;exact absurd rfl hll
  ·split at hg'
   ·cases hg';exact absurd rfl hll'
   ·exact h.inj m m' c c' l l' q q' qe hg hg' hll hll'
theorem ML.move {ρ:gZ} {w:World} (h:ML ρ L w) {n nm:Nm} {b:Nat×Nat×Option Obj} (hn:ρ n=some b) {k:kJ} (hk:eR L n=some k) (hl:k.cells≠[]) (hnm:eR L nm=none) {cs:List CV} {vs:List Value} (hc:dF ρ cs=some vs) (us:List Value) (hb:b.2.1=(vs++us).length) (hz:b.2.2=none) (t:TypeId):
  ∃ρ',ρ' nm=some b∧Nxt ρ w ρ' (w.setRow b.1 ⟨vs++us⟩)∧ML ρ' ((nm,⟨cs,k.ty⟩)::(n,⟨[],t⟩)::L) (w.setRow b.1 ⟨vs++us⟩):=by
 obtain ⟨xs,ys,ty,_,h2,h3,h3b⟩:=h.blk n b k hn hk hl;have hρ:ρ nm=none:=by
  have:=h.dom nm;rw [hnm] at this;cases hq:ρ nm with
  | none=>rfl
  | some b=>rw [hq] at this;cases this
 have hne:nm≠n:=fun e=>by rw [e,hn] at hρ;cases hρ
 have hext:LU ρ (fun m=>if nm=m then some b else ρ m):=fun m c q=>by
  (try dsimp only)
  rw [if_neg (fun e=>by rw [←e,hρ] at q;cases q)];exact q
 refine ⟨fun m=>if nm=m then some b else ρ m,by simp,⟨hext,rfl,rfl,rfl,by simp,fun j _ hj=>setRow_other w b.1 j _ (fun e=>hj n b hn e.symm),?_⟩,⟨?_,?_,?_,?_,?_,?_,h.glb.of fun g hg hx=>setRow_other w b.1 g _ (fun q=>by obtain ⟨e,he,h5⟩:=hx;exact h.far e he n b hn (by rw [h5,q])),fun e he m c q=>?_⟩⟩
 ·intro m c q q2
  (try dsimp only at q)
  split at q
  ·cases q;exact .inr ⟨n,b,hn,rfl⟩
  ·rw [q2] at q;cases q
 ·intro m;rw [bN,bN]
  (try dsimp only)
  split
  ·rfl
  ·split
   ·rename_i e;subst e;rw [hn];rfl
   ·exact h.dom m
 ·intro m c q
  (try dsimp only at q)
  split at q
  ·cases q;have:=h.lt n b hn;simpa using this
  ·have:=h.lt m c q;simpa using this
 ·intro m c l q hg hll
  (try dsimp only at q)
  rw [bN,bN] at hg;split at q
  ·rename_i e;rw [if_pos e] at hg;cases hg;cases q;exact ⟨vs,us,ty,iR hext hc,setRow_heap w b.1 _ _ _ _ h2,hb,h3b⟩
  ·rename_i e;rw [if_neg e] at hg;split at hg
   ·cases hg;exact absurd rfl hll
   ·rename_i e3;obtain ⟨zs,zu,tz,h4,h5,h6,h7⟩:=h.blk m c l q hg hll;refine ⟨zs,zu,tz,iR hext h4,?_,h6,h7⟩;rw [setRow_other w b.1 c.1 _ (fun e2=>e3 (h.inj n m b c k l hn q e2.symm hk hg hl hll))];exact h5
 ·intro m c l q hg hy
  (try dsimp only at q)
  rw [bN,bN] at hg;split at q
  ·cases q;exact absurd hz hy
  ·rename_i e;rw [if_neg e] at hg;split at hg
   ·rename_i e3;subst e3;rw [hn] at q;cases q;exact absurd hz hy
   ·exact h.flag m c l q hg hy
 ·intro m c o q hy
  (try dsimp only at q)
  split at q
  ·cases q;rw [hz] at hy;cases hy
  ·have hne:c.1≠b.1:=fun e=>by
    cases hg:eR L m with
    | none=>have:=h.dom m;rw [q,hg] at this;cases this
    | some l=>
     have hf:=h.flag m c l q hg (by rw [hy];simp);have:=h.inj n m b c k l hn q e.symm hk hg hl hf.2;subst this;rw [hn] at q;cases q;rw [hz] at hy;cases hy
   rw [setRow_other w b.1 c.1 _ hne];exact h.ro m c o q hy
 ·intro m m' c c' l l' q q' qe hg hg' hll hll'
  (try dsimp only at q q')
  rw [bN,bN] at hg hg';split at q<;>split at q'
  ·rename_i e e';exact e.symm.trans e'
  ·rename_i e e';rw [if_neg e'] at hg';split at hg'
   ·cases hg';exact absurd rfl hll'
   ·rename_i e3;cases q;exact absurd (h.inj n m' b c' k l' hn q' qe hk hg' hl hll') e3
  ·rename_i e e';rw [if_neg e] at hg;split at hg
   ·cases hg;exact absurd rfl hll
   ·rename_i e3;cases q';exact absurd (h.inj n m b c k l hn q qe.symm hk hg hl hll) e3
  ·rename_i e e';rw [if_neg e] at hg;rw [if_neg e'] at hg';split at hg
   ·cases hg;exact absurd rfl hll
   ·split at hg'
    ·cases hg';exact absurd rfl hll'
    ·exact h.inj m m' c c' l l' q q' qe hg hg' hll hll'
 ·(try dsimp only at q)
  split at q
  ·cases q;exact h.far e he n b hn
  ·exact h.far e he m c q
theorem opS_box {t:Nat} {x:Operand} {nm:Nm} {cs:List CV} (ho:o.op=.box t x) (hc:nH (iI τ x)=some cs) (hn:eR L nm=none):
  wK P all o τ L (.p nm 0) [(nm,⟨cs,t⟩)] []:=by
 intro ρ a w τ0 L0 hM hl hL hag next Q hnx
 have h1:=dH hM x;rw [aZ hl (by simp [ho,Op.operands])] at h1;have hcs:=yU hc h1;have hn0:eR L0 nm=none:=by rw [hag nm (.inr (by simp [fQ]))];exact hn
 obtain ⟨ρ',_,h2,h3,h4⟩:=hL.alloc hn0 hcs t;unfold Oper.wp;have:(execOp a.eval o).run P w=.ok (.value (.pointer (some ⟨w.heap.size,0,none⟩))) (w.alloc (.cells ⟨(a.eval x).cells.toList⟩ t)):=by
  simp [execOp,ho,Instr.box,newVar,newRow,newObj,Sem.run]
 rw [this];exact hnx ρ' _ _ h3 (by simp [fP,h2]) h4
theorem opS_alloc {t:Nat} {nm:Nm} {i:TypeInfo} {z:Value} (ho:o.op=.alloc t) (hi:P.info? t=some i) (hz:i.zero=some z) (hn:eR L nm=none):
  wK P all o τ L (.p nm 0) [(nm,⟨z.cells.toList.map CV.v,t⟩)] []:=by
 intro ρ a w τ0 L0 hM hl hL hag next Q hnx
 have hn0:eR L0 nm=none:=by rw [hag nm (.inr (by simp [fQ]))];exact hn
 obtain ⟨ρ',_,h2,h3,h4⟩:=hL.alloc hn0 (lN (ρ:=ρ) z.cells.toList) t;unfold Oper.wp;have:(execOp a.eval o).run P w=.ok (.value (.pointer (some ⟨w.heap.size,0,none⟩))) (w.alloc (.cells ⟨z.cells.toList⟩ t)):=by
  simp [execOp,ho,Instr.alloc,newVar,newRow,newObj,Sem.run,zeroValue,typeInfo,hi,hz]
 rw [this];exact hnx ρ' _ _ h3 (by simp [fP,h2]) h4
theorem JY {t n:Nat} {ps:Array (Nat×Operand)} {nm:Nm} {e:TypeId} {cells:Array Value} (ho:o.op=.buildSlice t n ps) (hv:pA τ (ps.toList.map (·.2))=true)
  (hb:LC P t n (ps.toList.map fun q=>(q.1,evV τ q.2))=some (e,cells)) (hn:eR L nm=none):wK P all o τ L (.s nm 0 n n) [(nm,⟨cells.toList.map CV.v,e⟩)] []:=by
 intro ρ a w τ0 L0 hM hl hL hag next Q hnx
 have hn0:eR L0 nm=none:=by rw [hag nm (.inr (by simp [fQ]))];exact hn
 obtain ⟨ρ',_,h2,h3,h4⟩:=hL.alloc hn0 (lN (ρ:=ρ) cells.toList) e;have ep:(ps.map fun (i,x)=>(i,a.eval x)).toList=ps.toList.map fun q=>(q.1,evV τ q.2):=by
  rw [Array.toList_map];refine List.map_congr_left fun q hq=>?_;obtain ⟨i,x⟩:=q;simp only;rw [IX (τ:=τ) hM hl (x:=x)]
  ·rw [ho];simp only [Op.operands];have:x∈ps.toList.map (·.2):=List.mem_map.2 ⟨(i,x),hq,rfl⟩;simpa using this
  ·unfold pA at hv;rw [apJ] at hv;exact hv x (List.mem_map.2 ⟨(i,x),hq,rfl⟩)
 unfold LC at hb;split at hb
 ·rename_i el hu;split at hb
  ·rename_i i hi;split at hb
   ·rename_i z hz;cases hc:(agJ (n*i.size) 0||aiZ 16777216 (n*i.size)) with
    | true=>rw [hc] at hb;cases hb
    | false=>
     rw [hc] at hb;simp only [cond_false] at hb;split at hb
     ·rename_i cs hf;simp only [afZ.injEq,Prod.mk.injEq] at hb;obtain ⟨rfl,rfl⟩:=hb;simp only [Bool.or_eq_false_iff] at hc;have c1:¬n*i.size=0:=fun q=>by rw [q] at hc;simp at hc
      have c2:¬n*i.size>2^24:=fun q=>by
       have:aiZ 16777216 (n*i.size)=true:=Nat.ble_eq_true_of_le (by omega);rw [this] at hc;exact absurd hc.2 (by simp)
      refine wp_buildSlice t el n ps ho cs i z hu hi hz c2 c1 (by rw [ep];exact hf) ?_;exact hnx ρ' _ _ h3 (by simp [fP,h2]) h4
     ·cases hb
   ·cases hb
  ·cases hb
 ·cases hb
theorem pC {ρ:gZ} {w:World} {b:Nat} {k:kJ} {t:TypeId} {off:Nat} {v:AV} (h:OB P k t off=some v) {vs zs:List Value} (hc:dF ρ k.cells=some vs)
  {ty:TypeId} {fz:Nat×Nat} (hb:w.heap[b]? =some (.cells ⟨vs++zs⟩ ty fz)):∃u,fP ρ v=some u∧(loadVar t ⟨b,off,none⟩).run P w=.ok u w:=by
 unfold OB at h;split at h
 ·rename_i d i hu hi;cases hd:d.isRow with
  | true=>
   rw [hd] at h;simp only [cond_true] at h;split at h
   ·rename_i us hus;cases hl:agJ us.length i.size with
    | false=>rw [hl] at h;cases h
    | true=>
     rw [hl] at h;simp only [cond_true,afZ.injEq] at h;subst h;have hlen:us.length=i.size:=adX hl;have e:us=(vs.drop off).take i.size:=by
      have h1:=PK (ρ:=ρ) hus;have h2:dF ρ (pE k.cells off i.size)=some ((vs.drop off).take i.size):=jT _ (lM _ hc);rw [h1] at h2;exact afZ.inj h2
     refine ⟨_,rfl,?_⟩;refine run_loadVar_mid w b off t us d ?_ hu hd (by rw [hi,hlen];rfl);intro j u hj;rw [e,List.getElem?_take] at hj;split at hj
     ·rw [List.getElem?_drop] at hj;have hlt:=(List.getElem?_eq_some_iff.1 hj).1;simp only [World.cell?,hb];simpa [List.getElem?_append_left hlt] using hj
     ·cases hj
   ·cases hl:agJ (pE k.cells off i.size).length i.size with
    | false=>rw [hl] at h;cases h
    | true=>
     rw [hl] at h;simp only [cond_true,afZ.injEq] at h;subst h;have hlen:(pE k.cells off i.size).length=i.size:=adX hl;have h2:dF ρ (pE k.cells off i.size)=some ((vs.drop off).take i.size):=jT _ (lM _ hc);have h3:=eO h2;refine ⟨.agg ⟨(vs.drop off).take i.size⟩,by simp only [fP,h2,ayZ],?_⟩;refine run_loadVar_mid w b off t ((vs.drop off).take i.size) d ?_ hu hd (by rw [hi,h3,hlen];rfl);intro j u hj;rw [List.getElem?_take] at hj;split at hj
     ·rw [List.getElem?_drop] at hj;have hlt:=(List.getElem?_eq_some_iff.1 hj).1;simp only [World.cell?,hb];simpa [List.getElem?_append_left hlt] using hj
     ·cases hj
  | false=>
   rw [hd] at h;simp only [cond_false] at h;split at h
   ·rename_i c hcell;simp only [afZ.injEq] at h;subst h;have h1:=IG hc off;rw [hcell] at h1;simp only [awQ] at h1;have hlt:off<vs.length:=by
     have:=eO hc;have:=(List.getElem?_eq_some_iff.1 hcell).1;omega
    rw [List.getElem?_eq_getElem hlt] at h1;refine ⟨vs[off],by rw [toA_at];exact h1,?_⟩;have hcl:w.cell? ⟨b,off,none⟩=some vs[off]:=by simp [World.cell?,hb,List.getElem?_append_left hlt,hlt]
    have hagg:(isAgg t).run P w=.ok false w:=by
     unfold isAgg;rw [Sem.run_bind,run_underlying hu w];cases d<;>simp_all [TypeDesc.isRow]
    simp [loadVar,Sem.run_bind,hagg,load,Sem.run,hcl]
   ·cases h
 ·cases h
theorem opS_load {t:Nat} {x:Operand} {n:Nm} {off:Nat} {k:kJ} {v:AV} (ho:o.op=.load t x) (hx:iI τ x=.p n off) (hk':uO L n=some k) (hv:OB P k t off=some v):
  wK P all o τ L v [] [n]:=by
 obtain ⟨hk,hk1⟩:=lQ hk';intro ρ a w τ0 L0 hM hl hL hag next Q hnx
 have h1:=dH hM x;rw [aZ hl (by simp [ho,Op.operands]),hx] at h1;simp only [fP,abQ] at h1;obtain ⟨b,hb,e⟩:=h1;have hk0:eR L0 n=some k:=by rw [hag n (.inl (by simp))];exact hk
 obtain ⟨vs,zs,_,h2,h3,_⟩:=hL.blk n b k hb hk0 hk1;obtain ⟨u,h4,h5⟩:=pC hv h2 h3;unfold Oper.wp;have:(execOp a.eval o).run P w=.ok (.value u) w:=by
  simp [execOp,ho,Instr.loadAt,←e,Instr.sureAddr,h5]
 rw [this];exact hnx ρ w u (Nxt.refl ρ w) h4 (by simpa using hL)
theorem opS_glob {t g:Nat} {x:Operand} {v:AV} (ho:o.op=.load t x) (hx:iI τ x=.v (.pointer (some ⟨g,0,none⟩))) (hv:globA P t g=some v):
  wK P all o τ L v [] []:=by
 intro ρ a w τ0 L0 hM hl hL hag next Q hnx
 have h1:=dH hM x;rw [aZ hl (by simp [ho,Op.operands]),hx] at h1;simp only [fP,afZ.injEq] at h1;unfold globA at hv;split at hv
 ·rename_i vs hg;obtain ⟨ty,fz,h3⟩:=hL.glb _ (NO hg);obtain ⟨u,h4,h5⟩:=pC hv (zs:=[]) (lN (ρ:=ρ) vs) (by rw [awJ];exact h3);unfold Oper.wp;have:(execOp a.eval o).run P w=.ok (.value u) w:=by
   simp [execOp,ho,Instr.loadAt,←h1,Instr.sureAddr,h5]
  rw [this];exact hnx ρ w u (Nxt.refl ρ w) h4 (by simpa using hL)
 ·cases hv
theorem one_at {ρ:gZ}:∀{cs:List CV} {vs:List Value},dF ρ cs=some vs→cs.all one=true→∀v∈vs,v.oneCell'=true
 | [],_,q,_=>by simp [dF] at q;subst q;simp
 | x::l,vs,q,h=>by
  simp only [dF,adJ,abQ] at q;obtain ⟨y,h1,z,h2,h3⟩:=q;subst h3;simp only [ayX,Bool.and_eq_true] at h;intro v hv;rw [avX] at hv;rcases hv with rfl | hv
  ·cases x with
   | v a=>simp only [FH,afZ.injEq] at h1;subst h1;exact h.1
   | p n o=>
    simp only [FH,abQ] at h1;obtain ⟨b,_,e⟩:=h1;subst e;rfl
   | s n o l c=>
    simp only [FH,abQ] at h1;obtain ⟨b,_,e⟩:=h1;subst e;rfl
   | o n o l c=>
    simp only [FH,abQ] at h1;obtain ⟨b,_,e⟩:=h1;subst e;rfl
  ·exact one_at h2 h.2 v hv
theorem opS_store {t:Nat} {x y:Operand} {n:Nm} {off:Nat} {k k':kJ} (ho:o.op=.store t x y) (hx:iI τ x=.p n off) (hkl:uO L n=some k) (hrw:rwB k=true) (hv:storeA P k t off (iI τ y)=some k'):
  wK P all o τ L (.v undef) [(n,k')] []:=by
 obtain ⟨hk,hk1⟩:=lQ hkl;intro ρ a w τ0 L0 hM hl hL hag next Q hnx
 have h1:=dH hM x;rw [aZ hl (by simp [ho,Op.operands]),hx] at h1;simp only [fP,abQ] at h1;obtain ⟨b,hb,e⟩:=h1;have h2:=dH hM y;rw [aZ hl (by simp [ho,Op.operands])] at h2;have hk0:eR L0 n=some k:=by rw [hag n (.inr (by simp [fQ]))];exact hk
 obtain ⟨vs,zs,ty,h3,h4,h4b,_⟩:=hL.blk n b k hb hk0 hk1;unfold storeA at hv;split at hv
 ·rename_i cs i hcs hi;have hc:=yU hcs h2;cases hq:(agJ cs.length i.size&&aiZ (off+i.size) k.cells.length&&cs.all one) with
  | false=>rw [hq] at hv;cases hv
  | true=>
   rw [hq] at hv;simp only [cond_true,afZ.injEq] at hv;subst hv;simp only [Bool.and_eq_true] at hq;have q1:cs.length=i.size:=adX hq.1.1;have q2:off+i.size≤k.cells.length:=aeQ hq.1.2;have q3:=eO h3;have q4:=eO hc;have hst:=run_storeCells_at P b.1 off ty (a.eval y).cells.toList 0 ⟨vs++zs⟩ w h4 (by simp at q4 ⊢;omega) (one_at hc hq.2);have hnew:dF ρ (k.cells.take off++cs++k.cells.drop (off+cs.length))=some (vs.take off++(a.eval y).cells.toList++vs.drop (off+cs.length)):=
    fY (fY (jT _ h3) hc) (lM _ h3)
   obtain ⟨g1,g2⟩:=hL.set hb hk0 hk1 hnew zs (by rw [h4b];simp at q4 ⊢;omega) (hL.free hb hk0 hrw);unfold Oper.wp;have:(execOp a.eval o).run P w=.ok .skip (w.setRow b.1 ⟨vs.take off++(a.eval y).cells.toList++vs.drop (off+cs.length)++zs⟩):=by
    have t1:(vs++zs).take off=vs.take off:=by rw [List.take_append_of_le_length (by omega)]
    have t2:(vs++zs).drop (off+cs.length)=vs.drop (off+cs.length)++zs:=by rw [List.drop_append_of_le_length (by omega)]
    have e1:(a.eval y).cells.size=i.size:=by simp at q4;omega
    have e2:off+(a.eval y).cells.toList.length=off+cs.length:=by rw [q4]
    simp only [avJ] at hst;rw [e2,t1,t2,←List.append_assoc] at hst;simp only [execOp,ho,Instr.storeAt,←e,Instr.sureAddr,storeVar,sizeOf,typeInfo];simp [hi,e1,hst]
   rw [this];exact hnx ρ _ _ g1 rfl g2
 ·cases hv
end
end Ev
namespace Ev
open Go.RowKit
def cut (ρ:gZ) (ks:List Nm):gZ:=fun n=>cond (has ks n) (ρ n) none
theorem qB {ρ:gZ} {ks:List Nm} {n:Nm} (h:has ks n=true):cut ρ ks n=ρ n:=by unfold cut;rw [h];rfl
theorem dX {ρ:gZ} {ks:List Nm} {n:Nm} {b:Nat×Nat×Option Obj} (h:cut ρ ks n=some b):has ks n=true∧ρ n=some b:=by
 unfold cut at h;cases hk:has ks n with
 | false=>rw [hk] at h;cases h
 | true=>rw [hk] at h;exact ⟨rfl,h⟩
theorem jJ {ρ:gZ} {ks:List Nm}:∀{l:List CV} {vs:List Value},(xF l).all (has ks)=true→dF ρ l=some vs→dF (cut ρ ks) l=some vs
 | [],_,_,q=>q
 | .v x::l,vs,h,q=>by
  simp only [dF,adJ,abQ] at q ⊢;obtain ⟨y,h1,z,h2,h3⟩:=q;exact ⟨y,h1,z,jJ (l:=l) h h2,h3⟩
 | .p n o::l,vs,h,q=>by
  simp only [xF,ayX,Bool.and_eq_true] at h;simp only [dF,adJ,abQ] at q ⊢;obtain ⟨y,h1,z,h2,h3⟩:=q;refine ⟨y,?_,z,jJ (l:=l) h.2 h2,h3⟩;simpa only [FH,qB h.1] using h1
 | .s n o _ _::l,vs,h,q=>by
  simp only [xF,ayX,Bool.and_eq_true] at h;simp only [dF,adJ,abQ] at q ⊢;obtain ⟨y,h1,z,h2,h3⟩:=q;refine ⟨y,?_,z,jJ (l:=l) h.2 h2,h3⟩;simpa only [FH,qB h.1] using h1
 | .o n o _ _::l,vs,h,q=>by
  simp only [xF,ayX,Bool.and_eq_true] at h;simp only [dF,adJ,abQ] at q ⊢;obtain ⟨y,h1,z,h2,h3⟩:=q;refine ⟨y,?_,z,jJ (l:=l) h.2 h2,h3⟩;simpa only [FH,qB h.1] using h1
theorem lV {ρ:gZ} {ks:List Nm}:∀{l:List AV} {vs:List Value},(oZ l).all (has ks)=true→fD ρ l=some vs→fD (cut ρ ks) l=some vs
 | [],_,_,q=>q
 | .v x::l,vs,h,q=>by
  simp only [fD,adJ,abQ] at q ⊢;obtain ⟨y,h1,z,h2,h3⟩:=q;exact ⟨y,h1,z,lV (l:=l) h h2,h3⟩
 | .p n o::l,vs,h,q=>by
  simp only [oZ,ayX,Bool.and_eq_true] at h;simp only [fD,adJ,abQ] at q ⊢;obtain ⟨y,h1,z,h2,h3⟩:=q;refine ⟨y,?_,z,lV (l:=l) h.2 h2,h3⟩;simpa only [fP,qB h.1] using h1
 | .c f b c::l,vs,h,q=>by
  simp only [oZ,List.all_append,Bool.and_eq_true] at h;simp only [fD,adJ,abQ] at q ⊢;obtain ⟨y,h1,z,h2,h3⟩:=q;refine ⟨y,?_,z,lV (l:=l) h.2 h2,h3⟩;simp only [fP,adJ,abQ] at h1 ⊢;obtain ⟨s,h4,u,h5,h6⟩:=h1;exact ⟨s,jJ h.1.1 h4,u,jJ h.1.2 h5,h6⟩
 | .s n o _ _::l,vs,h,q=>by
  simp only [oZ,ayX,Bool.and_eq_true] at h;simp only [fD,adJ,abQ] at q ⊢;obtain ⟨y,h1,z,h2,h3⟩:=q;refine ⟨y,?_,z,lV (l:=l) h.2 h2,h3⟩;simpa only [fP,qB h.1] using h1
 | .o n o _ _::l,vs,h,q=>by
  simp only [oZ,ayX,Bool.and_eq_true] at h;simp only [fD,adJ,abQ] at q ⊢;obtain ⟨y,h1,z,h2,h3⟩:=q;refine ⟨y,?_,z,lV (l:=l) h.2 h2,h3⟩;simpa only [fP,qB h.1] using h1
 | .t c::l,vs,h,q=>by
  simp only [oZ,List.all_append,Bool.and_eq_true] at h;simp only [fD,adJ,abQ] at q ⊢;obtain ⟨y,h1,z,h2,h3⟩:=q;refine ⟨y,?_,z,lV (l:=l) h.2 h2,h3⟩;simp only [fP,abQ] at h1 ⊢;obtain ⟨u,h4,h5⟩:=h1;exact ⟨u,jJ h.1 h4,h5⟩
 | .g c::l,vs,h,q=>by
  simp only [oZ,List.all_append,Bool.and_eq_true] at h;simp only [fD,adJ,abQ] at q ⊢;obtain ⟨y,h1,z,h2,h3⟩:=q;refine ⟨y,?_,z,lV (l:=l) h.2 h2,h3⟩;simp only [fP,abQ] at h1 ⊢;obtain ⟨u,h4,h5⟩:=h1;exact ⟨u,jJ h.1 h4,h5⟩
theorem WX (f:cF→Nm→Option kJ) (L:cF) (r:List Nm) (n:Nm):eR (r.filterMap fun n=>match f L n with | some b=>some (n,b) | none=>none) n=if n∈r then f L n else none:=by
 induction r with
 | nil=>simp [eR]
 | cons m r ih=>
  rw [List.filterMap_cons];cases hm:f L m with
  | none=>
   (try dsimp only)
   rw [ih];by_cases e:n=m
   ·subst e;simp [hm]
   ·simp [e]
  | some b=>
   (try dsimp only)
   rw [bN,ih];by_cases e:m=n
   ·subst e;simp [hm]
   ·rw [if_neg e];have e':¬n=m:=fun q=>e q.symm;simp [e']
theorem get_part (L:cF) (r:List Nm) (n:Nm):eR (part L r) n=if n∈r then uO L n else none:=WX uO L r n
theorem NM (L:cF) (r:List Nm) (n:Nm):eR (YW L r) n=if n∈r then eR L n else none:=WX eR L r n
theorem get_mem {L:cF} {n:Nm} {b:kJ} (h:eR L n=some b):(n,b)∈L:=by
 induction L with
 | nil=>simp [eR] at h
 | cons x l ih=>
  obtain ⟨m,c⟩:=x;rw [bN] at h;split at h
  ·rename_i e;cases h;subst e;exact arJ
  ·exact aqX _ (ih h)
theorem BN {ks:List Nm}:∀{L:cF},closed ks L=true→∀{n:Nm} {b:kJ},(n,b)∈L→(xF b.cells).all (has ks)=true
 | (m,c)::l,h,n,b,hm=>by
  simp only [closed,Bool.and_eq_true] at h;rcases avX.1 hm with e | hm
  ·cases e;exact h.1
  ·exact BN h.2 hm
theorem AD {L:cF} {n:Nm}:n∈fQ L↔(eR L n).isSome=true:=by
 have h:=oF (l:=L) (n:=n);cases hg:eR L n with
 | none=>rw [hg] at h;simp only [true_iff] at h;simp [h]
 | some b=>rw [hg] at h;simp at h;simp [h]
section
variable {P : Program} {all : List Oper}
theorem runs_frame {g:FuncId} {args:List AV} {L:cF} {r:List Nm} {v:AV} {L':cF} (hR:fI P g args (part L r) v L')
  (ha:(oZ args).all (has (fQ (part L r)))=true) (hc:closed (fQ (part L r)) (part L r)=true)
  (hnew:newOk (fQ (part L r)) L L'=true)
  {ρ:gZ} {w:World} {L0:cF} {vs:List Value} (hvs:fD ρ args=some vs) (hL:ML ρ L0 w) (hag:∀n,n∈fQ (part L r)∨n∈fQ L'→eR L0 n=eR L n):
  Calls P g ⟨vs⟩ w fun e w'=>∃u ρ',e=.returned u∧Nxt ρ w ρ' w'∧fP ρ' v=some u∧ML ρ' (L'++L0) w':=by
 have hget:∀n b,eR (part L r) n=some b→eR L n=some b∧b.cells≠[]:=fun n b h=>by
  rw [get_part] at h;split at h
  ·exact lQ h
  ·cases h
 have hkey:∀n,has (fQ (part L r)) n=true→∃k,eR (part L r) n=some k∧eR L0 n=some k∧k.cells≠[]:=fun n hk=>by
  have hm:=mA.1 hk;have hs:=AD.1 hm;cases hg:eR (part L r) n with
  | none=>rw [hg] at hs;cases hs
  | some k=>exact ⟨k,rfl,by rw [hag n (.inl hm)];exact (hget n k hg).1,(hget n k hg).2⟩
 have hML:ML (cut ρ (fQ (part L r))) (part L r) w:=by
  refine ⟨fun n=>?_,fun n b q=>hL.lt n b (dX q).2,fun n b k q hg hk=>?_,fun n b k q hg hz=>hL.flag n b k (dX q).2 (by rw [hag n (.inl (mA.1 (dX q).1))];exact (hget n k hg).1) hz,fun n b o q=>hL.ro n b o (dX q).2,fun n m b c k l q q' qe hg hg' hk hl=>?_,hL.glb,fun e he n b q=>hL.far e he n b (dX q).2⟩
  ·cases hk:has (fQ (part L r)) n with
   | false=>
    have:n∉fQ (part L r):=fun h=>by rw [mA.2 h] at hk;cases hk
    rw [oF.2 this];unfold cut;rw [hk];rfl
   | true=>
    rw [qB hk];obtain ⟨k,g1,g2,_⟩:=hkey n hk;have:=hL.dom n;rw [g2] at this;rw [g1];exact this
  ·obtain ⟨q1,q2⟩:=dX q;obtain ⟨us,zs,ty,h1,h2,h3⟩:=hL.blk n b k q2 (by rw [hag n (.inl (mA.1 q1))];exact (hget n k hg).1) hk;exact ⟨us,zs,ty,jJ (BN hc (get_mem hg)) h1,h2,h3⟩
  ·obtain ⟨q1,q2⟩:=dX q;obtain ⟨q3,q4⟩:=dX q';exact hL.inj n m b c k l q2 q4 qe (by rw [hag n (.inl (mA.1 q1))];exact (hget n k hg).1) (by rw [hag m (.inl (mA.1 q3))];exact (hget m l hg').1) hk hl
 refine (hR (cut ρ (fQ (part L r))) w vs (lV ha hvs) hML).mono ?_;rintro e w' ⟨u,ρ',rfl,hN,hv,hM'⟩;have kin:∀n b,ρ' n=some b→n∈fQ L':=fun n b q=>AD.2 (by rw [←hM'.dom n,q];rfl);have out:∀n b,ρ' n=some b→cut ρ (fQ (part L r)) n=none→ρ n=none:=fun n b q q2=>by
  have hk:=kin n b q;have h1:=(apJ.1 hnew) n hk;cases hh:has (fQ (part L r)) n with
  | true=>
   rw [qB hh] at q2;exact q2
  | false=>
   rw [hh] at h1;have h2:eR L n=none:=by
    unfold fresh at h1;cases hg:eR L n with
    | none=>rfl
    | some x=>rw [hg] at h1;cases h1
   have:=hL.dom n;rw [hag n (.inr hk),h2] at this;cases hr:ρ n with
   | none=>rfl
   | some c=>rw [hr] at this;cases this
 have old:∀n b c,ρ' n=some b→ρ n=some c→b=c:=fun n b c q q2=>by
  cases hr:cut ρ (fQ (part L r)) n with
  | none=>rw [out n b q hr] at q2;cases q2
  | some d=>
   have:=hN.ext n d hr;rw [q] at this;cases this;have:=(dX hr).2;rw [q2] at this;cases this;rfl
 have hext1:LU ρ' (fun n=>match ρ' n with | some b=>some b | none=>ρ n):=fun n b q=>by
  (try dsimp only)
  rw [q]
 have hext:LU ρ (fun n=>match ρ' n with | some b=>some b | none=>ρ n):=fun n b q=>by
  (try dsimp only)
  cases hr:ρ' n with
  | none=>exact q
  | some c=>rw [old n c b hr q]
 have mine:∀m c l,ρ m=some c→eR L0 m=some l→l.cells≠[]→∀n b,cut ρ (fQ (part L r)) n=some b→b.1=c.1→n=m:=fun m c l q g hl n b hb he=>by
  obtain ⟨q1,q2⟩:=dX hb;obtain ⟨k,_,g2,g3⟩:=hkey n q1;exact hL.inj n m b c k l q2 q he g2 g g3 hl
 have far:∀m c l,ρ' m=none→ρ m=some c→eR L0 m=some l→l.cells≠[]→∀n b,ρ' n=some b→b.1≠c.1:=fun m c l q0 q g hl n b hb he=>by
  cases hz:cut ρ (fQ (part L r)) n with
  | some d=>
   have h1:=hN.ext n d hz;rw [hb] at h1;cases h1;have:=mine m c l q g hl n b hz he;subst this;rw [hb] at q0;cases q0
  | none=>
   rcases hN.new n b hb hz with h1 | ⟨m',c',h1,h2⟩
   ·have:=hL.lt m c q;omega
   ·have:=mine m c l q g hl m' c' h1 (h2.trans he);subst this;have:=hN.ext m' c' h1;rw [this] at q0;cases q0
 refine ⟨u,fun n=>match ρ' n with | some b=>some b | none=>ρ n,rfl,⟨hext,hN.os,hN.tape,hN.output,hN.size,?_,?_⟩,aAt_ext hext1 hv,⟨?_,?_,?_,?_,?_,?_,hM'.glb,fun e he n b q=>?_⟩⟩
 ·intro k hk hn;exact hN.old k hk fun n b q=>hn n b (dX q).2
 ·intro n b q q2
  (try dsimp only at q)
  cases hr:ρ' n with
  | none=>rw [hr] at q;dsimp only at q;rw [q2] at q;cases q
  | some c=>
   rw [hr] at q;cases q;rcases hN.new n b hr (by
    cases hz:cut ρ (fQ (part L r)) n with
    | none=>rfl
    | some d=>rw [(dX hz).2] at q2;cases q2) with h1 | ⟨m,d,h1,h2⟩
   ·exact .inl h1
   ·exact .inr ⟨m,d,(dX h1).2,h2⟩
 ·intro n;rw [oW];have h1:=hM'.dom n;have h2:=hL.dom n
  (try dsimp only)
  cases hr:ρ' n with
  | none=>
   rw [hr] at h1;cases hg:eR L' n with
   | none=>simpa using h2
   | some x=>rw [hg] at h1;cases h1
  | some c=>
   rw [hr] at h1;cases hg:eR L' n with
   | none=>rw [hg] at h1;cases h1
   | some x=>rfl
 ·intro n b q
  (try dsimp only at q)
  cases hr:ρ' n with
  | some c=>rw [hr] at q;cases q;exact hM'.lt n b hr
  | none=>rw [hr] at q;exact apZ (hL.lt n b q) hN.size
 ·intro n b k q hg hk;rw [oW] at hg
  (try dsimp only at q)
  cases hr:ρ' n with
  | some c=>
   rw [hr] at q;cases q;have h1:=hM'.dom n;rw [hr] at h1;cases hg':eR L' n with
   | none=>rw [hg'] at h1;cases h1
   | some x=>
    rw [hg'] at hg;simp only [Option.some_or,afZ.injEq] at hg;subst hg;obtain ⟨us,zs,ty,h2,h3,h4⟩:=hM'.blk n b x hr hg' hk;exact ⟨us,zs,ty,iR hext1 h2,h3,h4⟩
  | none=>
   rw [hr] at q;dsimp only at q;have h1:=hM'.dom n;rw [hr] at h1;cases hg':eR L' n with
   | some x=>rw [hg'] at h1;cases h1
   | none=>
    rw [hg'] at hg;simp only [Option.none_or] at hg;obtain ⟨us,zs,ty,h2,h3,h4⟩:=hL.blk n b k q hg hk;refine ⟨us,zs,ty,iR hext h2,?_,h4⟩;rw [hN.old b.1 (hL.lt n b q) ?_]
    ·exact h3
    ·intro m d qm qe;have:=mine n b k q hg hk m d qm qe;subst this;have:=hN.ext m d qm;rw [hr] at this;cases this
 ·intro n b k q hg hz;rw [oW] at hg
  (try dsimp only at q)
  have h1:=hM'.dom n;cases hr:ρ' n with
  | some c=>
   rw [hr] at q h1;cases q;cases hg':eR L' n with
   | none=>rw [hg'] at h1;cases h1
   | some x=>
    rw [hg'] at hg;simp only [Option.some_or,afZ.injEq] at hg;subst hg;exact hM'.flag n b x hr hg' hz
  | none=>
   rw [hr] at q h1;cases hg':eR L' n with
   | some x=>rw [hg'] at h1;cases h1
   | none=>
    rw [hg'] at hg;simp only [Option.none_or] at hg;exact hL.flag n b k q hg hz
 ·intro n b o q hz
  (try dsimp only at q)
  cases hr:ρ' n with
  | some c=>
   rw [hr] at q;cases q;exact hM'.ro n b o hr hz
  | none=>
   rw [hr] at q;rw [hN.old b.1 (hL.lt n b q) ?_]
   ·exact hL.ro n b o q hz
   ·intro m d qm qe;cases hg:eR L0 n with
    | none=>have:=hL.dom n;rw [show ρ n=some b from q,hg] at this;cases this
    | some k=>
     have hf:=hL.flag n b k q hg (by rw [hz];simp);have:=mine n b k q hg hf.2 m d qm qe;subst this;have:=hN.ext m d qm;rw [hr] at this;cases this
 ·intro n m b c k l q q' qe hg hg' hk hl;rw [oW] at hg hg'
  (try dsimp only at q q')
  have res:∀n b k,(match ρ' n with | some b=>some b | none=>ρ n)=some b→(eR L' n).or (eR L0 n)=some k→(ρ' n=some b∧eR L' n=some k)∨(ρ' n=none∧ρ n=some b∧eR L0 n=some k):=fun n b k q g=>by
   have h1:=hM'.dom n;cases hr:ρ' n with
   | some d=>
    rw [hr] at q h1;cases q;cases hg':eR L' n with
    | none=>rw [hg'] at h1;cases h1
    | some x=>rw [hg'] at g;exact .inl ⟨rfl,g⟩
   | none=>
    rw [hr] at q h1;cases hg':eR L' n with
    | some x=>rw [hg'] at h1;cases h1
    | none=>rw [hg'] at g;exact .inr ⟨rfl,q,g⟩
  rcases res n b k q hg with ⟨a1,a2⟩ | ⟨a1,a2,a3⟩<;>rcases res m c l q' hg' with ⟨b1,b2⟩ | ⟨b1,b2,b3⟩
  ·exact hM'.inj n m b c k l a1 b1 qe a2 b2 hk hl
  ·exact absurd qe (far m c l b1 b2 b3 hl n b a1)
  ·exact absurd qe.symm (far n b k a1 a2 a3 hk m c b1)
  ·exact hL.inj n m b c k l a2 b2 qe a3 b3 hk hl
 ·(try dsimp only at q)
  cases hr:ρ' n with
  | some c=>
   rw [hr] at q;cases q;exact hM'.far e he n b hr
  | none=>
   rw [hr] at q;exact hL.far e he n b q
theorem TN {g:FuncId} {args:List AV} {L:cF} {v:AV} {L':cF} (hR:fI P g args L v L'):fI P g args L v (gc (fQ L) v L'):=by
 unfold gc
 (try dsimp only)
 generalize hr:KJ L' 4 (zF (fQ L) (oZ [v]))=r;cases hb:((oZ [v]).all (has r)&&closed r (YW L' r)) with
 | false=>exact hR
 | true=>
  simp only [cond_true];simp only [Bool.and_eq_true] at hb;have hsub:∀n,n∈fQ L→n∈r:=by
   have h1:∀(l:List Nm) (r:List Nm) (n:Nm),n∈r→n∈zF r l:=by
    intro l;induction l with
    | nil=>intro r n h;exact h
    | cons m l ih=>
     intro r n h;unfold zF;cases has r m with
     | true=>exact ih r n h
     | false=>exact ih _ n (aqX _ h)
   have h2:∀(d:Nat) (r:List Nm) (n:Nm),n∈r→n∈KJ L' d r:=by
    intro d;induction d with
    | zero=>intro r n h;exact h
    | succ d ih=>intro r n h;unfold KJ;exact ih _ n (h1 _ _ n h)
   intro n hn;rw [←hr];exact h2 _ _ n (h1 _ _ n hn)
  intro ρ w vs hvs hL;refine (hR ρ w vs hvs hL).mono ?_;rintro e w' ⟨u,ρ',rfl,hN,hv,hM'⟩;have hg:∀n k,eR (YW L' r) n=some k→n∈r∧eR L' n=some k:=fun n k h=>by
   rw [NM] at h;split at h
   ·exact ⟨‹_›,h⟩
   ·cases h
  refine ⟨u,cut ρ' r,rfl,⟨fun n b q=>?_,hN.os,hN.tape,hN.output,hN.size,hN.old,fun n b q q2=>hN.new n b (dX q).2 q2⟩,?_,⟨fun n=>?_,fun n b q=>hM'.lt n b (dX q).2,fun n b k q g hk=>?_,fun n b k q g=>hM'.flag n b k (dX q).2 (hg n k g).2,fun n b o q=>hM'.ro n b o (dX q).2,fun n m b c k l q q' qe g g' hk hl=>hM'.inj n m b c k l (dX q).2 (dX q').2 qe (hg n k g).2 (hg m l g').2 hk hl,hM'.glb,fun e he n b q=>hM'.far e he n b (dX q).2⟩⟩
  ·have hk:n∈fQ L:=AD.2 (by rw [←hL.dom n,q];rfl);rw [qB (mA.2 (hsub n hk))];exact hN.ext n b q
  ·have h1:fD ρ' [v]=some [u]:=by simp [fD,hv]
   have h2:=lV hb.1 h1;simp only [fD,adJ,abQ] at h2;obtain ⟨y,h3,z,h4,h5⟩:=h2;simp only [List.cons.injEq] at h5;rw [h3,h5.1]
  ·rw [NM];by_cases hn:n∈r
   ·rw [if_pos hn,qB (mA.2 hn)];exact hM'.dom n
   ·rw [if_neg hn];unfold cut;cases hh:has r n with
    | true=>exact absurd (mA.1 hh) hn
    | false=>rfl
  ·obtain ⟨q1,q2⟩:=dX q;obtain ⟨us,zs,ty,h1,h2,h3⟩:=hM'.blk n b k q2 (hg n k g).2 hk;exact ⟨us,zs,ty,jJ (BN hb.2 (get_mem g)) h1,h2,h3⟩
section
variable {α : Type} {E : List (TypeId × Nat)} {C : List FuncId} {call : FuncId → List AV → cF → Nm → (AV → cF → Option α) → Option α}
def jF (P:Program) (g:FuncId):Prop:=∀args w,(callFunc g args).run P w=.ok (.enter g args) w
def nI (P:Program) (e:TypeId×Nat):Prop:=P.eqGuardType P.depth e.1=false∧∀xs ys r,xs.length=e.2→ys.length=e.2→yH xs ys=some r→∀w,(Op.equalIn 10000 e.1 (.agg ⟨xs⟩) (.agg ⟨ys⟩)).run P w=.ok r w
def BC (P:Program) (call:FuncId→List AV→cF→Nm→(AV→cF→Option α)→Option α):Prop:=
 ∀g args L nm k r,call g args L nm k=some r→∃v L',fI P g args L v L'∧k v L'=some r
theorem QY (hC:∀g∈C,jF P g) (hcall:BC P call) {args:List AV} {g:FuncId} {L:cF} {nm:Nm} {k:AV→cF→List Nm→Option α} {r:α}
  (h:doCall C call args g L nm k=some r):∃v U rd,k v U rd=some r∧∀o τ,
   (∀ρ a w τ0,MT ρ τ0 a→(∀t∈looks all o,gO τ0 t=gO τ t)→∃vs,fD ρ args=some vs∧(execOp a.eval o).run P w=(callFunc g ⟨vs⟩).run P w)→wK P all o τ L v U rd:=by
 unfold doCall at h;dsimp only at h;generalize KJ L 4 (zF [] (oZ args))=rr at h;cases hb:(C.any (agJ g)&&(oZ args).all (has (fQ (part L rr)))&&closed (fQ (part L rr)) (part L rr)) with
 | false=>rw [hb] at h;cases h
 | true=>
  rw [hb] at h;simp only [cond_true] at h;simp only [Bool.and_eq_true] at hb;obtain ⟨⟨b1,b2⟩,b3⟩:=hb;have hg:g∈C:=by
   rw [auZ] at b1;obtain ⟨x,hx,e⟩:=b1;have:g=x:=adX e;exact this ▸ hx
  obtain ⟨v,L'',hR',hk⟩:=hcall _ _ _ _ _ _ h;have hR:=TN hR';generalize gc (fQ (part L rr)) v L''=L' at hk hR;cases hn:newOk (fQ (part L rr)) L L' with
  | false=>rw [hn] at hk;cases hk
  | true=>
   rw [hn] at hk;simp only [cond_true] at hk;refine ⟨v,L',_,hk,fun o τ ho=>?_⟩;intro ρ a w τ0 L0 hM hl hL hag next Q hnx
   obtain ⟨vs,h1,h2⟩:=ho ρ a w τ0 hM hl;unfold Oper.wp;rw [h2,hC g hg];have:=runs_frame hR b2 b3 hn h1 hL hag;refine this.mono ?_;rintro e w' ⟨u,ρ',rfl,q1,q2,q3⟩;exact hnx ρ' w' u q1 q2 q3
theorem binA_sound (hE:∀e∈E,nI P e) {τ:List AV} {L:cF} {o:Oper} {op:BinOp} {t yt:TypeId} {x y:Operand} {v:AV} (ho:o.op=.binOp op t x y yt) (h:binA P E τ o op t x y=some v):wK P all o τ L v [] []:=by
 unfold binA at h;have hs:∀cs b,o.op≠.select cs b:=fun cs b q=>by rw [ho] at q;cases q
 split at h
 ·rename_i b xs ys hb hx hy;cases hc:(eqTy E t xs.toList.length&&agJ xs.toList.length ys.toList.length) with
  | false=>rw [hc] at h;cases h
  | true=>
   rw [hc] at h;simp only [cond_true] at h;split at h
   ·rename_i r hr;simp only [afZ.injEq] at h;subst h;simp only [Bool.and_eq_true] at hc;have h1:=hc.1;unfold eqTy at h1;rw [auZ] at h1;obtain ⟨e,he,h2⟩:=h1;simp only [Bool.and_eq_true] at h2;have e1:e.1=t:=adX h2.1;have e2:e.2=xs.toList.length:=adX h2.2;have e3:xs.toList.length=ys.toList.length:=adX hc.2;obtain ⟨g1,g2⟩:=hE e he;rw [e1] at g1 g2;exact opS_eq (fun w=>g2 xs.toList ys.toList r e2.symm (by rw [e2,e3]) hr w) g1 ho hb hx hy
   ·cases h
 ·exact opS_gen hs h
theorem rY {ρ:gZ} {τ τ0:List AV} {a:Act} {o:Oper} (hM:MT ρ τ0 a) (hl:∀t∈looks all o,gO τ0 t=gO τ t):∀(l:List Operand),(∀x∈l,x∈o.op.operands)→fD ρ (l.map (iI τ))=some (l.map a.eval)
 | [],_=>rfl
 | x::l,h=>by
  have h1:=dH hM x;rw [aZ hl (h x (by simp))] at h1;simp [fD,h1,rY hM hl l (fun y hy=>h y (by simp [hy]))]
theorem sJ {ρ:gZ}:∀{l:List AV} {cs:List CV} {vs:List Value},tW l=some cs→fD ρ l=some vs→dF ρ cs=some vs
 | [],_,_,h,q=>by simp only [tW,afZ.injEq] at h;subst h;exact q
 | .v x::l,cs,vs,h,q=>by
  simp only [tW] at h;split at h
  ·rename_i r hr;simp only [afZ.injEq] at h;subst h;simp only [fD,adJ,abQ] at q;obtain ⟨y,h1,z,h2,h3⟩:=q;simp only [dF,adJ,abQ];exact ⟨y,h1,z,sJ hr h2,h3⟩
  ·cases h
 | .p n o::l,cs,vs,h,q=>by
  simp only [tW] at h;split at h
  ·rename_i r hr;simp only [afZ.injEq] at h;subst h;simp only [fD,adJ,abQ] at q;obtain ⟨y,h1,z,h2,h3⟩:=q;simp only [dF,adJ,abQ];exact ⟨y,h1,z,sJ hr h2,h3⟩
  ·cases h
 | .s n o m c::l,cs,vs,h,q=>by
  simp only [tW] at h;split at h
  ·rename_i r hr;simp only [afZ.injEq] at h;subst h;simp only [fD,adJ,abQ] at q;obtain ⟨y,h1,z,h2,h3⟩:=q;simp only [dF,adJ,abQ];exact ⟨y,h1,z,sJ hr h2,h3⟩
  ·cases h
 | .o n o m c::l,cs,vs,h,q=>by
  simp only [tW] at h;split at h
  ·rename_i r hr;simp only [afZ.injEq] at h;subst h;simp only [fD,adJ,abQ] at q;obtain ⟨y,h1,z,h2,h3⟩:=q;simp only [dF,adJ,abQ];exact ⟨y,h1,z,sJ hr h2,h3⟩
  ·cases h
 | .c _ _ _::_,_,_,h,_=>by simp [tW] at h
 | .t _::_,_,_,h,_=>by simp [tW] at h
 | .g _::_,_,_,h,_=>by simp [tW] at h
theorem SL {τ:List AV} {L:cF} {o:Oper} {g:FuncId} {bs cs:Array Operand} {b c:List CV} (ho:o.op=.makeFunc (.func g) bs cs) (hb:tW (bs.toList.map (iI τ))=some b) (hc:tW (cs.toList.map (iI τ))=some c):
  wK P all o τ L (.c g b c) [] []:=
 iB fun ρ a w τ0 hM hl=>by
  have h1:=rY hM hl bs.toList fun x hx=>by simp only [ho,Op.operands];exact Array.mem_append.2 (.inl (by simpa using hx))
  have h2:=rY hM hl cs.toList fun x hx=>by simp only [ho,Op.operands];exact Array.mem_append.2 (.inr (by simpa using hx))
  refine ⟨.func (.func g) (bs.map a.eval) (cs.map a.eval),?_,by simp [execOp,ho,Instr.makeFunc]⟩;simp only [fP,sJ hb h1,sJ hc h2,awQ,ayZ,afZ.injEq];congr 1
  ·apply akX.1;simp
  ·apply akX.1;simp
theorem opS_sliceO {τ:List AV} {L:cF} {o:Oper} {t:Nat} {x:Operand} {lo hi:Option Operand} {n:Nm} {e i0 len:Nat} {b:kJ} {v:AV} (ho:o.op=.slice t x lo hi none) (hx:iI τ x=.o n e i0 len) (hb:uO L n=some b) (hv:sliceO P τ b t (iI τ x) lo hi=some v):wK P all o τ L v [] [n]:=by
 obtain ⟨hk,hk1⟩:=lQ hb;intro ρ a w τ0 L0 hM hl hL hag next Q hnx
 have h1:=dH hM x;rw [aZ hl (by simp [ho,Op.operands]),hx] at h1;simp only [fP,abQ] at h1;obtain ⟨c,hc,ex⟩:=h1;have hk0:eR L0 n=some b:=by rw [hag n (.inl (by simp))];exact hk
 obtain ⟨vs,zs,_,q1,q2,q3,_⟩:=hL.blk n c b hc hk0 hk1;have m1:∀y,lo=some y→y∈o.op.operands:=fun y e=>by subst e;simp [ho,Op.operands]
 have m2:∀y,hi=some y→y∈o.op.operands:=fun y e=>by subst e;simp [ho,Op.operands]
 unfold sliceO at hv;rw [hx] at hv
 (try dsimp only at hv)
 split at hv
 ·rename_i el hxx hu;cases hxx;split at hv
  ·rename_i i l h hi' hlo hhi;cases hcc:(agJ i.size e&&aiZ 1 e&&aiZ l h&&aiZ h len&&(agJ l 0||aiZ (l+1) len)&&aiZ ((i0+len)*e) b.cells.length) with
   | false=>rw [hcc] at hv;cases hv
   | true=>
    rw [hcc] at hv;simp only [cond_true,afZ.injEq] at hv;subst hv;simp only [Bool.and_eq_true,Bool.or_eq_true] at hcc;obtain ⟨⟨⟨⟨⟨c1,c2⟩,c3⟩,c4⟩,c5⟩,c6⟩:=hcc;have c1:i.size=e:=adX c1;have c2:1≤e:=aeQ c2;have c3:l≤h:=aeQ c3;have c4:h≤len:=aeQ c4;have c6:(i0+len)*e≤b.cells.length:=aeQ c6;have c7:(i0+len)*e≤c.2.1:=by have:=eO q1;rw [q3,aqZ];omega
    have c8:i0+len≤c.2.1/e:=(Nat.le_div_iff_mul_le (by omega)).2 c7;have hr:=nU (P:=P) (is:=true) (m:=c.2.1/e-i0) hM hl m1 m2 hlo hhi c3 (by omega) w;unfold Oper.wp;have:(execOp a.eval o).run P w=.ok (.value (.slice (some ⟨c.1,(i0+l)*e,none⟩) (h-l) (c.2.1/e-(i0+l)))) w:=by
     rcases c5 with c5 | c5
     ·have:l=0:=adX c5;subst this;by_cases hz:c.2.1/e-i0=0
      ·rw [hz] at hr;simp [execOp,ho,Instr.sliceAt,Instr.slice,run_underlying hu,←ex,hr,sizeOf,typeInfo,hi',hz]
      ·simp [execOp,ho,Instr.sliceAt,Instr.slice,run_underlying hu,←ex,hr,sizeOf,typeInfo,hi',hz,Addr.add_mid]
     ·have c5:l+1≤len:=aeQ c5;have hz:¬(c.2.1/e-i0=l):=by omega
      have hm:i0*e+l*i.size=(i0+l)*e:=by rw [c1,asQ]
      simp [execOp,ho,Instr.sliceAt,Instr.slice,run_underlying hu,←ex,hr,sizeOf,typeInfo,hi',hz,Addr.add_mid,hm];omega
    rw [this];exact hnx ρ w _ (Nxt.refl ρ w) (by simp [fP,hc]) (by simpa using hL)
  ·cases hv
 ·cases hv
theorem YT {τ:List AV} {L:cF} {o:Oper} {x:Operand} {i:Nat} {l:List CV} {c:CV} (ho:o.op=.extract x i) (hx:iI τ x=.t l) (hc:l[i]? =some c):wK P all o τ L c.toA [] []:=
 iB fun ρ a w τ0 hM hl=>by
  have h1:=dH hM x;rw [aZ hl (by simp [ho,Op.operands]),hx] at h1;simp only [fP,abQ] at h1;obtain ⟨vs,h2,h3⟩:=h1;have h4:=IG h2 i;rw [hc] at h4;simp only [awQ] at h4;have h5:i<vs.length:=by
   have:=eO h2;have:=(List.getElem?_eq_some_iff.1 hc).1;omega
  rw [List.getElem?_eq_getElem h5] at h4;refine ⟨vs[i],by rw [toA_at];exact h4,?_⟩;simp [execOp,ho,Instr.extract,←h3,h5]
theorem opS_make {τ:List AV} {L:cF} {o:Oper} {t:Nat} {x y:Operand} {kl kc:IntKind} {l c:Nat} {el:TypeId} {i:TypeInfo} {z:Value} {nm:Nm} (ho:o.op=.makeSlice t x y) (hx:iI τ x=.v (.int kl (l:Int))) (hy:iI τ y=.v (.int kc (c:Int)))
  (hu:P.underlying t=some (.slice el)) (hi:P.info? el=some i) (hz:i.zero=some z) (hn:eR L nm=none) (h2:l≤c) (h3:c≤140737488355328) (h4:c*i.bytes≤140737488355328):
  wK P all o τ L (.s nm 0 l c) [(nm,⟨((Array.range (c*i.size)).map (z.cells[· %z.cells.size]!)).toList.map CV.v,el⟩)] []:=by
 intro ρ a w τ0 L0 hM hl hL hag next Q hnx
 have e1:=dH hM x;rw [aZ hl (by simp [ho,Op.operands]),hx] at e1;have e1:a.eval x=.int kl (l:Int):=by simpa [fP] using e1.symm
 have e2:=dH hM y;rw [aZ hl (by simp [ho,Op.operands]),hy] at e2;have e2:a.eval y=.int kc (c:Int):=by simpa [fP] using e2.symm
 have hn0:eR L0 nm=none:=by rw [hag nm (.inr (by simp [fQ]))];exact hn
 obtain ⟨ρ',_,g2,g3,g4⟩:=hL.alloc hn0 (lN (ρ:=ρ) ((Array.range (c*i.size)).map (z.cells[· %z.cells.size]!)).toList) el;have hb':(i.bytes:Int)*(c:Int)≤281474976710656:=by
  have h:((c*i.bytes:Nat):Int)≤281474976710656:=by omega
  rw [Nat.mul_comm] at h;rwa [Int.natCast_mul] at h
 have hr:=run_make (P:=P) w t el i z hu hi hz kl kc (l:Int) (c:Int) (by omega) (by omega) hb' (by omega);simp only [Int.toNat_natCast] at hr;unfold Oper.wp;have:(execOp a.eval o).run P w=.ok (.value (.slice (some ⟨w.heap.size,0,none⟩) l c)) (w.alloc (.cells ⟨((Array.range (c*i.size)).map (z.cells[· %z.cells.size]!)).toList⟩ el)):=by
  simp only [execOp,ho,e1,e2,Sem.run_bind,hr,Sem.run_pure,Result.andThen_ok,madeCells]
 rw [this];exact hnx ρ' _ _ g3 (by simp [fP,g2]) g4
theorem TU {L:cF} {size:Nat} {x:AV} {m:Nm} {n:Nat} {news:List CV} (h:srcA L size x=some (m,n,news)) {ρ:gZ} {w:World} {L0:cF} (hL:ML ρ L0 w) (hm:eR L0 m=eR L m) {v:Value} (hv:fP ρ x=some v):
  ∃ad cap ns,v=.slice (some ad) n cap∧dF ρ news=some ns∧ns.length=n*size∧(∀j u,ns[j]? =some u→w.cell? (ad.add j)=some u)∧(∀u∈ns,u.oneCell'=true)∧1≤n∧1≤size:=by
 have core:∀(b:kJ) (q:Nat×Nat×Option Obj) (off:Nat),uO L m=some b→ρ m=some q→off+n*size≤b.cells.length→news=pE b.cells off (n*size)→news.all one=true→1≤n→1≤size→
   ∃ns,dF ρ news=some ns∧ns.length=n*size∧(∀j u,ns[j]? =some u→w.cell? ((⟨q.1,off,none⟩:Addr).add j)=some u)∧(∀u∈ns,u.oneCell'=true)∧1≤n∧1≤size:=by
  intro b q off hb hq hfit hnw hone h1 h2;obtain ⟨hk,hk1⟩:=lQ hb;obtain ⟨vs,zs,_,p1,p2,p3,_⟩:=hL.blk m q b hq (by rw [hm];exact hk) hk1;have p4:dF ρ (pE b.cells off (n*size))=some ((vs.drop off).take (n*size)):=jT _ (lM _ p1);rw [←hnw] at p4;have hlen:=eO p1;refine ⟨_,p4,by simp;omega,fun j u hj=>?_,one_at p4 hone,h1,h2⟩;rw [List.getElem?_take] at hj;split at hj
  ·rw [List.getElem?_drop] at hj;have hlt:=(List.getElem?_eq_some_iff.1 hj).1;rw [Addr.add_mid];simp only [World.cell?,p2];simpa [List.getElem?_append_left hlt] using hj
  ·cases hj
 unfold srcA at h;split at h
 ·rename_i m' off n' cp;split at h
  ·rename_i b hb;cases hc:(aiZ (off+n'*size) b.cells.length&&aiZ 1 n'&&aiZ 1 size&&(pE b.cells off (n'*size)).all one) with
   | false=>rw [hc] at h;cases h
   | true=>
    rw [hc] at h;simp only [cond_true,afZ.injEq,Prod.mk.injEq] at h;obtain ⟨rfl,rfl,h⟩:=h;simp only [Bool.and_eq_true] at hc;obtain ⟨⟨⟨c1,c2⟩,c3⟩,c4⟩:=hc;simp only [fP,abQ] at hv;obtain ⟨q,hq,rfl⟩:=hv;obtain ⟨ns,r⟩:=core b q off hb hq (aeQ c1) h.symm (by rw [←h];exact c4) (aeQ c2) (aeQ c3);exact ⟨_,_,ns,rfl,r⟩
  ·cases h
 ·rename_i m' e i0 n';split at h
  ·rename_i b hb;cases hc:(agJ e size&&aiZ (i0*e+n'*size) b.cells.length&&aiZ 1 n'&&aiZ 1 size&&(pE b.cells (i0*e) (n'*size)).all one) with
   | false=>rw [hc] at h;cases h
   | true=>
    rw [hc] at h;simp only [cond_true,afZ.injEq,Prod.mk.injEq] at h;obtain ⟨rfl,rfl,h⟩:=h;simp only [Bool.and_eq_true] at hc;obtain ⟨⟨⟨⟨c0,c1⟩,c2⟩,c3⟩,c4⟩:=hc;simp only [fP,abQ] at hv;obtain ⟨q,hq,rfl⟩:=hv;obtain ⟨ns,r⟩:=core b q (i0*e) hb hq (aeQ c1) h.symm (by rw [←h];exact c4) (aeQ c2) (aeQ c3);exact ⟨_,_,ns,rfl,r⟩
  ·cases h
 ·cases h
theorem opS_append {τ:List AV} {L:cF} {o:Oper} {c:Call} {nm:Nm} {k:AV→cF→List Nm→Option α} {r:α} (ho:o.op=.call c) (hb:c.callee=.builtin .append) (h:PM P L nm c τ k=some r):∃v U rd,k v U rd=some r∧wK P all o τ L v U rd:=by
 unfold PM at h;split at h
 case h_2=>cases h
 rename_i x y t t' hargs htys;cases htt:agJ t t' with
 | false=>rw [htt] at h;cases h
 | true=>
 rw [htt] at h;have htt:t=t':=adX htt;subst htt;simp only [cond_true] at h;split at h
 case h_2=>cases h
 rename_i el hu;split at h
 case h_2=>cases h
 rename_i i hi;split at h
 case h_2=>cases h
 rename_i z hz;cases hzs:(agJ z.cells.toList.length i.size&&aiZ 1 i.size) with
 | false=>rw [hzs] at h;cases h
 | true=>
 rw [hzs] at h;simp only [cond_true] at h;simp only [Bool.and_eq_true] at hzs;have z1:z.cells.size=i.size:=by have:=adX hzs.1;simpa using this
 have z2:1≤i.size:=aeQ hzs.2;split at h
 case h_2=>cases h
 rename_i m n news hsrc;have ea:c.args= #[x,y]:=by apply akX.1;rw [hargs]
 have et:c.argTypes= #[t,t]:=by apply akX.1;rw [htys]
 have hmx:x∈o.op.operands:=by simp [ho,Op.operands,Call.operands,ea]
 have hmy:y∈o.op.operands:=by simp [ho,Op.operands,Call.operands,ea]
 have hexec:∀(a:Act) (w w':World) (u:Value),(Builtin.append_ #[t,t] o.type #[a.eval x,a.eval y]).run P w=.ok u w'→(execOp a.eval o).run P w=.ok (.value u) w':=fun a w w' u hq=>by
  simp [execOp,ho,resolve,hb,ea,et,invoke,builtin,hq]
 split at h
 ·
  rename_i hx hnm;cases hc:(aiZ (n*i.bytes) 140737488355328&&aiZ n 140737488355328) with
  | false=>rw [hc] at h;cases h
  | true=>
  rw [hc] at h;simp only [cond_true] at h;simp only [Bool.and_eq_true] at hc;have c1:=aeQ hc.1;have c2:=aeQ hc.2;refine ⟨_,_,_,h,?_⟩;intro ρ a w τ0 L0 hM hl hL hag next Q hnx
  have h1:=dH hM x;rw [aZ hl hmx,hx] at h1;have h1:a.eval x=.slice none 0 0:=by simpa [fP] using h1.symm
  have h2:=dH hM y;rw [aZ hl hmy] at h2;obtain ⟨ad,cap,ns,e1,e2,e3,e4,e5,e6,e7⟩:=TU hsrc hL (hag m (.inl (by simp))) h2;have hn0:eR L0 nm=none:=by rw [hag nm (.inr (by simp [fQ]))];exact hnm
  have hr:=run_append_nil (P:=P) w t o.type el i z hu hi hz ad n cap ns e3 e4 (by omega) (by omega) (by omega);obtain ⟨ρ',g2,g3,g4⟩:=hL.drew.allocU hn0 e2 (Builtin.zeroCells z.cells (grownCap w n 0 el-n)).toList el;have hcap:=grownCap_ge w n 0 el;generalize grownCap w n 0 el=g at*;have hrow:(ns.toArray++Builtin.zeroCells z.cells (g-n))=(⟨ns++(Builtin.zeroCells z.cells (g-n)).toList⟩:Array Value):=by apply akX.1;simp
  rw [hrow] at hr;unfold Oper.wp;rw [hexec a w _ _ (by rw [h1,e1];exact hr)];refine hnx ρ' _ _ (Nxt.drew.trans g3) ?_ g4;have hlen:(ns++(Builtin.zeroCells z.cells (g-n)).toList).length=g*i.size:=by
   have:=size_zeroCells z.cells (g-n);simp only [aqZ,e3,Array.length_toList,this,z1];rw [←asQ];congr 1;omega
  simp only [fP,g2,ayZ,hlen,Nat.zero_mul,Nat.sub_zero];rw [Nat.mul_div_cancel _ (by omega)]
 ·rename_i d e len hx hnm;split at h
  case h_2=>cases h
  rename_i b hbk;cases hc:(agJ e i.size&&agJ b.ty el&&rwB b&&aiZ (len*e) b.cells.length&&aiZ ((len+n)*i.bytes) 140737488355328&&aiZ (len+n) 140737488355328) with
  | false=>rw [hc] at h;cases h
  | true=>
  rw [hc] at h;simp only [cond_true] at h;simp only [Bool.and_eq_true] at hc;obtain ⟨⟨⟨⟨⟨c1,c2⟩,crw⟩,c3⟩,c4⟩,c5⟩:=hc;have c1:e=i.size:=adX c1;have c2:b.ty=el:=adX c2;have c3:=aeQ c3;have c4:=aeQ c4;have c5:=aeQ c5;obtain ⟨hk,hk1⟩:=lQ hbk;subst c1;have start:∀{ρ:gZ} {a:Act} {w:World} {τ0:List AV} {L0:cF},MT ρ τ0 a→(∀t∈looks all o,gO τ0 t=gO τ t)→ML ρ L0 w→eR L0 m=eR L m→eR L0 d=eR L d→
    ∃q ad cap ns vs zs,ρ d=some q∧eR L0 d=some b∧a.eval x=.slice (some ⟨q.1,0,none⟩) len (q.2.1/i.size)∧a.eval y=.slice (some ad) n cap∧dF ρ news=some ns∧ns.length=n*i.size∧(∀j u,ns[j]? =some u→w.cell? (ad.add j)=some u)∧
     (∀u∈ns,u.oneCell'=true)∧1≤n∧dF ρ b.cells=some vs∧w.heap[q.1]? =some (.cells ⟨vs++zs⟩ el (0,0))∧q.2.1=(vs++zs).length∧vs.length=b.cells.length∧q.2.2=none:=by
   intro ρ a w τ0 L0 hM hl hL hm hd;have h1:=dH hM x;rw [aZ hl hmx,hx] at h1;simp only [fP,abQ] at h1;obtain ⟨q,hq,ex⟩:=h1;have h2:=dH hM y;rw [aZ hl hmy] at h2;obtain ⟨ad,cap,ns,e1,e2,e3,e4,e5,e6,e7⟩:=TU hsrc hL hm h2;obtain ⟨vs,zs,ty,p1,p2,p3,p4⟩:=hL.blk d q b hq (by rw [hd];exact hk) hk1;exact ⟨q,ad,cap,ns,vs,zs,hq,by rw [hd];exact hk,by rw [←ex];simp,e1,e2,e3,e4,e5,e6,p1,by rw [←c2,←p4 crw];exact p2,p3,eO p1,hL.free hq (by rw [hd];exact hk) crw⟩
  have room:∀{w:World} {q:Nat×Nat×Option Obj} {ad:Addr} {cap:Nat} {ns vs zs:List Value},w.heap[q.1]? =some (.cells ⟨vs++zs⟩ el (0,0))→q.2.1=(vs++zs).length→ns.length=n*i.size→(∀j u,ns[j]? =some u→w.cell? (ad.add j)=some u)→(∀u∈ns,u.oneCell'=true)→
    len+n≤q.2.1/i.size→(Builtin.append_ #[t,t] o.type #[.slice (some ⟨q.1,0,none⟩) len (q.2.1/i.size),.slice (some ad) n cap]).run P w=
     .ok (.slice (some ⟨q.1,0,none⟩) (len+n) (q.2.1/i.size)) (w.setRow q.1 ⟨(vs++zs).take (len*i.size)++ns++(vs++zs).drop (len*i.size+ns.length)⟩):=by
   intro w q ad cap ns vs zs p2 p3 e3 e4 e5 hle;have h1:(len+n)*i.size≤q.2.1:=(Nat.le_div_iff_mul_le (by omega)).1 hle;rw [asQ] at h1;have hr:=run_append_room (P:=P) w t o.type el i hu hi q.1 len (q.2.1/i.size) ⟨vs++zs⟩ p2 ad n cap ns e3 e4 e5 hle (by simp only [List.size_toArray];omega);rw [hr]
  cases hroom:aiZ ((len+n)*i.size) b.cells.length with
  | true=>
   rw [hroom] at h;simp only [cond_true] at h;have hroom:=aeQ hroom;refine ⟨_,_,_,h,?_⟩;intro ρ a w τ0 L0 hM hl hL hag next Q hnx
   obtain ⟨q,ad,cap,ns,vs,zs,s1,s2,s3,s4,s5,s6,s7,s8,s9,s10,s11,s12,s13,s14⟩:=start hM hl hL (hag m (.inl (by simp))) (hag d (.inr (by simp [fQ])));have hq2:(len+n)*i.size≤q.2.1:=by rw [s12,aqZ];omega
   have hcap:len+n≤q.2.1/i.size:=(Nat.le_div_iff_mul_le (by omega)).2 hq2;have hr:=room s11 s12 s6 s7 s8 hcap (cap:=cap);have hnl:=eO s5;rw [asQ] at hroom;have t1:(vs++zs).take (len*i.size)=vs.take (len*i.size):=by rw [List.take_append_of_le_length (by omega)]
   have t2:(vs++zs).drop (len*i.size+ns.length)=vs.drop (len*i.size+ns.length)++zs:=by rw [List.drop_append_of_le_length (by omega)]
   rw [t1,t2,←List.append_assoc] at hr;have hnew:dF ρ (b.cells.take (len*i.size)++news++b.cells.drop (len*i.size+news.length))=some (vs.take (len*i.size)++ns++vs.drop (len*i.size+ns.length)):=by
    rw [hnl];exact fY (fY (jT _ s10) s5) (lM _ s10)
   obtain ⟨g1,g2⟩:=hL.set s1 s2 hk1 hnew zs (by rw [s12];simp;omega) s14;unfold Oper.wp;rw [hexec a w _ _ (by rw [s3,s4];exact hr)];exact hnx ρ _ _ g1 (by simp [fP,s1]) g2
  | false=>
   rw [hroom] at h;simp only [cond_false] at h;refine ⟨_,_,_,h,?_⟩;intro ρ a w τ0 L0 hM hl hL hag next Q hnx
   obtain ⟨q,ad,cap,ns,vs,zs,s1,s2,s3,s4,s5,s6,s7,s8,s9,s10,s11,s12,s13,s14⟩:=start hM hl hL (hag m (.inl (by simp))) (hag d (.inr (by simp [fQ])));have hn0:eR L0 nm=none:=by rw [hag nm (.inr (by simp [fQ]))];exact hnm
   have hnew:dF ρ (b.cells.take (len*i.size)++news)=some (vs.take (len*i.size)++ns):=fY (jT _ s10) s5;unfold Oper.wp;by_cases hcap:len+n≤q.2.1/i.size
   ·have hr:=room s11 s12 s6 s7 s8 hcap (cap:=cap);have h1:(len+n)*i.size≤q.2.1:=(Nat.le_div_iff_mul_le (by omega)).1 hcap;rw [asQ] at h1;have t1:(vs++zs).take (len*i.size)=vs.take (len*i.size):=by rw [List.take_append_of_le_length (by omega)]
    rw [t1] at hr;obtain ⟨ρ',g1,g2,g3⟩:=hL.move s1 s2 hk1 hn0 hnew ((vs++zs).drop (len*i.size+ns.length)) (by rw [s12] at h1 ⊢;simp only [aqZ,List.length_take,List.length_drop] at h1 ⊢;omega) s14 el;rw [c2] at g3;rw [hexec a w _ _ (by rw [s3,s4];exact hr)];exact hnx ρ' _ _ g2 (by simp [fP,g1]) g3
   ·have hfo:∀j v,(vs.take (len*i.size))[j]? =some v→w.cell? ((⟨q.1,0,none⟩:Addr).add j)=some v:=fun j v hj=>by
     rw [List.getElem?_take] at hj;split at hj
     ·have hlt:=(List.getElem?_eq_some_iff.1 hj).1;rw [Addr.add_mid];simp only [World.cell?,s11];simpa [List.getElem?_append_left hlt] using hj
     ·cases hj
    have hr:=run_append_grow (P:=P) w t o.type el i z hu hi hz ⟨q.1,0,none⟩ len (q.2.1/i.size) (vs.take (len*i.size)) (by simp;omega) hfo ad n cap ns s6 s7 (by omega) (by omega) (growslice_fits (by omega) c4);obtain ⟨ρ',g2,g3,g4⟩:=(hL.kill s1 s14 el).drew.allocU (nm:=nm) (by rw [bN,if_neg (fun q=>by rw [q,hn0] at s2;cases s2)];exact hn0) hnew (Builtin.zeroCells z.cells (grownCap w (len+n) (q.2.1/i.size) el-(len+n))).toList el;have hge:=grownCap_ge w (len+n) (q.2.1/i.size) el;generalize grownCap w (len+n) (q.2.1/i.size) el=g at*;have hrow:((vs.take (len*i.size)).toArray++ns.toArray++Builtin.zeroCells z.cells (g-(len+n)))=(⟨vs.take (len*i.size)++ns++(Builtin.zeroCells z.cells (g-(len+n))).toList⟩:Array Value):=by apply akX.1;simp
    rw [hrow] at hr;rw [hexec a w _ _ (by rw [s3,s4];exact hr)];refine hnx ρ' _ _ (Nxt.drew.trans g3) ?_ g4;have hlen:(vs.take (len*i.size)++ns++(Builtin.zeroCells z.cells (g-(len+n))).toList).length=g*i.size:=by
     have:=size_zeroCells z.cells (g-(len+n));simp only [aqZ,List.length_take,s6,Array.length_toList,this,z1];rw [Nat.min_eq_left (by omega),←asQ,←asQ];congr 1;omega
    simp only [fP,g2,ayZ,hlen,Nat.zero_mul,Nat.sub_zero];rw [Nat.mul_div_cancel _ (by omega)]
 ·cases h
theorem opS_copy {τ:List AV} {L:cF} {o:Oper} {c:Call} {k:AV→cF→List Nm→Option α} {r:α} (ho:o.op=.call c) (hb:c.callee=.builtin .copy) (h:copyA P L c τ k=some r):∃v U rd,k v U rd=some r∧wK P all o τ L v U rd:=by
 unfold copyA at h;split at h
 case h_2=>cases h
 rename_i x y t tys hargs htys;split at h
 case h_2=>cases h
 rename_i el hu;split at h
 case h_2=>cases h
 rename_i i hi;split at h
 case h_2=>cases h
 rename_i m n news d off len cp hsrc hx;split at h
 case h_2=>cases h
 rename_i b hbk;cases hc:(agJ n len&&agJ b.ty el&&rwB b&&aiZ (off+news.length) b.cells.length) with
 | false=>rw [hc] at h;cases h
 | true=>
 rw [hc] at h;simp only [cond_true] at h;simp only [Bool.and_eq_true] at hc;obtain ⟨⟨⟨c1,c2⟩,crw⟩,c3⟩:=hc;have c1:n=len:=adX c1;have c2:b.ty=el:=adX c2;have c3:=aeQ c3;subst c1;obtain ⟨hk,hk1⟩:=lQ hbk;have ea:c.args= #[x,y]:=by apply akX.1;rw [hargs]
 have et:c.argTypes[0]? =some t:=by rw [←Array.getElem?_toList,htys];rfl
 have hmx:x∈o.op.operands:=by simp [ho,Op.operands,Call.operands,ea]
 have hmy:y∈o.op.operands:=by simp [ho,Op.operands,Call.operands,ea]
 refine ⟨_,_,_,h,?_⟩;intro ρ a w τ0 L0 hM hl hL hag next Q hnx
 have h1:=dH hM x;rw [aZ hl hmx,hx] at h1;simp only [fP,abQ] at h1;obtain ⟨q,hq,ex⟩:=h1;have h2:=dH hM y;rw [aZ hl hmy] at h2;obtain ⟨ad,cap,ns,e1,e2,e3,e4,e5,e6,e7⟩:=TU hsrc hL (hag m (.inl (by simp))) h2;have hk0:eR L0 d=some b:=by rw [hag d (.inr (by simp [fQ]))];exact hk
 obtain ⟨vs,zs,ty,p1,p2,p3,_⟩:=hL.blk d q b hq hk0 hk1;have hnl:=eO e2;have hvl:=eO p1;have hf:=run_firstCells_some (P:=P) w i.size n ad n cap ns e3 e4;have hst:=run_storeCells_at P q.1 off ty ns 0 ⟨vs++zs⟩ w p2 (by simp;omega) e5;simp only [avJ] at hst;have t1:(vs++zs).take off=vs.take off:=by rw [List.take_append_of_le_length (by omega)]
 have t2:(vs++zs).drop (off+ns.length)=vs.drop (off+ns.length)++zs:=by rw [List.drop_append_of_le_length (by omega)]
 rw [t1,t2,←List.append_assoc] at hst;have hnew:dF ρ (b.cells.take off++news++b.cells.drop (off+news.length))=some (vs.take off++ns++vs.drop (off+ns.length)):=by
  rw [hnl];exact fY (fY (jT _ p1) e2) (lM _ p1)
 obtain ⟨g1,g2⟩:=hL.set hq hk0 hk1 hnew zs (by rw [p3];simp;omega) (hL.free hq hk0 crw);unfold Oper.wp;have:(execOp a.eval o).run P w=.ok (.value (.int .i64 (n:Int))) (w.setRow q.1 ⟨vs.take off++ns++vs.drop (off+ns.length)++zs⟩):=by
  simp [execOp,ho,resolve,hb,ea,et,invoke,builtin,Builtin.copy_,run_underlying hu,←ex,e1,Builtin.lenOf,sizeOf,typeInfo,hi,hf,hst,goInt]
 rw [this];exact hnx ρ _ _ g1 rfl g2
theorem evOp_sound (hE:∀e∈E,nI P e) (hC:∀g∈C,jF P g) (hcall:BC P call) {o:Oper} {τ:List AV} {L:cF} {nm:Nm} {k:AV→cF→List Nm→Option α} {r:α}
  (h:evOp P E C call o τ L nm k=some r):∃v U rd,k v U rd=some r∧wK P all o τ L v U rd:=by
 have gen:(∀cs b,o.op≠.select cs b)→(match EW P τ o with | some v=>k v [] [] | none=>none)=some r→∃v U rd,k v U rd=some r∧wK P all o τ L v U rd:=fun hs hg=>by
  split at hg
  ·rename_i v hv;exact ⟨v,[],[],hg,opS_gen hs hv⟩
  ·cases hg
 cases ho:o.op<;>simp only [evOp,ho] at h
 case move x=>exact ⟨_,_,_,h,opS_move ho⟩
 case assign x=>exact ⟨_,_,_,h,opS_assign ho⟩
 case pick c x y=>
  split at h
  ·rename_i t ht;have:=opS_pick (P:=P) (all:=all) (L:=L) ho ht;cases t
   ·exact ⟨_,_,_,h,this⟩
   ·exact ⟨_,_,_,h,this⟩
  ·cases h
 case alloc t=>
  split at h
  ·rename_i i hi;split at h
   ·rename_i z hz;split at h
    ·rename_i hn;exact ⟨_,_,_,h,opS_alloc ho hi hz hn⟩
    ·cases h
   ·cases h
  ·cases h
 case box t x=>
  split at h
  ·rename_i cs hcs;split at h
   ·rename_i hn;exact ⟨_,_,_,h,opS_box ho hcs hn⟩
   ·cases h
  ·cases h
 case build t ps=>
  cases hv:pA τ (ps.toList.map (·.2)) with
  | false=>
   rw [hv] at h;simp only [cond_false] at h;split at h
   ·rename_i cells hb;exact ⟨_,_,_,h,opS_buildC ho hb⟩
   ·cases h
  | true=>
   rw [hv] at h;simp only [cond_true] at h;split at h
   ·rename_i cells hb;exact ⟨_,_,_,h,opS_build ho hv hb⟩
   ·cases h
 case load t x=>
  split at h
  ·rename_i n off hx;split at h
   ·rename_i b hb;split at h
    ·rename_i v hv;exact ⟨_,_,_,h,opS_load ho hx hb hv⟩
    ·cases h
   ·cases h
  ·rename_i g hx;cases hv:globA P t g with
   | none=>rw [hv] at h;cases h
   | some v=>rw [hv] at h;exact ⟨_,_,_,h,opS_glob ho hx hv⟩
  ·cases h
 case store t x y=>
  split at h
  ·rename_i n off hx;split at h
   ·rename_i b hb;cases hrw:rwB b with
    | false=>rw [hrw] at h;cases h
    | true=>
     rw [hrw] at h;simp only [cond_true] at h;split at h
     ·rename_i v hv;exact ⟨_,_,_,h,opS_store ho hx hb hrw hv⟩
     ·cases h
   ·cases h
  ·cases h
 case fieldAddr s x f=>
  split at h
  ·rename_i n off hx;split at h
   ·rename_i d hd;exact ⟨_,_,_,h,LZ ho hx hd⟩
   ·cases h
  ·cases h
 case indexAddr t x y=>
  split at h
  ·rename_i n off k' ix hx hy;split at h
   ·rename_i d hd;exact ⟨_,_,_,h,MA ho hx hy hd⟩
   ·cases h
  ·rename_i n off len cp k' ix hx hy;split at h
   ·rename_i d hd;exact ⟨_,_,_,h,JZ ho hx hy hd⟩
   ·cases h
  ·rename_i n e i0 len k' ix hx hy;split at h
   ·rename_i d hd;exact ⟨_,_,_,h,MB ho hx hy hd⟩
   ·cases h
  ·cases h
 case makeSlice t x y=>
  unfold makeA at h;split at h
  case h_2=>cases h
  rename_i kl l kc c el hx hy hu hn;split at h
  case h_2=>cases h
  rename_i i hi;split at h
  case h_2=>cases h
  rename_i z hz;cases hc:(aiZ 1 (c*i.size)&&aiZ l c&&aiZ c 140737488355328&&aiZ (c*i.bytes) 140737488355328) with
  | false=>rw [hc] at h;cases h
  | true=>
   rw [hc] at h;simp only [cond_true] at h;simp only [Bool.and_eq_true] at hc;exact ⟨_,_,_,h,opS_make ho hx hy hu hi hz hn (aeQ hc.1.1.2) (aeQ hc.1.2) (aeQ hc.2)⟩
 case buildSlice t n ps=>
  cases hv:pA τ (ps.toList.map (·.2)) with
  | false=>rw [hv] at h;cases h
  | true=>
   rw [hv] at h;simp only [cond_true] at h;split at h
   ·rename_i e cells hb;split at h
    ·rename_i hn;exact ⟨_,_,_,h,JY ho hv hb hn⟩
    ·cases h
   ·cases h
 case slice t x lo hi mx=>
  cases mx with
  | some y=>cases h
  | none=>
   dsimp only at h;split at h
   ·rename_i n e i0 len hx;split at h
    ·rename_i b hb;split at h
     ·rename_i v hv;exact ⟨_,_,_,h,opS_sliceO ho hx hb hv⟩
     ·cases h
    ·cases h
   ·split at h
    ·rename_i v hv;exact ⟨_,_,_,h,opS_slice ho hv⟩
    ·cases h
 case nilCheck x=>
  split at h
  ·rename_i n off hx;have:=FY (P:=P) (all:=all) (L:=L) (τ:=τ) ho (fun v=>by rw [hx];simp) (fun v=>by rw [hx];simp) (fun v=>by rw [hx];simp);rw [hx] at this;exact ⟨_,_,_,h,this⟩
  ·rename_i f b c hx;have:=FY (P:=P) (all:=all) (L:=L) (τ:=τ) ho (fun v=>by rw [hx];simp) (fun v=>by rw [hx];simp) (fun v=>by rw [hx];simp);rw [hx] at this;exact ⟨_,_,_,h,this⟩
  ·rename_i n i l c hx;have:=FY (P:=P) (all:=all) (L:=L) (τ:=τ) ho (fun v=>by rw [hx];simp) (fun v=>by rw [hx];simp) (fun v=>by rw [hx];simp);rw [hx] at this;exact ⟨_,_,_,h,this⟩
  ·rename_i n e i l hx;have:=FY (P:=P) (all:=all) (L:=L) (τ:=τ) ho (fun v=>by rw [hx];simp) (fun v=>by rw [hx];simp) (fun v=>by rw [hx];simp);rw [hx] at this;exact ⟨_,_,_,h,this⟩
  ·exact gen (fun cs b q=>by rw [ho] at q;cases q) h
 case binOp op t x y yt=>
  split at h
  ·rename_i q a b hq hx hy;cases hb:(b==0) with
   | true=>rw [hb] at h;cases h
   | false=>
    rw [hb] at h;exact ⟨_,_,_,h,opS_div ho hq hx hy (by simpa using hb)⟩
  ·split at h
   ·rename_i v hv;exact ⟨_,_,_,h,binA_sound hE ho hv⟩
   ·cases h
 case makeFunc f bs cs=>
  split at h
  ·rename_i g b c hb hc;exact ⟨_,_,_,h,SL ho hb hc⟩
  ·cases h
 case unOp a b c=>exact gen (fun cs b q=>by rw [ho] at q;cases q) h
 case convert a b c=>exact gen (fun cs b q=>by rw [ho] at q;cases q) h
 case field a b c=>exact gen (fun cs b q=>by rw [ho] at q;cases q) h
 case index a b c=>exact gen (fun cs b q=>by rw [ho] at q;cases q) h
 case extract a b=>
  split at h
  ·rename_i l hx;split at h
   ·rename_i c hc;exact ⟨_,_,_,h,YT ho hx hc⟩
   ·cases h
  ·exact gen (fun cs b q=>by rw [ho] at q;cases q) h
 case call c=>
  split at h
  ·rename_i b hbi;split at h
   ·exact opS_append ho hbi h
   ·exact opS_copy ho hbi h
   ·split at h
    ·rename_i v hv;exact ⟨_,_,_,h,opS_len ho hv⟩
    ·exact gen (fun cs b q=>by rw [ho] at q;cases q) h
  ·split at h
   ·rename_i _ hnb _ g bs cp hcl;obtain ⟨v,U,rd,h1,h2⟩:=QY (all:=all) hC hcall h;refine ⟨v,U,rd,h1,h2 o τ ?_⟩;intro ρ a w τ0 hM hl;cases hce:c.callee with
    | builtin b=>exact absurd hce (hnb b)
    | invoke r m=>rw [hce] at hcl;simp [callee] at hcl
    | value f=>
     rw [hce] at hcl;have hf:=dH hM f;rw [aZ hl (by simp [ho,Op.operands,Call.operands,hce])] at hf;have ha:fD ρ (c.args.toList.map (iI τ))=some (c.args.toList.map a.eval):=rY hM hl _ fun x hx=>by
      simp only [ho,Op.operands,Call.operands];exact Array.mem_append.2 (.inr (by simpa using hx))
     simp only [callee] at hcl;split at hcl
     ·rename_i g' b' c' he;simp only [afZ.injEq,Prod.mk.injEq] at hcl;obtain ⟨e1,e2,e3⟩:=hcl;subst e1 e2 e3;rw [he] at hf;have hf:a.eval f=.func (.func g') b' c':=by simpa [fP] using hf.symm
      refine ⟨b'.toList++c.args.toList.map a.eval++c'.toList,iK (iK (jR _) ha) (jR _),?_⟩;simp only [execOp,ho,resolve,hce,hf,Deferred.ofValue,Sem.run_bind,Sem.run_pure,Result.andThen_ok,invoke];congr 2;apply akX.1;simp
     ·rename_i g' b' c' he;simp only [afZ.injEq,Prod.mk.injEq] at hcl;obtain ⟨e1,e2,e3⟩:=hcl;subst e1 e2 e3;rw [he] at hf;simp only [fP,adJ,abQ] at hf;obtain ⟨vb,q1,vc,q2,q3⟩:=hf;refine ⟨vb++c.args.toList.map a.eval++vc,iK (iK (by rw [tZ];exact q1) ha) (by rw [tZ];exact q2),?_⟩;simp only [execOp,ho,resolve,hce,←q3,Deferred.ofValue,Sem.run_bind,Sem.run_pure,Result.andThen_ok,invoke];congr 2;apply akX.1;simp
     ·cases hcl
   ·cases h
 all_goals cases h
end
end
end Ev
namespace Ev
open Go.RowKit
def iY (all:List Oper) (τ:List AV) (o:Oper):Bool:=
 match o.guard with
 | none=>true
 | some (j,want)=>match IQ all j with
  | none=>false
  | some d=>match gO τ d with
   | .v (.bool b)=>b==want
   | _=>false
theorem dstOf_eq (ops:Array Oper) (j:Nat):IQ ops.toList j=(ops[j]?).bind (·.dst):=by
 unfold IQ;rw [Array.getElem?_toList];cases ops[j]?<;>rfl
theorem wantedA_eq (ops:Array Oper) {ρ:gZ} {τ:List AV} {a:Act} (hM:MT ρ τ a) (o:Oper):Region.wanted o (yielded ops a.tmps)=iY ops.toList τ o:=by
 unfold Region.wanted iY;cases hg:o.guard with
 | none=>rfl
 | some gw=>
  obtain ⟨j,want⟩:=gw;simp only [dstOf_eq,yielded];cases hd:(ops[j]?).bind (·.dst) with
  | none=>rfl
  | some d=>
   simp only [awQ];have h:=FP hM d;cases hx:a.tmps[d]? with
   | none=>
    have hu:a.tmps.getD d undef=undef:=by simp [hx]
    rw [hu] at h;cases hq:gO τ d with
    | v x=>
     rw [hq] at h;simp only [fP,afZ.injEq] at h;subst h;rfl
    | p n off=>rfl
    | c f b c=>rfl
    | s n off l c=>rfl
    | o n off l c=>rfl
    | t l=>rfl
    | g l=>rfl
   | some x=>
    have hu:a.tmps.getD d undef=x:=by simp [hx]
    rw [hu] at h;cases hq:gO τ d with
    | v y=>
     rw [hq] at h;simp only [fP,afZ.injEq] at h;subst h;cases y<;>simp
    | p n off=>
     rw [hq] at h;simp only [fP,abQ] at h;obtain ⟨b,_,e⟩:=h;subst e;rfl
    | c f b c=>
     rw [hq] at h;simp only [fP,adJ,abQ] at h;obtain ⟨y,_,z,_,h3⟩:=h;subst h3;rfl
    | s n off l c=>
     rw [hq] at h;simp only [fP,abQ] at h;obtain ⟨b,_,e⟩:=h;subst e;rfl
    | o n off l c=>
     rw [hq] at h;simp only [fP,abQ] at h;obtain ⟨b,_,e⟩:=h;subst e;rfl
    | t l=>
     rw [hq] at h;simp only [fP,abQ] at h;obtain ⟨b,_,e⟩:=h;subst e;rfl
    | g l=>
     rw [hq] at h;simp only [fP,abQ] at h;obtain ⟨b,_,e⟩:=h;subst e;rfl
theorem MJ {all:List Oper} {τ τ':List AV} {o:Oper} (h:∀t∈looks all o,gO τ' t=gO τ t):iY all τ' o=iY all τ o:=by
 unfold iY;cases hg:o.guard with
 | none=>rfl
 | some gw=>
  obtain ⟨j,want⟩:=gw
  (try dsimp only)
  cases hd:IQ all j with
  | none=>rfl
  | some d=>
   (try dsimp only)
   rw [h d (by simp [looks,hg,hd])]
section
variable {P : Program}
def StepOK (P:Program) (all:List Oper) (o:Oper) (τ:List AV) (L:cF) (v:AV) (U:cF) (rd:List Nm):Prop:=
 (iY all τ o=true∧wK P all o τ L v U rd)∨(iY all τ o=false∧v=.v undef∧U=[]∧rd=[])
inductive Rec (P:Program) (all:List Oper):List Oper→List AV→cF→List (AV×cF×List Nm)→List AV→cF→Prop
 | nil (τ:List AV) (L:cF):Rec P all [] τ L [] τ L
 | cons {o:Oper} {rest:List Oper} {τ:List AV} {L:cF} {v:AV} {U:cF} {rd:List Nm} {ds:List (AV×cF×List Nm)} {τf:List AV} {Lf:cF}
   (h:StepOK P all o τ L v U rd) (k:Rec P all rest (CG τ o.dst v) (U++L) ds τf Lf):Rec P all (o::rest) τ L ((v,U,rd)::ds) τf Lf
def qU (d:AV×cF×List Nm):Foot:=⟨d.2.2,fQ d.2.1⟩
theorem bool_at {τ:List AV} {d:Nat} {b:Bool} (h:LX τ d=.v (.bool b)):τ[d]? =some (.v (.bool b)):=by
 rw [oE] at h;unfold gO at h;split at h
 ·rename_i x hx;rw [hx,h]
 ·cases h
theorem ZO {τ:List AV} {d:Nat} {x:AV} (h:τ[d]? =some x):τ.set d x=τ:=by
 apply List.ext_getElem (by simp);intro i h1 h2;rw [List.getElem_set];split
 ·rename_i e;subst e;rw [List.getElem?_eq_getElem h2] at h;exact (afZ.inj h).symm
 ·rfl
section
variable {α : Type} {E : List (TypeId × Nat)} {C : List FuncId} {call : FuncId → List AV → cF → Nm → (AV → cF → Option α) → Option α}
theorem uH {all:List Oper} (hE:∀e∈E,nI P e) (hC:∀g∈C,jF P g) (hcall:BC P call) {fin:List Foot→Bool} {base:Nm} {k:List AV→cF→Option α} {r:α}:
  ∀(rest:List Oper) (i:Nat) (τ:List AV) (L:cF) (fs:List Foot),DP P E C call all fin base rest i τ L fs k=some r→
   ∃ds τf Lf,Rec P all rest τ L ds τf Lf∧fin (fs++ds.map qU)=true∧k τf Lf=some r
 | [],i,τ,L,fs,h=>by
  unfold DP at h;cases hf:fin fs with
  | false=>rw [hf] at h;cases h
  | true=>rw [hf] at h;exact ⟨[],τ,L,.nil τ L,by simpa using hf,h⟩
 | o::rest,i,τ,L,fs,h=>by
  have go:iY all τ o=true→(evOp P E C call o τ L (i::base) fun v U rd=>DP P E C call all fin base rest (i+1) (CG τ o.dst v) (U++L) (fs++[⟨rd,fQ U⟩]) k)=some r→
    ∃ds τf Lf,Rec P all (o::rest) τ L ds τf Lf∧fin (fs++ds.map qU)=true∧k τf Lf=some r:=fun hw hg=>by
   obtain ⟨v,U,rd,h1,h2⟩:=evOp_sound (all:=all) hE hC hcall hg;obtain ⟨ds,τf,Lf,h3,h4,h5⟩:=uH hE hC hcall rest _ _ _ _ h1;exact ⟨(v,U,rd)::ds,τf,Lf,.cons (.inl ⟨hw,h2⟩) h3,by simpa [qU] using h4,h5⟩
  have no:iY all τ o=false→DP P E C call all fin base rest (i+1) (CG τ o.dst (.v undef)) L (fs++[⟨[],[]⟩]) k=some r→
    ∃ds τf Lf,Rec P all (o::rest) τ L ds τf Lf∧fin (fs++ds.map qU)=true∧k τf Lf=some r:=fun hw hg=>by
   obtain ⟨ds,τf,Lf,h3,h4,h5⟩:=uH hE hC hcall rest _ _ _ _ hg;exact ⟨(.v undef,[],[])::ds,τf,Lf,.cons (.inr ⟨hw,rfl,rfl,rfl⟩) h3,by simpa [qU,fQ] using h4,h5⟩
  unfold DP at h;dsimp only at h;cases hg:o.guard with
  | none=>
   rw [hg] at h;exact go (by unfold iY;rw [hg]) h
  | some gw=>
   obtain ⟨j,want⟩:=gw;rw [hg] at h;dsimp only at h;cases hd:IQ all j with
   | none=>
    rw [hd] at h;exact no (by unfold iY;rw [hg];dsimp only;rw [hd]) h
   | some d=>
    rw [hd] at h;dsimp only at h;split at h
    ·rename_i b hb';have hb:=bool_at hb';have hga:gO τ d=.v (.bool b):=by unfold gO;rw [hb]
     rw [pV,pV] at h;have hw:iY all τ o=(b==want):=by
      unfold iY;rw [hg];dsimp only;rw [hd];dsimp only;rw [hga]
     cases b<;>cases want<;>simp only [cond_true,cond_false,ZO hb] at h
     ·exact go (by rw [hw];rfl) h
     ·exact no (by rw [hw];rfl) h
     ·exact no (by rw [hw];rfl) h
     ·exact go (by rw [hw];rfl) h
    ·rename_i hb;refine no ?_ h;unfold iY;rw [hg];dsimp only;rw [hd];dsimp only;rw [←oE];cases hq:LX τ d with
     | v y=>cases y with
      | bool b=>exact absurd hq (hb b)
      | _=>rfl
     | _=>rfl
end
theorem OZ {ops:Array Oper} {i:Nat} {o:Oper} (ho:ops[i]? =some o) {τ:List AV} {L:cF} {v:AV} {U:cF} {rd:List Nm} (h:StepOK P ops.toList o τ L v U rd)
  {ρ:gZ} {a:Act} {w:World} {τ0:List AV} {L0:cF} (hM:MT ρ τ0 a) (hl:∀t∈looks ops.toList o,gO τ0 t=gO τ t) (hL:ML ρ L0 w) (hag:∀n,n∈rd∨n∈fQ U→eR L0 n=eR L n)
  {K:Act→World→Prop} {Q:Exit→Act→World→Prop} (hK:∀ρ' a' w',Nxt ρ w ρ' w'→MT ρ' (CG τ0 o.dst v) a'→ML ρ' (U++L0) w'→K a' w'):wpOp P ops Q i K a w:=by
 unfold wpOp;simp only [ho];rw [wantedA_eq ops hM o,MJ hl];rcases h with ⟨hw,hs⟩ | ⟨hw,rfl,rfl,rfl⟩
 ·rw [hw,if_pos rfl];exact .inl (hs ρ a w τ0 L0 hM hl hL hag K Q fun ρ' w' u h1 h2 h3=>hK ρ' _ w' h1 ((hM.ext h1.ext).put o.dst h2) h3)
 ·rw [hw,if_neg (by simp)];exact hK ρ _ w (Nxt.refl ρ w) (hM.put o.dst (x:=.v undef) rfl) (by simpa using hL)
theorem text_sound {ops:Array Oper} {Q:Exit→Act→World→Prop}:∀{rest:List Oper} {τ:List AV} {L:cF} {ds:List (AV×cF×List Nm)} {τf:List AV} {Lf:cF},Rec P ops.toList rest τ L ds τf Lf→∀i,ops.toList.drop i=rest→
  ∀{ρ:gZ} {a:Act} {w:World},MT ρ τ a→ML ρ L w→(∀ρ' a' w',Nxt ρ w ρ' w'→MT ρ' τf a'→ML ρ' Lf w'→Q .normal a' w')→wpOps P ops Q (List.range' i rest.length) a w:=by
 intro rest τ L ds τf Lf h;induction h with
 | nil τ L=>intro i _ ρ a w hM hL hQ;exact hQ ρ a w (Nxt.refl ρ w) hM hL
 | @cons o rest τ L v U rd ds τf Lf hs _ ih=>
  intro i hi ρ a w hM hL hQ;rw [List.length_cons,List.range'_succ,wpOps_cons];have ho:ops[i]? =some o:=by
   have:(ops.toList.drop i)[0]? =some o:=by rw [hi];rfl
   rw [List.getElem?_drop] at this;simpa using this
  have hr:ops.toList.drop (i+1)=rest:=by
   have:(ops.toList.drop i).drop 1=rest:=by rw [hi];rfl
   rw [List.drop_drop] at this;exact this
  exact OZ ho hs hM (fun _ _=>rfl) hL (fun _ _=>rfl) fun ρ' a' w' h1 h2 h3=>ih (i+1) hr h2 h3 fun ρ₂ a₂ w₂ k1 k2 k3=>hQ ρ₂ a₂ w₂ (h1.trans k1) k2 k3
def fo {X:Type} (D:Nat→Bool):Nat→List (Option X)→X→X
 | _,[],b=>b
 | i,u::us,b=>fo D (i+1) us (cond (D i) (u.getD b) b)
theorem nK {X:Type} {D D':Nat→Bool}:∀(us:List (Option X)) (i:Nat) (b:X),(∀j,j<us.length→D (i+j)≠D' (i+j)→us[j]? =some none)→fo D i us b=fo D' i us b
 | [],_,_,_=>rfl
 | u::us,i,b,h=>by
  unfold fo;have h0:=h 0 (by simp);simp only [avJ,List.getElem?_cons_zero,afZ.injEq] at h0;have e:cond (D i) (u.getD b) b=cond (D' i) (u.getD b) b:=by
   by_cases hd:D i=D' i
   ·rw [hd]
   ·rw [h0 hd];cases D i<;>cases D' i<;>rfl
  rw [e];refine nK us (i+1) _ fun j hj hne=>?_;have:=h (j+1) (by simp;omega) (by rw [show i+(j+1)=i+1+j by omega];exact hne);simpa using this
theorem wN {X:Type} {D:Nat→Bool}:∀(us:List (Option X)) (i:Nat) (b:X),(∀j,j<us.length→D (i+j)=true→us[j]? =some none)→fo D i us b=b
 | [],_,_,_=>rfl
 | u::us,i,b,h=>by
  unfold fo;have h0:=h 0 (by simp);simp only [avJ,List.getElem?_cons_zero,afZ.injEq] at h0;have e:cond (D i) (u.getD b) b=b:=by
   cases hd:D i with
   | false=>rfl
   | true=>rw [h0 hd];rfl
  rw [e];refine wN us (i+1) _ fun j hj hne=>?_;have:=h (j+1) (by simp;omega) (by rw [show i+(j+1)=i+1+j by omega];exact hne);simpa using this
theorem uM {X:Type} {D:Nat→Bool}:∀(us:List (Option X)) (i:Nat) (b:X),fo D (i+1) us b=fo (fun x=>D (x+1)) i us b
 | [],_,_=>rfl
 | u::us,i,b=>by
  unfold fo;exact uM us (i+1) _
theorem fo_add {X:Type} {D D':Nat→Bool} {p:Nat} (h1:∀j,j≠p→D' j=D j) (h2:D' p=true) (h3:D p=false):∀(us:List (Option X)) (i:Nat) (b:X) (u:Option X),i≤p→us[p-i]? =some u→
  (∀j,p<j→j-i<us.length→D j=true→u.isSome=true→us[j-i]? =some none)→fo D' i us b=u.getD (fo D i us b)
 | [],i,b,u,_,hu,_=>by simp at hu
 | x::us,i,b,u,hi,hu,hd=>by
  by_cases e:i=p
  ·subst e;simp only [Nat.sub_self,List.getElem?_cons_zero,afZ.injEq] at hu;subst hu;unfold fo;rw [h2,h3];simp only [cond_true,cond_false];have hc:∀c,fo D' (i+1) us c=fo D (i+1) us c:=fun c=>nK us (i+1) c fun j _ hne=>absurd (h1 (i+1+j) (by omega)) hne;rw [hc];cases x with
   | none=>rfl
   | some y=>
    simp only [Option.getD_some];refine wN us (i+1) y fun j hj hD=>?_;have:=hd (i+1+j) (by omega) (by simp;omega) hD rfl;rw [show i+1+j-i=j+1 by omega] at this;simpa using this
  ·unfold fo;rw [h1 i e];refine fo_add h1 h2 h3 us (i+1) _ u (by omega) ?_ ?_
   ·rw [show p-i=(p-(i+1))+1 by omega] at hu;simpa using hu
   ·intro j hj hlt hD hs;have:=hd j hj (by simp;omega) hD hs;rw [show j-i=(j-(i+1))+1 by omega] at this;simpa using this
def usT (len t:Nat) (ops:List Oper) (ds:List (AV×cF×List Nm)):List (Option AV):=(ops.zip ds).map fun q=>if q.1.dst=some t∧t<len then some q.2.1 else none
def usL (n:Nm) (ds:List (AV×cF×List Nm)):List (Option (Option kJ)):=ds.map fun d=>(eR d.2.1 n).map some
theorem JC (τ:List AV) (d:Option Tmp) (v:AV) (t:Nat):gO (CG τ d v) t=(if d=some t∧t<τ.length then some v else none).getD (gO τ t):=by
 cases d with
 | none=>simp [CG]
 | some d=>
  simp only [CG,pV,gO,List.getElem?_set,afZ.injEq];by_cases h:d=t
  ·subst h;by_cases hl:d<τ.length
   ·simp [hl]
   ·simp [hl]
  ·simp [h]
theorem pU (τ:List AV) (d:Option Tmp) (v:AV):(CG τ d v).length=τ.length:=by cases d<;>simp [CG,pV]
theorem RJ (U L:cF) (n:Nm):eR (U++L) n=((eR U n).map some).getD (eR L n):=by
 rw [oW];cases eR U n<;>rfl
theorem Rec.facts {all ops:List Oper} {τ:List AV} {L:cF} {ds:List (AV×cF×List Nm)} {τf:List AV} {Lf:cF} (h:Rec P all ops τ L ds τf Lf):
  ds.length=ops.length∧τf.length=τ.length∧
  (∀j o,ops[j]? =some o→∃v U rd τj Lj,ds[j]? =some (v,U,rd)∧StepOK P all o τj Lj v U rd∧
   (∀t,gO τj t=fo (fun x=>decide (x<j)) 0 (usT τ.length t ops ds) (gO τ t))∧(∀n,eR Lj n=fo (fun x=>decide (x<j)) 0 (usL n ds) (eR L n)))∧
  (∀t,gO τf t=fo (fun _=>true) 0 (usT τ.length t ops ds) (gO τ t))∧(∀n,eR Lf n=fo (fun _=>true) 0 (usL n ds) (eR L n)):=by
 induction h with
 | nil τ L=>exact ⟨rfl,rfl,fun j o hj=>by simp at hj,fun t=>rfl,fun n=>rfl⟩
 | @cons o rest τ L v U rd ds τf Lf hs _ ih=>
  obtain ⟨i1,i2,i3,i4,i5⟩:=ih;refine ⟨by simp [i1],by rw [i2,pU],?_,?_,?_⟩
  ·intro j o' hj;cases j with
   | zero=>
    simp only [List.getElem?_cons_zero,afZ.injEq] at hj;subst hj;refine ⟨v,U,rd,τ,L,rfl,hs,fun t=>?_,fun n=>?_⟩
    ·exact (wN _ _ _ fun j _ h=>by simp at h).symm
    ·exact (wN _ _ _ fun j _ h=>by simp at h).symm
   | succ j=>
    simp only [List.getElem?_cons_succ] at hj;obtain ⟨v',U',rd',τj,Lj,k1,k2,k3,k4⟩:=i3 j o' hj;refine ⟨v',U',rd',τj,Lj,by simpa using k1,k2,fun t=>?_,fun n=>?_⟩
    ·rw [k3 t,JC,pU];simp only [usT,List.zip_cons_cons,auQ,fo];rw [uM];simp
    ·rw [k4 n,RJ];simp only [usL,auQ,fo];rw [uM];simp
  ·intro t;rw [i4 t,JC,pU];simp only [usT,List.zip_cons_cons,auQ,fo];rw [uM];simp
  ·intro n;rw [i5 n,RJ];simp only [usL,auQ,fo];rw [uM];simp
theorem ZL {all:List Oper} {i:Nat} {x:Oper} {fx:Foot}:∀{l:List Oper} {fl:List Foot} {j:Nat},rowOk all i x fx j l fl=true→∀{k:Nat} {y:Oper} {f:Foot},l[k]? =some y→fl[k]? =some f→yP all i (j+k) x y fx f=true
 | [],_,_,_,k,y,f,h1,_=>by simp at h1
 | _::_,[],_,_,k,y,f,_,h2=>by simp at h2
 | y'::l,f'::fl,j,h,k,y,f,h1,h2=>by
  simp only [rowOk,Bool.and_eq_true] at h;cases k with
  | zero=>
   simp only [List.getElem?_cons_zero,afZ.injEq] at h1 h2;subst h1 h2;exact h.1
  | succ k=>
   simp only [List.getElem?_cons_succ] at h1 h2;have:=ZL h.2 h1 h2;rw [show j+1+k=j+(k+1) by omega] at this;exact this
theorem GM {all:List Oper}:∀{l:List Oper} {fl:List Foot} {i:Nat},UK all i l fl=true→∀{k:Nat} {x:Oper} {f:Foot},l[k]? =some x→fl[k]? =some f→
  (∀e∈x.after,Region.binds .any e=true→e.on<i+k)∧∀{m:Nat} {y:Oper} {g:Foot},k<m→l[m]? =some y→fl[m]? =some g→yP all (i+k) (i+m) x y f g=true
 | [],_,_,_,k,x,f,h1,_=>by simp at h1
 | _::_,[],_,_,k,x,f,_,h2=>by simp at h2
 | x'::l,f'::fl,i,h,k,x,f,h1,h2=>by
  simp only [UK,Bool.and_eq_true] at h;obtain ⟨⟨ha,hb⟩,hc⟩:=h;cases k with
  | zero=>
   simp only [List.getElem?_cons_zero,afZ.injEq] at h1 h2;subst h1 h2;refine ⟨fun e he hbind=>?_,fun {m y g} hm h3 h4=>?_⟩
   ·rw [apJ] at ha;have:=ha e (by simpa using he);rw [hbind] at this;simp only [Bool.not_true,Bool.false_or] at this;exact aeQ this
   ·cases m with
    | zero=>omega
    | succ m=>
     simp only [List.getElem?_cons_succ] at h3 h4;have:=ZL hb h3 h4;rw [show i+1+m=i+(m+1) by omega] at this;exact this
  | succ k=>
   simp only [List.getElem?_cons_succ] at h1 h2;obtain ⟨q1,q2⟩:=GM hc h1 h2;refine ⟨fun e he hbind=>by have:=q1 e he hbind;omega,fun {m y g} hm h3 h4=>?_⟩;cases m with
   | zero=>omega
   | succ m=>
    simp only [List.getElem?_cons_succ] at h3 h4;have:=q2 (by omega) h3 h4;rw [show i+1+k=i+(k+1) by omega,show i+1+m=i+(m+1) by omega] at this;exact this
theorem rZ {a b:List Nm}:JW a b=true↔∀n∈a,n∉b:=by
 unfold JW;rw [apJ];constructor
 ·intro h n hn hb;have:=h n hn;rw [mA.2 hb] at this;cases this
 ·intro h n hn;cases hb:has b n with
  | false=>rfl
  | true=>exact absurd (mA.1 hb) (h n hn)
theorem XB {l:List Nat} {n:Nat}:hasN l n=true↔n∈l:=by
 unfold hasN;rw [auZ];constructor
 ·rintro ⟨x,hx,h⟩;have:n=x:=adX h;exact this ▸ hx
 ·intro h;exact ⟨n,h,Nat.beq_refl n⟩
theorem sL {all:List Oper} {D:Nat→Prop} {i:Nat} (hD:∀j o,all[j]? =some o→D j→∀e∈o.after,Region.binds .any e=true→D e.on):∀(n j:Nat),pH all n i j=true→D j→D i
 | 0,_,h,_=>by simp [pH] at h
 | n+1,j,h,hj=>by
  unfold pH at h;split at h
  ·rename_i o ho;rw [auZ] at h;obtain ⟨e,he,h2⟩:=h;simp only [Bool.and_eq_true,Bool.or_eq_true] at h2;have hd:=hD j o ho hj e (by simpa using he) h2.1;rcases h2.2 with h3 | h3
   ·have:e.on=i:=adX h3;exact this ▸ hd
   ·exact sL hD n e.on h3.2 hd
  ·cases h
theorem waits_ready {all:List Oper} {D:Nat→Prop} {i j:Nat} {o:Oper} (ho:all[j]? =some o) (hD:∀j o,all[j]? =some o→D j→∀e∈o.after,Region.binds .any e=true→D e.on)
  (hr:∀e∈o.after,Region.binds .any e=true→D e.on):∀n,pH all n i j=true→D i
 | 0,h=>by simp [pH] at h
 | n+1,h=>by
  unfold pH at h;rw [ho] at h;simp only [auZ] at h;obtain ⟨e,he,h2⟩:=h;simp only [Bool.and_eq_true,Bool.or_eq_true] at h2;have hd:=hr e (by simpa using he) h2.1;rcases h2.2 with h3 | h3
  ·have:e.on=i:=adX h3;exact this ▸ hd
  ·exact sL hD n e.on h3.2 hd
end
end Ev
namespace Ev
open Go.RowKit
section
variable {P : Program}
theorem ready_none {ops:Array Oper} {listed:Array Bool} (hsz:listed.size=ops.size) (hdown:∀k x,ops[k]? =some x→∀e∈x.after,Region.binds .any e=true→e.on<k)
  (h:Region.ready .any ops listed=[]):∀k,k<ops.size→listed.getD k false=true:=by
 intro k;induction k using Nat.strongRecOn with
 | _ k ih=>
  intro hk;have ho:ops[k]? =some ops[k]:=Array.getElem?_eq_getElem hk;cases hd:listed.getD k true with
  | false=>
   exfalso;have:k∈Region.ready .any ops listed:=mem_ready.2 ⟨hd,ops[k],ho,fun e he hb=>by
    have hlt:=hdown k _ ho e he hb;exact ih e.on hlt (by omega)⟩
   rw [h] at this;cases this
  | true=>
   have hk':k<listed.size:=by omega
   simp [hk'] at hd ⊢;exact hd
theorem WH {ops:Array Oper} {τ:List AV} {L:cF} {ds:List (AV×cF×List Nm)} {τf:List AV} {Lf:cF} (hrec:Rec P ops.toList ops.toList τ L ds τf Lf)
  (hok:UK ops.toList 0 ops.toList (ds.map qU)=true) {ρ:gZ} {a:Act} {w:World} (hM:MT ρ τ a) (hL:ML ρ L w) {Q:Exit→Act→World→Prop}
  (hQ:∀ρ' a' w',Nxt ρ w ρ' w'→MT ρ' τf a'→ML ρ' Lf w'→Q .normal a' w'):wpAny P .any ops Q ops.size (Array.replicate ops.size false) a w:=by
 obtain ⟨f1,f2,f3,f4,f5⟩:=hrec.facts;have hlen:ds.length=ops.size:=by simpa using f1
 have hfoot:∀{k:Nat} {d:AV×cF×List Nm},ds[k]? =some d→(ds.map qU)[k]? =some (qU d):=fun h=>by simp [h]
 have hdown:∀k x,ops[k]? =some x→∀e∈x.after,Region.binds .any e=true→e.on<k:=fun k x hx e he hb=>by
  have hx':ops.toList[k]? =some x:=by simpa using hx
  obtain ⟨v,U,rd,τj,Lj,k1,_⟩:=f3 k x hx';have:=(GM hok hx' (hfoot k1)).1 e he hb;omega
 have hpair:∀i j x y dx dy,i<j→ops[i]? =some x→ops[j]? =some y→ds[i]? =some dx→ds[j]? =some dy→yP ops.toList i j x y (qU dx) (qU dy)=true:=fun i j x y dx dy hij hx hy h1 h2=>by
  have hx':ops.toList[i]? =some x:=by simpa using hx
  have hy':ops.toList[j]? =some y:=by simpa using hy
  have:=(GM hok hx' (hfoot h1)).2 hij hy' (hfoot h2);simpa using this
 have key:∀(fuel:Nat) (listed:Array Bool) (a₁:Act) (w₁:World),listed.size=ops.size→((azZ ops.size).filter fun i=> !listed.getD i false).length≤fuel→
   (∀j o,ops.toList[j]? =some o→listed.getD j false=true→∀e∈o.after,Region.binds .any e=true→listed.getD e.on false=true)→
   (∃ρ₁ τ₁ L₁,Nxt ρ w ρ₁ w₁∧MT ρ₁ τ₁ a₁∧τ₁.length=τ.length∧(∀t,gO τ₁ t=fo (fun j=>listed.getD j false) 0 (usT τ.length t ops.toList ds) (gO τ t))∧
    ML ρ₁ L₁ w₁∧(∀n,eR L₁ n=fo (fun j=>listed.getD j false) 0 (usL n ds) (eR L n)))→wpAny P .any ops Q fuel listed a₁ w₁:=by
  intro fuel;induction fuel with
  | zero=>
   intro listed a₁ w₁ hsz hfu hcl hst;have hall:∀k,k<ops.size→listed.getD k false=true:=fun k hk=>by
    cases hd:listed.getD k false with
    | true=>rfl
    | false=>
     have:k∈(azZ ops.size).filter fun i=> !listed.getD i false:=List.mem_filter.2 ⟨List.mem_range.2 hk,by simp only [hd];rfl⟩;have h0:((azZ ops.size).filter fun i=> !listed.getD i false)=[]:=List.length_eq_zero_iff.1 (by omega);rw [h0] at this;cases this
   have hrd:Region.ready .any ops listed=[]:=by
    cases hq:Region.ready .any ops listed with
    | nil=>rfl
    | cons x xs=>
     have:x∈Region.ready .any ops listed:=by rw [hq];exact arJ
     obtain ⟨h1,o,ho,_⟩:=mem_ready.1 this;have hx:x<ops.size:=(Array.getElem?_eq_some_iff.1 ho).1;have:=hall x hx;have hx':x<listed.size:=by omega
     simp [hx'] at h1 this;rw [h1] at this;cases this
   refine ⟨hrd,?_⟩;obtain ⟨ρ₁,τ₁,L₁,g1,g2,g3,g4,g5,g6⟩:=hst;refine hQ ρ₁ a₁ w₁ g1 (g2.of_get (by rw [f2,g3]) fun t=>?_) (g5.congr fun n=>?_)
   ·rw [f4 t,g4 t];refine nK _ _ _ fun j hj hne=>absurd ?_ hne;simp only [usT,atJ,List.length_zip] at hj;have:=hall j (by simp at hj;omega);simp only [apX];exact this.symm
   ·rw [f5 n,g6 n];refine nK _ _ _ fun j hj hne=>absurd ?_ hne;simp only [usL,atJ] at hj;have:=hall j (by omega);simp only [apX];exact this.symm
  | succ fuel ih=>
   intro listed a₁ w₁ hsz hfu hcl hst;refine ⟨fun hrd=>?_,fun i hi=>?_⟩
   ·have hall:=ready_none hsz hdown hrd;obtain ⟨ρ₁,τ₁,L₁,g1,g2,g3,g4,g5,g6⟩:=hst;refine hQ ρ₁ a₁ w₁ g1 (g2.of_get (by rw [f2,g3]) fun t=>?_) (g5.congr fun n=>?_)
    ·rw [f4 t,g4 t];refine nK _ _ _ fun j hj hne=>absurd ?_ hne;simp only [usT,atJ,List.length_zip] at hj;have:=hall j (by simp at hj;omega);simp only [apX];exact this.symm
    ·rw [f5 n,g6 n];refine nK _ _ _ fun j hj hne=>absurd ?_ hne;simp only [usL,atJ] at hj;have:=hall j (by omega);simp only [apX];exact this.symm
   ·obtain ⟨hun,o,ho,hpre⟩:=mem_ready.1 hi;have hi':i<ops.size:=(Array.getElem?_eq_some_iff.1 ho).1;have hil:i<listed.size:=by omega
    have hun':listed.getD i false=false:=by simp [hil] at hun ⊢;exact hun
    have ho':ops.toList[i]? =some o:=by simpa using ho
    obtain ⟨v,U,rd,τi,Li,k1,k2,k3,k4⟩:=f3 i o ho';obtain ⟨ρ₁,τ₁,L₁,g1,g2,g3,g4,g5,g6⟩:=hst;have hcl':∀j o,ops.toList[j]? =some o→(fun j=>listed.getD j false=true) j→∀e∈o.after,Region.binds .any e=true→(fun j=>listed.getD j false=true) e.on:=hcl;have hnw:∀j n,listed.getD j false=false→pH ops.toList n j i=true→False:=fun j n hj hw=>by
     have:=waits_ready (D:=fun j=>listed.getD j false=true) ho' hcl' hpre n hw;rw [hj] at this;cases this
    have hnw2:∀j n,listed.getD j false=true→pH ops.toList n i j=true→False:=fun j n hj hw=>by
     have:=sL (D:=fun j=>listed.getD j false=true) hcl' n j hw hj;rw [hun'] at this;cases this
    have hap:∀j y dy,ops[j]? =some y→ds[j]? =some dy→listed.getD j false≠decide (j<i)→
      (∀d,y.dst=some d→d∉looks ops.toList o)∧(∀n,n∈rd∨n∈fQ U→n∉fQ dy.2.1):=by
     intro j y dy hy hdy hne;have hji:j≠i:=fun e=>by rw [e,hun'] at hne;simp at hne
     have conc:∀(p q:Nat) (x z:Oper) (dx dz:AV×cF×List Nm),yP ops.toList p q x z (qU dx) (qU dz)=true→pH ops.toList 24 p q=false→
       (∀d,x.dst=some d→d∉looks ops.toList z)∧(∀d,z.dst=some d→d∉looks ops.toList x)∧qV (qU dx) (qU dz)=true:=by
      intro p q x z dx dz hp hw;unfold yP at hp;cases hs:TP x.dst z.dst with
      | true=>rw [hs] at hp;cases hp
      | false=>
       rw [hs,hw] at hp;simp only [cond_false] at hp;cases hc:(!NH x.dst (looks ops.toList z)&& !NH z.dst (looks ops.toList x)&&qV (qU dx) (qU dz)) with
       | false=>rw [hc] at hp;cases hp
       | true=>
        simp only [Bool.and_eq_true,Bool.not_eq_true'] at hc;refine ⟨fun d hd hm=>?_,fun d hd hm=>?_,hc.2⟩
        ·have:=hc.1.1;rw [hd] at this;simp only [NH] at this;rw [XB.2 hm] at this;cases this
        ·have:=hc.1.2;rw [hd] at this;simp only [NH] at this;rw [XB.2 hm] at this;cases this
     rcases Nat.lt_or_gt_of_ne hji with hlt | hgt
     ·have hjf:listed.getD j false=false:=by
       cases hq:listed.getD j false with
       | false=>rfl
       | true=>rw [hq] at hne;simp [hlt] at hne
      have hp:=hpair j i y o dy (v,U,rd) hlt hy ho hdy k1;have hw:pH ops.toList 24 j i=false:=by
       cases hq:pH ops.toList 24 j i with
       | false=>rfl
       | true=>exact (hnw j 24 hjf hq).elim
      obtain ⟨c1,c2,c3⟩:=conc j i y o dy (v,U,rd) hp hw;refine ⟨c1,fun n hn hm=>?_⟩;simp only [qV,Bool.and_eq_true,qU] at c3;obtain ⟨⟨d1,d2⟩,d3⟩:=c3;rcases hn with hn | hn
      ·exact rZ.1 d1 n hm hn
      ·exact rZ.1 d2 n hm hn
     ·have hjt:listed.getD j false=true:=by
       cases hq:listed.getD j false with
       | true=>rfl
       | false=>rw [hq] at hne;simp [show ¬j<i by omega] at hne
      have hp:=hpair i j o y (v,U,rd) dy hgt ho hy k1 hdy;have hw:pH ops.toList 24 i j=false:=by
       cases hq:pH ops.toList 24 i j with
       | false=>rfl
       | true=>exact (hnw2 j 24 hjt hq).elim
      obtain ⟨c1,c2,c3⟩:=conc i j o y (v,U,rd) dy hp hw;refine ⟨c2,fun n hn hm=>?_⟩;simp only [qV,Bool.and_eq_true,qU] at c3;obtain ⟨⟨d1,d2⟩,d3⟩:=c3;rcases hn with hn | hn
      ·exact rZ.1 d3 n hm hn
      ·exact rZ.1 d2 n hn hm
    have atT:∀t j,j<(usT τ.length t ops.toList ds).length→∃y dy,ops[j]? =some y∧ds[j]? =some dy∧(usT τ.length t ops.toList ds)[j]? =some (if y.dst=some t∧t<τ.length then some dy.1 else none):=by
     intro t j hj;simp only [usT,atJ,List.length_zip] at hj;have h1:j<ops.size:=by simp at hj;omega
     have h2:j<ds.length:=by omega
     refine ⟨ops[j],ds[j],Array.getElem?_eq_getElem h1,List.getElem?_eq_getElem h2,?_⟩;have hz:(ops.toList.zip ds)[j]? =some (ops[j],ds[j]):=by
      rw [List.getElem?_zip_eq_some];exact ⟨by simp [h1],by simp [h2]⟩
     unfold usT;rw [List.getElem?_map,hz];rfl
    have atL:∀n j,j<(usL n ds).length→∃y dy,ops[j]? =some y∧ds[j]? =some dy∧(usL n ds)[j]? =some ((eR dy.2.1 n).map some):=by
     intro n j hj;simp only [usL,atJ] at hj;have h1:j<ops.size:=by omega
     refine ⟨ops[j],ds[j],Array.getElem?_eq_getElem h1,List.getElem?_eq_getElem hj,?_⟩;simp [usL,hj]
    have hagT:∀t∈looks ops.toList o,gO τ₁ t=gO τi t:=fun t ht=>by
     rw [g4 t,k3 t];refine nK _ _ _ fun j hj hne=>?_;simp only [apX] at hne;obtain ⟨y,dy,q1,q2,q3⟩:=atT t j hj;rw [q3,if_neg];rintro ⟨e,_⟩;exact (hap j y dy q1 q2 hne).1 t e ht
    have hagL:∀n,n∈rd∨n∈fQ U→eR L₁ n=eR Li n:=fun n hn=>by
     rw [g6 n,k4 n];refine nK _ _ _ fun j hj hne=>?_;simp only [apX] at hne;obtain ⟨y,dy,q1,q2,q3⟩:=atL n j hj;rw [q3];have:=(hap j y dy q1 q2 hne).2 n hn;rw [oF.2 this];rfl
    refine OZ ho k2 g2 hagT g5 hagL fun ρ' a' w' h1 h2 h3=>?_;have hset:∀j,j≠i→(listed.setIfInBounds i true).getD j false=listed.getD j false:=fun j hj=>getD_set_ne false (Ne.symm hj);have hseti:(listed.setIfInBounds i true).getD i false=true:=by simp [hil]
    refine ih _ a' w' (by simpa using hsz) ?_ ?_ ?_
    ·have hsub:((azZ ops.size).filter fun k=> !(listed.setIfInBounds i true).getD k false).length<((azZ ops.size).filter fun k=> !listed.getD k false).length:=by
      have e:((azZ ops.size).filter fun k=> !(listed.setIfInBounds i true).getD k false)=((azZ ops.size).filter fun k=> !listed.getD k false).filter (fun k=>k != i):=by
       rw [List.filter_filter];refine List.filter_congr fun k hk=>?_;by_cases e:k=i
       ·subst e;rw [hseti];simp
       ·rw [hset k e];simp [e]
      rw [e];have hmem:i∈(azZ ops.size).filter fun k=> !listed.getD k false:=List.mem_filter.2 ⟨List.mem_range.2 hi',by simp only [hun'];rfl⟩;exact List.length_filter_lt_length_iff_exists.2 ⟨i,hmem,by simp⟩
     omega
    ·intro j y hy hj e he hb;by_cases q:j=i
     ·subst q;have:y=o:=by rw [ho'] at hy;exact (afZ.inj hy).symm
      subst this;exact getD_set_true (hpre e he hb)
     ·rw [hset j q] at hj;exact getD_set_true (hcl j y hy hj e he hb)
    ·refine ⟨ρ',_,_,g1.trans h1,h2,by rw [pU];exact g3,fun t=>?_,h3,fun n=>?_⟩
     ·rw [JC,g4 t,g3];have hd:i<(usT τ.length t ops.toList ds).length:=by
       simp only [usT,atJ,List.length_zip];simp;omega
      obtain ⟨y,dy,q1,q2,q3⟩:=atT t i hd;have e1:y=o:=by rw [ho] at q1;exact (afZ.inj q1).symm
      have e2:dy=(v,U,rd):=by rw [k1] at q2;exact (afZ.inj q2).symm
      subst e1 e2;symm;refine fo_add (p:=i) (fun j hj=>hset j hj) hseti hun' _ 0 _ _ (afX _) (by simpa using q3) fun j hj hlt hD hs=>?_;simp only [Nat.sub_zero] at hlt ⊢;obtain ⟨z,dz,p1,p2,p3⟩:=atT t j hlt;rw [p3];split at hs
      ·rename_i hc;rw [if_neg];rintro ⟨e,_⟩;have hp:=hpair i j y z (v,U,rd) dz hj ho p1 k1 p2;unfold yP at hp;rw [hc.1,e] at hp;simp [TP] at hp
      ·cases hs
     ·rw [RJ,g6 n];have hd:i<(usL n ds).length:=by
       simp only [usL,atJ];omega
      obtain ⟨y,dy,q1,q2,q3⟩:=atL n i hd;have e2:dy=(v,U,rd):=by rw [k1] at q2;exact (afZ.inj q2).symm
      subst e2;symm;refine fo_add (p:=i) (fun j hj=>hset j hj) hseti hun' _ 0 _ _ (afX _) (by simpa using q3) fun j hj hlt hD hs=>?_;simp only [Nat.sub_zero] at hlt ⊢;obtain ⟨z,dz,p1,p2,p3⟩:=atL n j hlt;rw [p3];have hin:n∈fQ U:=AD.2 (by simpa using hs);have hne:listed.getD j false≠decide (j<i):=by rw [hD];simp [show ¬j<i by omega]
      have:=(hap j z dz p1 p2 hne).2 n (.inr hin);rw [oF.2 this];rfl
 have allF:∀j,(Array.replicate ops.size false).getD j false=false:=fun j=>by
  rw [Array.getD_eq_getD_getElem?,Array.getElem?_replicate];split<;>rfl
 refine key ops.size (Array.replicate ops.size false) a w (by simp) ?_ ?_ ⟨ρ,τ,L,Nxt.refl ρ w,hM,rfl,fun t=>?_,hL,fun n=>?_⟩
 ·refine ahJ (List.length_filter_le _ _) ?_;simp
 ·intro j o hj hl;rw [allF j] at hl;cases hl
 ·refine (wN _ _ _ fun j hj h=>?_).symm;rw [allF] at h;cases h
 ·refine (wN _ _ _ fun j hj h=>?_).symm;rw [allF] at h;cases h
end
end Ev
namespace Ev
open Go.RowKit
section
variable {P : Program}
def PI (σ':St) (e:Ex) (ρ:gZ) (w:World):Exit→Act→World→Prop:=fun e' a' w'=>e'=e.cv∧∃ρ',Nxt ρ w ρ' w'∧MT ρ' σ'.τ a'∧ML ρ' σ'.L w'
def Does (P:Program) (c:Code) (σ:St) (e:Ex) (σ':St):Prop:=∀ρ a w,MT ρ σ.τ a→ML ρ σ.L w→c.wp P (PI σ' e ρ w) a w
theorem PI.trans {σ':St} {e:Ex} {ρ ρ₁:gZ} {w w₁:World} (h:Nxt ρ w ρ₁ w₁) {e':Exit} {a':Act} {w':World} (k:PI σ' e ρ₁ w₁ e' a' w'):PI σ' e ρ w e' a' w':=by
 obtain ⟨h1,ρ',h2,h3⟩:=k;exact ⟨h1,ρ',h.trans h2,h3⟩
theorem WN {τ:List AV} {x:Operand} {b:Bool} (h:iI τ x=.v (.bool b)):fix τ x b=τ:=by
 cases x with
 | tmp t=>
  simp only [iI,oE,gO] at h;cases hx:τ[t]? with
  | none=>simp only [fix,pV];exact List.set_eq_of_length_le (List.getElem?_eq_none_iff.1 hx)
  | some y=>
   rw [hx] at h;simp only at h;subst h;show setR _ _ _=_;rw [pV];exact ZO hx
 | _=>rfl
section
variable {α : Type} {E : List (TypeId × Nat)} {C : List FuncId} {call : FuncId → List AV → cF → Nm → (AV → cF → Option α) → Option α}
theorem JK {b:Code} {F:(Ex→St→Option α)→St→Option α} (hF:∀k σ r,F k σ=some r→∃e σ',k e σ'=some r∧Does P b σ e σ'):
  ∀(n:Nat) (k:Ex→St→Option α) (σ:St) (r:α),iter F n k σ=some r→∃e σ',k e σ'=some r∧∀ρ a w,MT ρ σ.τ a→ML ρ σ.L w→Code.rounds P b (PI σ' e ρ w) n a w
 | 0,_,_,_,h=>by simp [iter] at h
 | n+1,k,σ,r,h=>by
  unfold iter at h;obtain ⟨e1,σ1,h1,h2⟩:=hF _ _ _ h;cases e1 with
  | norm=>
   obtain ⟨e,σ',h3,h4⟩:=JK hF n k σ1 r h1;refine ⟨e,σ',h3,fun ρ a w hM hL=>?_⟩;rw [rounds_succ];refine wp_mono (h2 ρ a w hM hL) fun e' a' w' hp=>?_;obtain ⟨rfl,ρ',g1,g2,g3⟩:=hp;show Code.rounds P b (PI σ' e ρ w) n a' w';have:=h4 ρ' a' w' g2 g3;exact rounds_mono n (fun e' a' w' hq=>PI.trans g1 hq) a' w' this
  | ex i=>
   refine ⟨_,_,h1,fun ρ a w hM hL=>?_⟩;rw [rounds_succ];refine wp_mono (h2 ρ a w hM hL) fun e' a' w' hp=>?_;have h5:=hp.1;subst h5;exact hp
  | ret=>
   refine ⟨_,_,h1,fun ρ a w hM hL=>?_⟩;rw [rounds_succ];refine wp_mono (h2 ρ a w hM hL) fun e' a' w' hp=>?_;have h5:=hp.1;subst h5;exact hp
where
 rounds_mono {b:Code} {Q Q':Exit→Act→World→Prop}:∀(n:Nat),(∀e a w,Q e a w→Q' e a w)→∀a w,Code.rounds P b Q n a w→Code.rounds P b Q' n a w
  | 0,_,_,_,h=>h.elim
  | n+1,hq,a,w,h=>by
   rw [rounds_succ] at h ⊢
   refine wp_mono h fun e' a' w' hp=>?_
   cases e' with
   | normal=>exact rounds_mono n hq a' w' hp
   | _=>exact hq _ _ _ hp
theorem evC_sound (hm:P.follows .mixedOrders=true) (hE:∀e∈E,nI P e) (hC:∀g∈C,jF P g) (hcall:BC P call) (lim:Nat):
  ∀(c:Code) (k:Ex→St→Option α) (σ:St) (r:α),UC P E C call lim c k σ=some r→∃e σ',k e σ'=some r∧Does P c σ e σ':=by
 intro c;induction c with
 | skip=>intro k σ r h;exact ⟨.norm,σ,h,fun ρ a w hM hL=>wp_skip ⟨rfl,ρ,Nxt.refl ρ w,hM,hL⟩⟩
 | ret=>intro k σ r h;exact ⟨.ret,σ,h,fun ρ a w hM hL=>wp_ret ⟨rfl,ρ,Nxt.refl ρ w,hM,hL⟩⟩
 | exit i=>intro k σ r h;exact ⟨.ex i,σ,h,fun ρ a w hM hL=>wp_exit ⟨rfl,ρ,Nxt.refl ρ w,hM,hL⟩⟩
 | seq x y ihx ihy=>
  intro k σ r h;unfold UC at h;obtain ⟨e1,σ1,h1,h2⟩:=ihx _ _ _ h;cases e1 with
  | norm=>
   obtain ⟨e,σ',h3,h4⟩:=ihy _ _ _ h1;refine ⟨e,σ',h3,fun ρ a w hM hL=>wp_seq (wp_mono (h2 ρ a w hM hL) fun e' a' w' hp=>?_)⟩;obtain ⟨rfl,ρ',g1,g2,g3⟩:=hp;exact wp_mono (h4 ρ' a' w' g2 g3) fun _ _ _ hq=>PI.trans g1 hq
  | ex i=>
   refine ⟨_,_,h1,fun ρ a w hM hL=>wp_seq (wp_mono (h2 ρ a w hM hL) fun e' a' w' hp=>?_)⟩;have h5:=hp.1;subst h5;exact hp
  | ret=>
   refine ⟨_,_,h1,fun ρ a w hM hL=>wp_seq (wp_mono (h2 ρ a w hM hL) fun e' a' w' hp=>?_)⟩;have h5:=hp.1;subst h5;exact hp
 | region id ops draw=>
  intro k σ r h;unfold UC at h;obtain ⟨ds,τf,Lf,h1,h2,h3⟩:=uH hE hC hcall _ _ _ _ _ h;refine ⟨.norm,_,h3,fun ρ a w hM hL=>?_⟩;cases draw with
  | false=>
   refine wp_region ?_;have:=text_sound (Q:=PI ⟨τf,Lf,σ.c+1,σ.pre⟩ .norm ρ w) h1 0 (by simp) hM hL fun ρ' a' w' g1 g2 g3=>⟨rfl,ρ',g1,g2,g3⟩;rw [List.range_eq_range'];simpa using this
  | true=>
   refine wp_region_any hm ?_;refine WH h1 (by simpa using h2) hM hL.drew fun ρ' a' w' g1 g2 g3=>⟨rfl,ρ',Nxt.drew.trans g1,g2,g3⟩
 | cond x a b iha ihb=>
  intro k σ r h;unfold UC at h;split at h
  ·rename_i t ht;cases t with
   | true=>
    rw [WN ht] at h;simp only [cond_true] at h;obtain ⟨e,σ',h3,h4⟩:=iha _ _ _ h;refine ⟨e,σ',h3,fun ρ a' w hM hL=>?_⟩;have hx:=dH hM x;rw [ht] at hx;exact wp_cond_true (by simpa [fP] using hx.symm) (h4 ρ a' w hM hL)
   | false=>
    rw [WN ht] at h;simp only [cond_false] at h;obtain ⟨e,σ',h3,h4⟩:=ihb _ _ _ h;refine ⟨e,σ',h3,fun ρ a' w hM hL=>?_⟩;have hx:=dH hM x;rw [ht] at hx;exact wp_cond_false (by simpa [fP] using hx.symm) (h4 ρ a' w hM hL)
  ·cases h
 | block i b ih=>
  intro k σ r h;unfold UC at h;obtain ⟨e1,σ1,h1,h2⟩:=ih _ _ _ h;cases e1 with
  | norm=>
   refine ⟨_,_,h1,fun ρ a w hM hL=>wp_block (wp_mono (h2 ρ a w hM hL) fun e' a' w' hp=>?_)⟩;have h5:=hp.1;subst h5;exact hp
  | ret=>
   refine ⟨_,_,h1,fun ρ a w hM hL=>wp_block (wp_mono (h2 ρ a w hM hL) fun e' a' w' hp=>?_)⟩;have h5:=hp.1;subst h5;exact hp
  | ex j=>
   cases hj:agJ j i with
   | true=>
    simp only [hj,cond_true] at h1;refine ⟨_,_,h1,fun ρ a w hM hL=>wp_block (wp_mono (h2 ρ a w hM hL) fun e' a' w' hp=>?_)⟩;obtain ⟨h5,h6⟩:=hp;subst h5;have e:j=i:=adX hj;show Exit.inBlock i _ (.exit j) a' w';simp only [Exit.inBlock,e,if_true];exact ⟨rfl,h6⟩
   | false=>
    simp only [hj,cond_false] at h1;refine ⟨_,_,h1,fun ρ a w hM hL=>wp_block (wp_mono (h2 ρ a w hM hL) fun e' a' w' hp=>?_)⟩;obtain ⟨h5,h6⟩:=hp;subst h5;have e:j≠i:=fun q=>by subst q;simp at hj
    show Exit.inBlock i _ (.exit j) a' w';simp only [Exit.inBlock,e,if_false];exact ⟨rfl,h6⟩
 | loop b ih=>
  intro k σ r h;unfold UC at h;obtain ⟨e,σ',h1,h2⟩:=JK ih lim k σ r h;exact ⟨e,σ',h1,fun ρ a w hM hL=>wp_loop_rounds lim (h2 ρ a w hM hL)⟩
 | rangeFunc f ps a b iha ihb=>intro k σ r h;simp [UC] at h
 | scope b ih=>intro k σ r h;simp [UC] at h
 | label l=>intro k σ r h;simp [UC] at h
 | goto l=>intro k σ r h;simp [UC] at h
 | refuse s=>intro k σ r h;simp [UC] at h
end
def resF (tmps:Array Value):ResultVar→Sem Value
 | .tmp t=>pure (tmps.getD t undef)
 | .cell a t=>do loadVar t (←asAddr (tmps.getD a undef))
theorem yS {σ:St} {rv:ResultVar} {x:AV} (h:CL P σ rv=some x) {ρ:gZ} {a:Act} {w:World} (hM:MT ρ σ.τ a) (hL:ML ρ σ.L w):∃u,fP ρ x=some u∧(resF a.tmps rv).run P w=.ok u w:=by
 cases rv with
 | tmp t=>
  simp only [CL,afZ.injEq] at h;subst h;exact ⟨_,by rw [oE];exact FP hM t,rfl⟩
 | cell p t=>
  simp only [CL] at h;split at h
  ·rename_i n off hp;split at h
   ·rename_i b hb;have h1:=FP hM p;rw [←oE,hp] at h1;simp only [fP,abQ] at h1;obtain ⟨c,hc,e⟩:=h1;obtain ⟨hk,hk1⟩:=lQ hb;obtain ⟨vs,zs,_,h2,h3,_⟩:=hL.blk n c b hc hk hk1;obtain ⟨u,h4,h5⟩:=pC h h2 h3;refine ⟨u,h4,?_⟩;simp only [resF,←e,asAddr,Sem.run_bind,Sem.run_pure,Result.andThen_ok,h5]
   ·cases h
  ·cases h
theorem EC {σ:St} {ρ:gZ} {a:Act} {w:World} (hM:MT ρ σ.τ a) (hL:ML ρ σ.L w):∀(l:List ResultVar) (vs:List Value),oI P σ l=some vs→(l.mapM (resF a.tmps)).run P w=.ok vs w
 | [],vs,h=>by simp [oI] at h;subst h;simp
 | r::l,vs,h=>by
  unfold oI at h;split at h
  ·rename_i x hx;split at h
   ·rename_i m hm;simp only [afZ.injEq] at h;subst h;obtain ⟨u,h1,h2⟩:=yS hx hM hL;simp only [fP,afZ.injEq] at h1;subst h1;have h3:=EC hM hL l m hm;simp [List.mapM_cons,h2,h3]
   ·cases h
  ·cases h
theorem vT {σ:St}:∀(l:List ResultVar) (vs:List Value),oI P σ l=some vs→vs.length=l.length
 | [],vs,h=>by simp [oI] at h;subst h;rfl
 | r::l,vs,h=>by
  unfold oI at h;split at h
  ·split at h
   ·rename_i m hm;simp only [afZ.injEq] at h;subst h;simp [vT l m hm]
   ·cases h
  ·cases h
theorem OK {σ:St} {ρ:gZ} {a:Act} {w:World} (hM:MT ρ σ.τ a) (hL:ML ρ σ.L w):∀(l:List ResultVar) (cs:List CV),ZH P σ l=some cs→∃vs,dF ρ cs=some vs∧vs.length=l.length∧(l.mapM (resF a.tmps)).run P w=.ok vs w
 | [],cs,h=>by simp [ZH] at h;subst h;exact ⟨[],rfl,rfl,by simp⟩
 | r::l,cs,h=>by
  unfold ZH at h;split at h
  ·rename_i x hx;split at h
   ·rename_i c m hc hm;simp only [afZ.injEq] at h;subst h;obtain ⟨u,h1,h2⟩:=yS hx hM hL;have h3:dF ρ c=some [u]:=sJ hc (by simp [fD,h1]);obtain ⟨vs,h4,h5,h6⟩:=OK hM hL l m hm;exact ⟨u::vs,fY h3 h4,by simp [h5],by simp [List.mapM_cons,h2,h6]⟩
   ·cases h
  ·cases h
theorem ZI {fn:Func} {σ:St} {x:AV} (h:resA P σ fn.results.toList=some x) {ρ:gZ} {a:Act} {w:World} (hM:MT ρ σ.τ a) (hL:ML ρ σ.L w):∃u,fP ρ x=some u∧(results fn a.tmps).run P w=.ok u w:=by
 have e:results fn a.tmps=(do
   let vs ←fn.results.mapM (resF a.tmps)
   pure (if h:vs.size=1 then vs[0] else .tuple vs)):=by
  unfold results;congr 1
 rw [e,Array.mapM_eq_mapM_toList];cases hl:fn.results.toList with
 | nil=>
  rw [hl] at h;simp only [resA,oI,afZ.injEq] at h;subst h;exact ⟨_,rfl,by simp⟩
 | cons r l=>
  rw [hl] at h;cases l with
  | nil=>
   simp only [resA] at h;obtain ⟨u,h1,h2⟩:=yS h hM hL;exact ⟨u,h1,by simp [h2]⟩
  | cons r' l=>
   simp only [resA] at h;split at h
   ·rename_i vs hvs;simp only [afZ.injEq] at h;subst h;have h3:=EC hM hL _ vs hvs;have h4:=vT _ vs hvs;refine ⟨_,rfl,?_⟩;simp only [Sem.run_bind,Sem.run_map,h3,Sem.run_pure];simp [Result.andThen,h4]
   ·split at h
    ·rename_i cs hcs;simp only [afZ.injEq] at h;subst h;obtain ⟨vs,h2,h4,h3⟩:=OK hM hL _ cs hcs;refine ⟨.tuple ⟨vs⟩,by simp [fP,h2],?_⟩;simp only [Sem.run_bind,Sem.run_map,h3,Sem.run_pure];simp [Result.andThen,h4]
    ·cases h
def aJ (P:Program) (O:bJ):Prop:=∀g h,SF O g=some h→∀args L b r L',h args L=some (b,r,L')→b=true→fI P g args L r L'
def oA (P:Program) (A:xI):Prop:=∀g h,SF A g=some h→∀args L nm b r L',h args L nm=some (b,r,L')→b=true→fI P g args L r L'
theorem wM {α:Type} {E:List (TypeId×Nat)} {C:List FuncId} {A:xI} {O:bJ} (hm:P.follows .mixedOrders=true) (hE:∀e∈E,nI P e) (hC:∀g∈C,jF P g) (hA:oA P A) (hO:aJ P O) (lim:Nat):∀d,BC (α:=α) P (evG P E C A O lim d)
 | 0=>fun g args L nm k r h=>by simp [evG] at h
 | d+1=>fun g args L nm k r h=>by
  unfold evG at h;split at h
  ·rename_i f hf;split at h
   ·rename_i b v L' hv;cases b with
    | false=>cases h
    | true=>exact ⟨v,L',hO g f hf args L true v L' hv rfl,h⟩
   ·cases h
  ·split at h
   ·rename_i f hf;split at h
    ·rename_i b v L' hv;cases b with
     | false=>cases h
     | true=>exact ⟨v,L',hA g f hf args L nm true v L' hv rfl,h⟩
    ·cases h
   ·split at h
    ·rename_i fn hfn;split at h
     ·rename_i c hc;obtain ⟨e,σ',h1,h2⟩:=evC_sound hm hE hC (wM hm hE hC hA hO lim d) lim _ _ _ _ h;have fin:(∀i,e≠.ex i)→(match resA P σ' fn.results.toList with | some r=>k r σ'.L | none=>none)=some r→∃v L',fI P g args L v L'∧k v L'=some r:=fun hne hk=>by
       split at hk
       ·rename_i v hv;refine ⟨v,σ'.L,?_,hk⟩;intro ρ w vs hvs hL;refine calls_of_wp hfn hc ?_;have hM:MT ρ (args++List.replicate (fn.ntmps-args.length) (.v undef)) {tmps:=(⟨vs⟩:Array Value)++Array.replicate (fn.ntmps-(⟨vs⟩:Array Value).size) undef,defers:=[]}:=by
         refine ⟨rfl,?_⟩;have hl:=tY hvs;have:((⟨vs⟩:Array Value)++Array.replicate (fn.ntmps-(⟨vs⟩:Array Value).size) undef).toList=vs++List.replicate (fn.ntmps-args.length) undef:=by
          simp [hl]
         rw [this];exact iK hvs (GN _ _)
        refine wp_mono (h2 ρ _ w hM hL) fun e' a' w' hp=>?_;obtain ⟨h5,ρ',g1,g2,g3⟩:=hp;obtain ⟨u,h6,h7⟩:=ZI hv g2 g3;subst h5;cases e with
        | norm=>exact ⟨g2.1,u,h7,u,ρ',rfl,g1,h6,g3⟩
        | ret=>exact ⟨g2.1,u,h7,u,ρ',rfl,g1,h6,g3⟩
        | ex i=>exact absurd rfl (hne i)
       ·cases hk
      cases e with
      | norm=>exact fin (by simp) h1
      | ret=>exact fin (by simp) h1
      | ex i=>simp at h1
     ·cases h
    ·cases h
theorem BH:oA P []:=fun g h q=>by simp [SF] at q
theorem oQ {g:FuncId} {h:Ent2} {A:xI} (h1:∀args L nm b r L',h args L nm=some (b,r,L')→b=true→fI P g args L r L') (h2:oA P A):oA P ((g,h)::A):=fun f h' q=>by
 unfold SF at q;cases e:agJ g f with
 | true=>
  rw [e] at q;simp only [cond_true,afZ.injEq] at q;subst q;have:g=f:=adX e;subst this;exact h1
 | false=>
  rw [e] at q;exact h2 f h' q
theorem BS {α:Type} {E:List (TypeId×Nat)} {C:List FuncId} {O:bJ} (hm:P.follows .mixedOrders=true) (hE:∀e∈E,nI P e) (hC:∀g∈C,jF P g) (hO:aJ P O) (lim:Nat) (d:Nat):BC (α:=α) P (evF P E C O lim d):=
 wM hm hE hC BH hO lim d
def KK (d:Nm):CV→CV
 | .v x=>.v x
 | .p n o=>.p (n++d) o
 | .s n o l c=>.s (n++d) o l c
 | .o n e i l=>.o (n++d) e i l
def renA (d:Nm):AV→AV
 | .v x=>.v x
 | .p n o=>.p (n++d) o
 | .c f b c=>.c f (b.map (KK d)) (c.map (KK d))
 | .s n o l c=>.s (n++d) o l c
 | .o n e i l=>.o (n++d) e i l
 | .t l=>.t (l.map (KK d))
 | .g l=>.g (l.map (KK d))
def TL (d:Nm) (L:cF):cF:=L.map fun x=>(x.1++d,⟨x.2.cells.map (KK d),x.2.ty⟩)
theorem renC_at (ρ:gZ) (d:Nm) (x:CV):FH ρ (KK d x)=FH (fun n=>ρ (n++d)) x:=by cases x<;>rfl
theorem AO (ρ:gZ) (d:Nm):∀l:List CV,dF ρ (l.map (KK d))=dF (fun n=>ρ (n++d)) l
 | []=>rfl
 | x::l=>by simp only [auQ,dF,renC_at,AO ρ d l]
theorem renA_at (ρ:gZ) (d:Nm) (x:AV):fP ρ (renA d x)=fP (fun n=>ρ (n++d)) x:=by
 cases x<;>simp only [renA,fP,AO]
theorem ZG (ρ:gZ) (d:Nm):∀l:List AV,fD ρ (l.map (renA d))=fD (fun n=>ρ (n++d)) l
 | []=>rfl
 | x::l=>by simp only [auQ,fD,renA_at,ZG ρ d l]
theorem rV (d:Nm):∀(L:cF) (n:Nm),eR (TL d L) (n++d)=(eR L n).map fun b=>⟨b.cells.map (KK d),b.ty⟩
 | [],n=>rfl
 | x::L,n=>by
  obtain ⟨m,b⟩:=x;show eR ((m++d,_)::TL d L) (n++d)=_;rw [bN,bN,rV d L n];by_cases h:m=n
  ·subst h;simp
  ·rw [if_neg h,if_neg (fun e=>h (List.append_cancel_right e))]
theorem uP (d:Nm):∀(L:cF) (m:Nm),(∀n,m≠n++d)→eR (TL d L) m=none
 | [],m,_=>rfl
 | x::L,m,h=>by
  obtain ⟨k,b⟩:=x;show eR ((k++d,_)::TL d L) m=_;rw [bN,if_neg (fun e=>h k e.symm)];exact uP d L m h
theorem vV {g:FuncId} {args:List AV} {L:cF} {r:AV} {L':cF} (hR:fI P g args L r L') (d:Nm):fI P g (args.map (renA d)) (TL d L) (renA d r) (TL d L'):=by
 intro ρ w vs hvs hL;rw [ZG] at hvs;have get':∀{L:cF} {n:Nm} {k:kJ},eR L n=some k→eR (TL d L) (n++d)=some ⟨k.cells.map (KK d),k.ty⟩:=fun h=>by rw [rV,h];rfl
 have hML:ML (fun n=>ρ (n++d)) L w:=by
  refine ⟨fun n=>?_,fun n b q=>hL.lt (n++d) b q,fun n b k q hg hk=>?_,fun n b k q hg hz=>?_,fun n b o q=>hL.ro (n++d) b o q,fun n m b c k l q q' qe hg hg' hk hl=>?_,hL.glb,fun e he n b q=>hL.far e he (n++d) b q⟩
  ·have:=hL.dom (n++d);rw [rV] at this
   (try dsimp only)
   rw [this];cases eR L n<;>rfl
  ·obtain ⟨xs,ys,ty,h1,h2,h3⟩:=hL.blk (n++d) b _ q (get' hg) (by simpa using hk);exact ⟨xs,ys,ty,by rw [←AO];exact h1,h2,h3⟩
  ·have:=hL.flag (n++d) b _ q (get' hg) hz;exact ⟨this.1,by simpa using this.2⟩
  ·exact List.append_cancel_right (hL.inj (n++d) (m++d) b c _ _ q q' qe (get' hg) (get' hg') (by simpa using hk) (by simpa using hl))
 refine (hR _ w vs hvs hML).mono ?_;rintro e w' ⟨u,ρ₀,rfl,hN,hv,hM'⟩;classical
 let ρ':gZ:=fun m=>if h:∃n,m=n++d then ρ₀ (Classical.choose h) else none
 have hat:∀n,ρ' (n++d)=ρ₀ n:=fun n=>by
  have h:∃k,n++d=k++d:=⟨n,rfl⟩;show (if h:∃k,n++d=k++d then ρ₀ (Classical.choose h) else none)=_;rw [dif_pos h,←List.append_cancel_right (Classical.choose_spec h)]
 have hno:∀m,(∀n,m≠n++d)→ρ' m=none:=fun m h=>by
  show (if h:∃k,m=k++d then ρ₀ (Classical.choose h) else none)=_;rw [dif_neg (fun ⟨k,q⟩=>h k q)]
 have hin:∀m b,ρ' m=some b→∃n,m=n++d∧ρ₀ n=some b:=fun m b q=>by
  by_cases h:∃n,m=n++d
  ·obtain ⟨n,rfl⟩:=h;exact ⟨n,rfl,by rw [←hat];exact q⟩
  ·rw [hno m (fun n e=>h ⟨n,e⟩)] at q;cases q
 have hold:∀m b,ρ m=some b→∃n,m=n++d:=fun m b q=>by
  by_cases h:∃n,m=n++d
  ·exact h
  ·have:=hL.dom m;rw [uP d L m (fun n e=>h ⟨n,e⟩),q] at this;cases this
 have hfun:(fun n=>ρ' (n++d))=ρ₀:=funext hat;refine ⟨u,ρ',rfl,⟨fun m b q=>?_,hN.os,hN.tape,hN.output,hN.size,fun k hk hn=>hN.old k hk fun n b q=>hn (n++d) b q,fun m b q q2=>?_⟩,by rw [renA_at,hfun];exact hv,⟨fun m=>?_,fun m b q=>?_,fun m b k q hg hk=>?_,fun m b k q hg hz=>?_,fun m b o q hz=>?_,fun m m' b c k l q q' qe hg hg' hk hl=>?_,hM'.glb,fun e he m b q=>?_⟩⟩
 ·obtain ⟨n,rfl⟩:=hold m b q;rw [hat];exact hN.ext n b q
 ·obtain ⟨n,rfl,h1⟩:=hin m b q;rcases hN.new n b h1 q2 with h2 | ⟨n',c,h2,h3⟩
  ·exact .inl h2
  ·exact .inr ⟨n'++d,c,h2,h3⟩
 ·by_cases h:∃n,m=n++d
  ·obtain ⟨n,rfl⟩:=h;rw [hat,rV,hM'.dom n];cases eR L' n<;>rfl
  ·rw [hno m (fun n e=>h ⟨n,e⟩),uP d L' m (fun n e=>h ⟨n,e⟩)];rfl
 ·obtain ⟨n,rfl,h1⟩:=hin m b q;exact hM'.lt n b h1
 ·obtain ⟨n,rfl,h1⟩:=hin m b q;rw [rV] at hg;cases hq:eR L' n with
  | none=>rw [hq] at hg;cases hg
  | some k0=>
   rw [hq] at hg;cases hg;obtain ⟨xs,ys,ty,h2,h3,h4⟩:=hM'.blk n b k0 h1 hq (fun e=>hk (by simp [e]));exact ⟨xs,ys,ty,by (try dsimp only);rw [AO,hfun];exact h2,h3,h4⟩
 ·obtain ⟨n,rfl,h1⟩:=hin m b q;rw [rV] at hg;cases hq:eR L' n with
  | none=>rw [hq] at hg;cases hg
  | some k0=>
   rw [hq] at hg;cases hg;have:=hM'.flag n b k0 h1 hq hz;exact ⟨this.1,by simpa using this.2⟩
 ·obtain ⟨n,rfl,h1⟩:=hin m b q;exact hM'.ro n b o h1 hz
 ·obtain ⟨n,rfl,h1⟩:=hin m b q;obtain ⟨n',rfl,h2⟩:=hin m' c q';rw [rV] at hg hg';cases hq:eR L' n with
  | none=>rw [hq] at hg;cases hg
  | some k0=>
   cases hq':eR L' n' with
   | none=>rw [hq'] at hg';cases hg'
   | some l0=>
    rw [hq] at hg;rw [hq'] at hg';cases hg;cases hg';rw [hM'.inj n n' b c k0 l0 h1 h2 qe hq hq' (fun e=>hk (by simp [e])) (fun e=>hl (by simp [e]))]
 ·obtain ⟨n,rfl,h1⟩:=hin m b q;exact hM'.far e he n b h1
end
end Ev
namespace Ev
open Go.RowKit
section
variable {P : Program}
def aH (P:Program) (g:FuncId) (vs:List Value) (V:Value):Prop:=∀w,eJ w→Calls P g ⟨vs⟩ w fun e w'=>e=.returned V∧Below w.heap.size w w'
theorem WZ {g:FuncId} {vs:List Value} {V:Value} (h:∀w,Calls P g ⟨vs⟩ w fun e w'=>e=.returned V∧Below w.heap.size w w'):aH P g vs V:=fun w _=>h w
def YF (r:AV) (_:cF):Option AV:=some r
theorem UE {w:World} (h:eJ w):ML (fun _=>none) [] w:=⟨fun n=>rfl,fun n b q=>(by cases q),fun n b k q=>(by cases q),fun n b k q=>(by cases q),fun n b o q=>(by cases q),fun n m b c k l q=>(by cases q),h,fun e _ n b q=>(by cases q)⟩
theorem runs_gives {g:FuncId} {vs:List Value} {V:Value} {L':cF} (h:fI P g (vs.map AV.v) [] (.v V) L'):aH P g vs V:=by
 intro w hw;refine (h (fun _=>none) w vs (jR vs) (UE hw)).mono ?_;rintro e w' ⟨v,ρ',rfl,hN,hv,_⟩;simp only [fP,afZ.injEq] at hv;subst hv;exact ⟨rfl,hN.os,hN.tape,hN.output,hN.size,fun k hk=>hN.old k hk fun n b q=>by cases q⟩
theorem cS {g:FuncId} {vs:List Value} {V:Value} (h:aH P g vs V):fI P g (vs.map AV.v) [] (.v V) []:=by
 intro ρ w us hu hL;rw [jR] at hu;cases hu;refine (h w hL.glb).mono ?_;rintro e w' ⟨rfl,hb⟩;have hn:∀n,ρ n=none:=fun n=>by
  have:=hL.dom n;simp only [eR,Option.isSome_none] at this;cases hq:ρ n with
  | none=>rfl
  | some b=>rw [hq] at this;cases this
 exact ⟨V,ρ,rfl,⟨LU.refl ρ,hb.os,hb.tape,hb.output,hb.size,fun k hk _=>hb.block k hk,fun n b q q'=>by rw [q'] at q;cases q⟩,rfl,
  ⟨hL.dom,fun n b q=>(by rw [hn n] at q;cases q),fun n b k q=>(by rw [hn n] at q;cases q),fun n b k q=>(by rw [hn n] at q;cases q),fun n b o q=>(by rw [hn n] at q;cases q),fun n m b c k l q=>(by rw [hn n] at q;cases q),hL.glb.of fun g hg _=>hb.block g hg,hL.far⟩⟩
theorem BR {E:List (TypeId×Nat)} {C:List FuncId} {O:bJ} (hm:P.follows .mixedOrders=true) (hE:∀e∈E,nI P e) (hC:∀g∈C,jF P g) (hO:aJ P O) {lim d:Nat} {g:FuncId} {vs:List Value} {nm:Nm} {V:Value}
  (h:evF P E C O lim d g (vs.map AV.v) [] nm YF=some (.v V)):aH P g vs V:=by
 obtain ⟨v,L',h1,h2⟩:=BS hm hE hC hO lim d g _ _ _ _ _ h;simp only [YF,afZ.injEq] at h2;subst h2;exact runs_gives h1
theorem runs_one {g:FuncId} {us vs:List Value} {off:Nat} {k:kJ} {V:Value} {L':cF} {cs:List Value} {k':kJ} (h:fI P g (us.map AV.v++.p [] off::vs.map AV.v) [([],k)] (.v V) L') (hk:xF k.cells=[])
  (hg:eR L' []=some k') (hc:LV k'.cells=some cs) (n:Nm):fI P g (us.map AV.v++.p n off::vs.map AV.v) [(n,k)] (.v V) [(n,⟨cs.map CV.v,k'.ty⟩)]:=by
 intro ρ w zs hz hL;obtain ⟨b,hb⟩:=hL.has (n:=n) (k:=k) (by rw [bN,if_pos rfl]);have only:∀m c,ρ m=some c→m=n:=fun m c q=>by
  have:=hL.dom m;rw [q,bN] at this;by_cases e:n=m
  ·exact e.symm
  ·rw [if_neg e] at this;cases this
 have hML:ML (fun m=>if m=[] then some b else none) [([],k)] w:=by
  refine ⟨fun m=>?_,fun m c q=>?_,fun m c l q hg hl=>?_,fun m c l q hg hz=>?_,fun m c o q hz=>?_,fun m m' c c' l l' q q' _ _ _ _ _=>?_,hL.glb,fun e he m c q=>?_⟩
  ·rw [bN];by_cases e:m=[]
   ·subst e;simp
   ·have e':¬[]=m:=fun q=>e q.symm;simp [e,e',eR]
  ·(try dsimp only at q)
   split at q
   ·cases q;exact hL.lt n b hb
   ·cases q
  ·(try dsimp only at q)
   split at q
   ·rename_i e;subst e;cases q;rw [bN,if_pos rfl] at hg;cases hg;obtain ⟨xs,ys,ty,q1,q2,q3⟩:=hL.blk n b k hb (by rw [bN,if_pos rfl]) hl;refine ⟨xs,ys,ty,?_,q2,q3⟩;have:=jJ (ρ:=ρ) (ks:=[]) (l:=k.cells) (vs:=xs) (by rw [hk];rfl) q1;exact iR (fun m c q=>by have:=(dX q).1;simp [has] at this) this
   ·cases q
  ·(try dsimp only at q)
   split at q
   ·rename_i e;subst e;cases q;rw [bN,if_pos rfl] at hg;cases hg;exact hL.flag n b k hb (by rw [bN,if_pos rfl]) hz
   ·cases q
  ·(try dsimp only at q)
   split at q
   ·cases q;exact hL.ro n b o hb hz
   ·cases q
  ·(try dsimp only at q q')
   split at q<;>split at q'
   ·rename_i e e';rw [e,e']
   ·cases q'
   ·cases q
   ·cases q
  ·(try dsimp only at q)
   split at q
   ·cases q;exact hL.far e he n b hb
   ·cases q
 have hz':fD (fun m:Nm=>if m=[] then some b else none) (us.map AV.v++.p [] off::vs.map AV.v)=some zs:=by
  have h1:fD ρ (us.map AV.v++.p n off::vs.map AV.v)=some (us++.pointer (some ⟨b.1,off,none⟩)::vs):=
   iK (jR us) (by simp [fD,fP,hb,jR])
  rw [h1] at hz;cases hz;exact iK (jR us) (by simp [fD,fP,jR])
 refine (h _ w zs hz' hML).mono ?_;rintro e w' ⟨v,ρ',rfl,hN,hv,hM'⟩;have hr:ρ' []=some b:=hN.ext [] b (by simp);refine ⟨v,ρ,rfl,⟨LU.refl ρ,hN.os,hN.tape,hN.output,hN.size,fun j hj hn=>hN.old j hj fun m c q=>?_,fun m c q q'=>by rw [q'] at q;cases q⟩,hv,⟨fun m=>?_,fun m c q=>apZ (hL.lt m c q) hN.size,fun m c l q hg' hl=>?_,fun m c l q hg' hz=>?_,fun m c o q hz=>?_,fun m m' c c' l l' q q' _ _ _ _ _=>by rw [only m c q,only m' c' q'],hM'.glb,hL.far⟩⟩
 ·(try dsimp only at q)
  split at q
  ·cases q;exact hn n b hb
  ·cases q
 ·have:=hL.dom m;rw [bN] at this ⊢;by_cases e:n=m
  ·rw [if_pos e] at this ⊢;exact this
  ·rw [if_neg e] at this ⊢;exact this
 ·rw [bN] at hg';split at hg'
  ·rename_i e;cases hg';subst e;rw [hb] at q;cases q;have hk':k'.cells≠[]:=fun q=>by rw [q] at hc;cases hc;exact hl rfl
   obtain ⟨ys,zs,ty,p1,p2,p3,p4⟩:=hM'.blk [] b k' hr hg hk';have hys:ys=cs:=by
    have:=PK (ρ:=ρ') hc;rw [p1] at this;exact afZ.inj this
   subst hys;exact ⟨ys,zs,ty,lN ys,p2,p3,p4⟩
  ·cases hg'
 ·rw [bN] at hg';split at hg'
  ·rename_i e;cases hg';subst e;rw [hb] at q;cases q;have hf:=hM'.flag [] b k' hr hg hz;refine ⟨hf.1,fun e=>?_⟩;have e2:cs=[]:=by simpa using e
   subst e2;cases hq:k'.cells with
   | nil=>exact hf.2 hq
   | cons x l=>
    rw [hq] at hc;cases x<;>simp only [LV] at hc
    ·split at hc<;>cases hc
    all_goals cases hc
  ·cases hg'
 ·have e:=only m c q;subst e;rw [hb] at q;cases q;exact hM'.ro [] b o hr hz
theorem fE:aJ P []:=fun g h q=>by simp [SF] at q
theorem aA {g:FuncId} {h:zC} {O:bJ} (h1:∀args L b r L',h args L=some (b,r,L')→b=true→fI P g args L r L') (h2:aJ P O):aJ P ((g,h)::O):=fun f h' q=>by
 unfold SF at q;cases e:agJ g f with
 | true=>
  rw [e] at q;simp only [cond_true,afZ.injEq] at q;subst q;have:g=f:=adX e;subst this;exact h1
 | false=>
  rw [e] at q;exact h2 f h' q
theorem VO {g:FuncId} {fn:Func} (hf:P.funcs[g]? =some fn) (hn:(fn.name== "runtime.NumGoroutine")=false) (hb:fn.body.isNone=false):jF P g:=by
 intro args w;have hb':¬fn.body=none:=fun e=>by rw [e] at hb;cases hb
 have hn':¬fn.name= "runtime.NumGoroutine" :=fun e=>by rw [e] at hn;simp at hn
 simp [callFunc,hf,hn',hb']
end
def lt {α β:Type} (a:α) (f:α→β):β:=f a
theorem aO {α β:Type} {b:Bool} {X Y:Option α} {x y:β} (g:β→α) (h1:X=some (g x)) (h2:Y=some (g y)):cond b X Y=some (g (cond b x y)):=by cases b<;>assumption
theorem aT {α β γ:Type} {a:γ} {X:γ→Option α} {x:γ→β} (g:β→α) (h:∀c,X c=some (g (x c))):lt a X=some (g (lt a x)):=h a
def gN (P:Program) (g:FuncId) (ty:TypeId) (c:Int) (vs:List Value) (V:Value) (c':Int):Prop:=
 ∀n,fI P g (.p n 0::vs.map AV.v) [(n,⟨[.v (.int .i64 c)],ty⟩)] (.v V) [(n,⟨[.v (.int .i64 c')],ty⟩)]
def lastC (r:AV) (L:cF):Option (AV×kJ):=
 match eR L [] with
 | some b=>some (r,b)
 | none=>none
theorem evF_mods {P:Program} {E:List (TypeId×Nat)} {C:List FuncId} {O:bJ} (hm:P.follows .mixedOrders=true) (hE:∀e∈E,nI P e) (hC:∀g∈C,jF P g) (hO:aJ P O) {lim d:Nat} {g:FuncId} {vs:List Value} {nm:Nm} {V:Value} {ty:TypeId} {c c':Int}
  (h:evF P E C O lim d g (.p [] 0::vs.map AV.v) [([],⟨[.v (.int .i64 c)],ty⟩)] nm lastC=some (.v V,⟨[.v (.int .i64 c')],ty⟩)):gN P g ty c vs V c':=by
 intro n;obtain ⟨v,L',h1,h2⟩:=BS hm hE hC hO lim d g _ _ _ _ _ h;unfold lastC at h2;split at h2
 ·rename_i b hb;simp only [afZ.injEq,Prod.mk.injEq] at h2;obtain ⟨rfl,rfl⟩:=h2;exact runs_one (us:=[]) (vs:=vs) (cs:=[.int .i64 c']) h1 rfl hb rfl n
 ·cases h2
def bG (c e:Int):Int:=if c=0 then e else c
section
variable {P : Program} {g : FuncId}
def e0 (F:Value):zC
 | [],[]=>some (true,.v F,[])
 | _,_=>none
theorem e0_ok {F:Value} (h:aH P g [] F) (args:List AV) (L:cF) (z:Bool) (r:AV) (L':cF) (q:e0 F args L=some (z,r,L')) (_:z=true):fI P g args L r L':=by
 unfold e0 at q;split at q
 ·cases q;exact cS h
 ·cases q
def eP (F:Int→Int→Value):zC
 | [.v (.agg ⟨[.int .i64 a,.int .i64 b]⟩)],[]=>some (true,.v (F a b),[])
 | _,_=>none
theorem dD {F:Int→Int→Value} (h:∀a b,aH P g [.agg ⟨[.int .i64 a,.int .i64 b]⟩] (F a b)) (args:List AV) (L:cF) (z:Bool) (r:AV) (L':cF) (q:eP F args L=some (z,r,L')) (_:z=true):fI P g args L r L':=by
 unfold eP at q;split at q
 ·cases q;exact cS (h _ _)
 ·cases q
def rI (F:Int→Int→Int→Int→Value):zC
 | [.v (.agg ⟨[.int .i64 a,.int .i64 b]⟩),.v (.agg ⟨[.int .i64 c,.int .i64 d]⟩)],[]=>some (true,.v (F a b c d),[])
 | _,_=>none
theorem dM {F:Int→Int→Int→Int→Value} (h:∀a b c d,aH P g [.agg ⟨[.int .i64 a,.int .i64 b]⟩,.agg ⟨[.int .i64 c,.int .i64 d]⟩] (F a b c d)) (args:List AV) (L:cF) (z:Bool) (r:AV) (L':cF) (q:rI F args L=some (z,r,L')) (_:z=true):fI P g args L r L':=by
 unfold rI at q;split at q
 ·cases q;exact cS (h _ _ _ _)
 ·cases q
def eI (F:Int→Value):zC
 | [.v (.int .i64 a)],[]=>some (true,.v (F a),[])
 | _,_=>none
theorem IR {F:Int→Value} (h:∀a,aH P g [.int .i64 a] (F a)) (args:List AV) (L:cF) (z:Bool) (r:AV) (L':cF) (q:eI F args L=some (z,r,L')) (_:z=true):fI P g args L r L':=by
 unfold eI at q;split at q
 ·cases q;exact cS (h _)
 ·cases q
def eIif (p:Int→Bool) (F:Int→Value):zC
 | [.v (.int .i64 a)],[]=>some (p a,.v (F a),[])
 | _,_=>none
theorem eIif_ok {p:Int→Bool} {F:Int→Value} (h:∀a,p a=true→aH P g [.int .i64 a] (F a)) (args:List AV) (L:cF) (z:Bool) (r:AV) (L':cF) (q:eIif p F args L=some (z,r,L')) (hz:z=true):fI P g args L r L':=by
 unfold eIif at q;split at q
 ·cases q;exact cS (h _ hz)
 ·cases q
def eII (F:Int→Int→Value):zC
 | [.v (.int .i64 a),.v (.int .i64 b)],[]=>some (true,.v (F a b),[])
 | _,_=>none
theorem yG {F:Int→Int→Value} (h:∀a b,aH P g [.int .i64 a,.int .i64 b] (F a b)) (args:List AV) (L:cF) (z:Bool) (r:AV) (L':cF) (q:eII F args L=some (z,r,L')) (_:z=true):fI P g args L r L':=by
 unfold eII at q;split at q
 ·cases q;exact cS (h _ _)
 ·cases q
def tE (p:Int→Int→Bool) (F:Int→Int→Value):zC
 | [.v (.int .i64 a),.v (.int .i64 b)],[]=>some (p a b,.v (F a b),[])
 | _,_=>none
theorem kM {p:Int→Int→Bool} {F:Int→Int→Value} (h:∀a b,p a b=true→aH P g [.int .i64 a,.int .i64 b] (F a b)) (args:List AV) (L:cF) (z:Bool) (r:AV) (L':cF) (q:tE p F args L=some (z,r,L')) (hz:z=true):fI P g args L r L':=by
 unfold tE at q;split at q
 ·cases q;exact cS (h _ _ hz)
 ·cases q
def ePI (F:Int→Int→Int→Value):zC
 | [.v (.agg ⟨[.int .i64 a,.int .i64 b]⟩),.v (.int .i64 c)],[]=>some (true,.v (F a b c),[])
 | _,_=>none
theorem ePI_ok {F:Int→Int→Int→Value} (h:∀a b c,aH P g [.agg ⟨[.int .i64 a,.int .i64 b]⟩,.int .i64 c] (F a b c)) (args:List AV) (L:cF) (z:Bool) (r:AV) (L':cF) (q:ePI F args L=some (z,r,L')) (_:z=true):fI P g args L r L':=by
 unfold ePI at q;split at q
 ·cases q;exact cS (h _ _ _)
 ·cases q
def ePII (F:Int→Int→Int→Int→Value):zC
 | [.v (.agg ⟨[.int .i64 a,.int .i64 b]⟩),.v (.int .i64 c),.v (.int .i64 d)],[]=>some (true,.v (F a b c d),[])
 | _,_=>none
theorem ePII_ok {F:Int→Int→Int→Int→Value} (h:∀a b c d,aH P g [.agg ⟨[.int .i64 a,.int .i64 b]⟩,.int .i64 c,.int .i64 d] (F a b c d)) (args:List AV) (L:cF) (z:Bool) (r:AV) (L':cF) (q:ePII F args L=some (z,r,L')) (_:z=true):fI P g args L r L':=by
 unfold ePII at q;split at q
 ·cases q;exact cS (h _ _ _ _)
 ·cases q
def eT (F:Int→Int→Int→Int→Int→Int→Value):zC
 | [.v (.agg ⟨[.int .i64 a,.int .i64 b,.int .i64 c,.int .i64 d,.int .i64 e,.int .i64 f]⟩)],[]=>some (true,.v (F a b c d e f),[])
 | _,_=>none
theorem lO {F:Int→Int→Int→Int→Int→Int→Value} (h:∀a b c d e f,aH P g [.agg ⟨[.int .i64 a,.int .i64 b,.int .i64 c,.int .i64 d,.int .i64 e,.int .i64 f]⟩] (F a b c d e f)) (args:List AV) (L:cF) (z:Bool) (r:AV) (L':cF) (q:eT F args L=some (z,r,L')) (_:z=true):fI P g args L r L':=by
 unfold eT at q;split at q
 ·cases q;exact cS (h _ _ _ _ _ _)
 ·cases q
def eTP (F:Int→Int→Int→Int→Int→Int→Int→Int→Value):zC
 | [.v (.agg ⟨[.int .i64 a,.int .i64 b,.int .i64 c,.int .i64 d,.int .i64 e,.int .i64 f]⟩),.v (.agg ⟨[.int .i64 u,.int .i64 v]⟩)],[]=>some (true,.v (F a b c d e f u v),[])
 | _,_=>none
theorem eTP_ok {F:Int→Int→Int→Int→Int→Int→Int→Int→Value} (h:∀a b c d e f u v,aH P g [.agg ⟨[.int .i64 a,.int .i64 b,.int .i64 c,.int .i64 d,.int .i64 e,.int .i64 f]⟩,.agg ⟨[.int .i64 u,.int .i64 v]⟩] (F a b c d e f u v)) (args:List AV) (L:cF) (z:Bool) (r:AV) (L':cF) (q:eTP F args L=some (z,r,L')) (_:z=true):fI P g args L r L':=by
 unfold eTP at q;split at q
 ·cases q;exact cS (h _ _ _ _ _ _ _ _)
 ·cases q
def cP (ty:TypeId) (F:Int→Int→Value) (G:Int→Int→Int→Int):zC
 | [.p n 0,.v (.agg ⟨[.int .i64 a,.int .i64 b]⟩)],[(m,⟨[.v (.int .i64 k)],t⟩)]=>cond (mZ n m&&agJ t ty) (some (true,.v (F a b),[(m,⟨[.v (.int .i64 (G k a b))],t⟩)])) none
 | _,_=>none
theorem oR {ty:TypeId} {F:Int→Int→Value} {G:Int→Int→Int→Int} (h:∀k a b,gN P g ty k [.agg ⟨[.int .i64 a,.int .i64 b]⟩] (F a b) (G k a b)) (args:List AV) (L:cF) (z:Bool) (r:AV) (L':cF) (q:cP ty F G args L=some (z,r,L')) (_:z=true):fI P g args L r L':=by
 unfold cP at q;split at q
 ·rename_i n a b m k t;cases hc:(mZ n m&&agJ t ty) with
  | false=>rw [hc] at q;cases q
  | true=>
   rw [hc] at q;simp only [cond_true,afZ.injEq,Prod.mk.injEq] at q;obtain ⟨_,rfl,rfl⟩:=q;simp only [Bool.and_eq_true] at hc;have e1:=gV.1 hc.1;have e2:t=ty:=adX hc.2;subst e1 e2;exact h k a b n
 ·cases q
def PT (ty:TypeId) (F:Int→Int→Int→Int→Value) (G:Int→Int→Int→Int→Int→Int):zC
 | [.p n 0,.v (.agg ⟨[.int .i64 a,.int .i64 b]⟩),.v (.agg ⟨[.int .i64 c,.int .i64 d]⟩)],[(m,⟨[.v (.int .i64 k)],t⟩)]=>cond (mZ n m&&agJ t ty) (some (true,.v (F a b c d),[(m,⟨[.v (.int .i64 (G k a b c d))],t⟩)])) none
 | _,_=>none
theorem jH {ty:TypeId} {F:Int→Int→Int→Int→Value} {G:Int→Int→Int→Int→Int→Int} (h:∀k a b c d,gN P g ty k [.agg ⟨[.int .i64 a,.int .i64 b]⟩,.agg ⟨[.int .i64 c,.int .i64 d]⟩] (F a b c d) (G k a b c d)) (args:List AV) (L:cF) (z:Bool) (r:AV) (L':cF) (q:PT ty F G args L=some (z,r,L')) (_:z=true):fI P g args L r L':=by
 unfold PT at q;split at q
 ·rename_i n a b c d m k t;cases hc:(mZ n m&&agJ t ty) with
  | false=>rw [hc] at q;cases q
  | true=>
   rw [hc] at q;simp only [cond_true,afZ.injEq,Prod.mk.injEq] at q;obtain ⟨_,rfl,rfl⟩:=q;simp only [Bool.and_eq_true] at hc;have e1:=gV.1 hc.1;have e2:t=ty:=adX hc.2;subst e1 e2;exact h k a b c d n
 ·cases q
def cPI (ty:TypeId) (F:Int→Int→Int→Value) (G:Int→Int→Int→Int→Int):zC
 | [.p n 0,.v (.agg ⟨[.int .i64 a,.int .i64 b]⟩),.v (.int .i64 e)],[(m,⟨[.v (.int .i64 k)],t⟩)]=>cond (mZ n m&&agJ t ty) (some (true,.v (F a b e),[(m,⟨[.v (.int .i64 (G k a b e))],t⟩)])) none
 | _,_=>none
theorem rP {ty:TypeId} {F:Int→Int→Int→Value} {G:Int→Int→Int→Int→Int} (h:∀k a b e,gN P g ty k [.agg ⟨[.int .i64 a,.int .i64 b]⟩,.int .i64 e] (F a b e) (G k a b e)) (args:List AV) (L:cF) (z:Bool) (r:AV) (L':cF) (q:cPI ty F G args L=some (z,r,L')) (_:z=true):fI P g args L r L':=by
 unfold cPI at q;split at q
 ·rename_i n a b e m k t;cases hc:(mZ n m&&agJ t ty) with
  | false=>rw [hc] at q;cases q
  | true=>
   rw [hc] at q;simp only [cond_true,afZ.injEq,Prod.mk.injEq] at q;obtain ⟨_,rfl,rfl⟩:=q;simp only [Bool.and_eq_true] at hc;have e1:=gV.1 hc.1;have e2:t=ty:=adX hc.2;subst e1 e2;exact h k a b e n
 ·cases q
def cPII (ty:TypeId) (F:Int→Int→Int→Int→Value) (G:Int→Int→Int→Int→Int→Int):zC
 | [.p n 0,.v (.agg ⟨[.int .i64 a,.int .i64 b]⟩),.v (.int .i64 e),.v (.int .i64 f)],[(m,⟨[.v (.int .i64 k)],t⟩)]=>cond (mZ n m&&agJ t ty) (some (true,.v (F a b e f),[(m,⟨[.v (.int .i64 (G k a b e f))],t⟩)])) none
 | _,_=>none
theorem cPII_ok {ty:TypeId} {F:Int→Int→Int→Int→Value} {G:Int→Int→Int→Int→Int→Int} (h:∀k a b e f,gN P g ty k [.agg ⟨[.int .i64 a,.int .i64 b]⟩,.int .i64 e,.int .i64 f] (F a b e f) (G k a b e f)) (args:List AV) (L:cF) (z:Bool) (r:AV) (L':cF) (q:cPII ty F G args L=some (z,r,L')) (_:z=true):fI P g args L r L':=by
 unfold cPII at q;split at q
 ·rename_i n a b e f m k t;cases hc:(mZ n m&&agJ t ty) with
  | false=>rw [hc] at q;cases q
  | true=>
   rw [hc] at q;simp only [cond_true,afZ.injEq,Prod.mk.injEq] at q;obtain ⟨_,rfl,rfl⟩:=q;simp only [Bool.and_eq_true] at hc;have e1:=gV.1 hc.1;have e2:t=ty:=adX hc.2;subst e1 e2;exact h k a b e f n
 ·cases q
end
end Ev
end Go.Proofs.YtajpgkpdhcbngaaGreatDoor
