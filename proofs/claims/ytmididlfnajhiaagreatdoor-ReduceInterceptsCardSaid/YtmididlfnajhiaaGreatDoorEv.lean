/-
  A machine for code that works on variables of its own, shown true: it runs a function's code in the text's order on values and on local blocks that have names of their own; what it answers, the call gives, in whatever order drawn regions come up.
-/
import Derived.Orders
import Derived.LoopN
import Derived.Laws.Tables
import Derived.Deep.MidRow
import Derived.Laws.StructEq
import Derived.Laws.CopyRow
import Derived.Below
import Derived.Great.BuildSlice
set_option maxRecDepth 100000
set_option maxHeartbeats 4000000
open _root_.Array renaming toList_inj→asJ
open _root_.List renaming all_eq_true→aqX,any_eq_true→awJ,length_map→avJ,map_cons→bbQ,mem_cons→bbX,range→baJ
open _root_.Nat renaming add_zero→atX,beq→alZ,ble→awX,eq_of_beq_eq_true→afQ,le_of_ble_eq_true→amX,le_refl→aaX,le_trans→alQ,zero_add→anQ,zero_le→adX
open _root_.Option renaming bind_eq_some_iff→aeQ,bind_some→azQ,map_eq_some_iff→acX,some→afJ
namespace Go.Proofs.YtmididlfnajhiaaGreatDoor
namespace Ev
abbrev Nm:=List Nat
def nZ:Nm→Nm→Bool
 | [],[]=>true
 | a::l,b::m=>cond (alZ a b) (nZ l m) false
 | _,_=>false
inductive CV where
 | v (x:Value)
 | p (n:Nm) (off:Nat)
inductive AV where
 | v (x:Value)
 | p (n:Nm) (off:Nat)
 | c (f:FuncId) (bound cap:List CV)
 | s (n:Nm) (off len cap:Nat)
structure nG where
 cells:List CV
 ty:TypeId
abbrev dP:=List (Nm×nG)
def iO:dP→Nm→Option nG
 | [],_=>none
 | (m,b)::l,n=>cond (nZ m n) (some b) (iO l n)
def iJ (l:dP):List Nm:=l.map (·.1)
def PG (l:List Nm) (n:Nm):Bool:=l.any (nZ n)
def CV.toA:CV→AV
 | .v x=>.v x
 | .p n o=>.p n o
def gE (τ:List AV) (t:Nat):AV:=
 match τ[t]? with
 | some x=>x
 | none=>.v undef
def mC (τ:List AV):Operand→AV
 | .tmp t=>gE τ t
 | .const x=>.v x
 | .global g=>.v (.pointer (some ⟨g,0,none⟩))
 | .func f=>.v (.func (.func f) #[] #[])
def evV (τ:List AV) (x:Operand):Value:=
 match mC τ x with
 | .v y=>y
 | _=>undef
def isV:AV→Bool
 | .v _=>true
 | _=>false
def DY (τ:List AV):Option Tmp→AV→List AV
 | some d,x=>τ.set d x
 | none,_=>τ
def val? {α:Type} (P:Program):Sem α→Option α
 | .pure a=>some a
 | .program k=>val? P (k P)
 | .mark _ k=>val? P k
 | _=>none
def allV:List CV→Option (List Value)
 | []=>some []
 | .v x::l=>match allV l with
  | some r=>some (x::r)
  | none=>none
 | .p _ _::_=>none
def pK (τ:List AV) (xs:List Operand):Bool:=xs.all fun x=>isV (mC τ x)
def GI (P:Program) (τ:List AV) (o:Oper):Option AV:=
 cond (pK τ o.op.operands.toList) (match val? P (execOp (evV τ) o) with
  | some (.value v)=>some (.v v)
  | _=>none) none
def takeC (cs:List CV) (off n:Nat):List CV:=(cs.drop off).take n
def GS:List (Nat×List Value):=[(0,[.int .i64 5400000,.int .i64 5400000])]
def gF (w:World):Prop:=∀e∈GS,∃ty fz,w.heap[e.1]? =some (.cells ⟨e.2⟩ ty fz)
theorem gF.lt {w:World} (h:gF w) {e:Nat×List Value} (he:e∈GS):e.1<w.heap.size:=by
 obtain ⟨ty,fz,h1⟩:=h e he;exact (Array.getElem?_eq_some_iff.1 h1).1
theorem gF.of {w w':World} (h:gF w) (k:∀g,g<w.heap.size→(∃e∈GS,e.1=g)→w'.heap[g]? =w.heap[g]?):gF w':=fun e he=>by
 obtain ⟨ty,fz,h1⟩:=h e he;exact ⟨ty,fz,(k e.1 (h.lt he) ⟨e,he,rfl⟩).trans h1⟩
def XG:List (Nat×List Value)→Nat→Option (List Value)
 | [],_=>none
 | e::l,g=>cond (alZ e.1 g) (some e.2) (XG l g)
theorem PE:∀{l:List (Nat×List Value)} {g:Nat} {vs:List Value},XG l g=some vs→(g,vs)∈l
 | [],g,vs,h=>by simp [XG] at h
 | e::l,g,vs,h=>by
  unfold XG at h;cases hb:alZ e.1 g with
  | true=>
   rw [hb] at h;simp only [cond_true,afJ.injEq] at h;have h1:e.1=g:=afQ hb;rw [←h1,←h];exact List.mem_cons_self
  | false=>
   rw [hb] at h;exact List.mem_cons_of_mem _ (PE h)
def PI (P:Program) (b:nG) (t:TypeId) (off:Nat):Option AV:=
  match P.underlying t,P.info? t with
  | some d,some i=>cond d.isRow
      (match allV (takeC b.cells off i.size) with
       | some vs=>cond (alZ vs.length i.size) (some (.v (.agg ⟨vs⟩))) none
       | none=>none)
      (match b.cells[off]? with
       | some c=>some c.toA
       | none=>none)
  | _,_=>none
def globA (P:Program) (t:TypeId) (g:Nat):Option AV:=
 match XG GS g with
 | some vs=>PI P ⟨vs.map CV.v,0⟩ t 0
 | none=>none
def xX:AV→Option (List CV)
 | .v x=>some (x.cells.toList.map CV.v)
 | .p n o=>some [.p n o]
 | .c _ _ _=>none
 | .s _ _ _ _=>none
def one:CV→Bool
 | .v x=>x.oneCell'
 | .p _ _=>true
def storeA (P:Program) (b:nG) (t:TypeId) (off:Nat) (x:AV):Option nG:=
 match xX x,P.info? t with
 | some cs,some i=>
  cond (alZ cs.length i.size&&awX (off+i.size) b.cells.length&&cs.all one) (some ⟨b.cells.take off++cs++b.cells.drop (off+cs.length),b.ty⟩) none
 | _,_=>none
def fieldA (P:Program) (s:TypeId) (f:Nat):Option Nat:=
 match P.underlying s with
 | some (.struct fs)=>match fs[f]? with
  | some fd=>match P.info? fd.type with
   | some i=>cond (alZ i.size 0) none (some fd.offset)
   | none=>none
  | none=>none
 | _=>none
def indexA (P:Program) (t:TypeId) (ix:Int):Option Nat:=
 match P.underlying t with
 | some (.array len e)=>match P.info? e with
  | some i=>match ix with
   | .ofNat k=>cond (awX (k+1) len) (some (k*i.size)) none
   | .negSucc _=>none
  | none=>none
 | _=>none
def indexS (P:Program) (t:TypeId) (len:Nat) (ix:Int):Option Nat:=
 match P.underlying t with
 | some (.slice e)=>match P.info? e with
  | some i=>match ix with
   | .ofNat k=>cond (awX (k+1) len) (some (k*i.size)) none
   | .negSucc _=>none
  | none=>none
 | _=>none
def MS (P:Program) (t:TypeId) (n:Nat) (ps:List (Nat×Value)):Option (TypeId×Array Value):=
  match P.underlying t with
  | some (.slice e)=>match P.info? e with
    | some i=>match i.zero with
      | some z=>cond (alZ (n*i.size) 0||awX 16777216 (n*i.size)) none
          (match Instr.fill (fun j=>some (j*i.size,i.size)) ((Array.range (n*i.size)).map (z.cells[· %z.cells.size]!)) ps with
           | some cells=>some (e,cells)
           | none=>none)
      | none=>none
    | none=>none
  | _=>none
def bound (τ:List AV) (d:Nat):Option Operand→Option Nat
 | none=>some d
 | some x=>match mC τ x with
  | .v (.int _ (.ofNat k))=>some k
  | _=>none
def sliceA (P:Program) (τ:List AV) (t:TypeId) (x:AV) (lo hi:Option Operand):Option AV:=
 match x,P.underlying t with
 | .p n off,some (.array m e)=>match P.info? e,bound τ 0 lo,bound τ m hi with
  | some i,some l,some h=>cond (awX l h&&awX h m) (some (.s n (cond (alZ m l) off (off+l*i.size)) (h-l) (m-l))) none
  | _,_,_=>none
 | .s n off len m,some (.slice e)=>match P.info? e,bound τ 0 lo,bound τ len hi with
  | some i,some l,some h=>cond (awX l h&&awX h m) (some (.s n (cond (alZ m l) off (off+l*i.size)) (h-l) (m-l))) none
  | _,_,_=>none
 | _,_=>none
def lenA (P:Program) (τ:List AV) (c:Call):Option AV:=
 match c.callee,c.args.toList,c.argTypes.toList with
 | .builtin .len,[x],[t]=>match mC τ x,P.underlying t with
  | .s _ _ n _,some (.slice _)=>some (.v (.int .i64 (n:Int)))
  | _,_=>none
 | _,_,_=>none
def vR:List Value→List Value→Option Bool
 | [],[]=>some true
 | .int .i64 a::l,.int .i64 b::m=>match vR l m with
  | some r=>some ((a==b)&&r)
  | none=>none
 | _,_=>none
def GQ:List AV→Option (List CV)
 | []=>some []
 | .v x::l=>match GQ l with
  | some r=>some (.v x::r)
  | none=>none
 | .p n o::l=>match GQ l with
  | some r=>some (.p n o::r)
  | none=>none
 | .c _ _ _::_=>none
 | .s _ _ _ _::_=>none
def divOp:BinOp→Option Bool
 | .quo=>some true
 | .rem=>some false
 | _=>none
def NP:List CV→List Nm
 | []=>[]
 | .v _::l=>NP l
 | .p n _::l=>n::NP l
def DV:List AV→List Nm
 | []=>[]
 | .v _::l=>DV l
 | .p n _::l=>n::DV l
 | .c _ b c::l=>NP b++NP c++DV l
 | .s n _ _ _::l=>n::DV l
def UX (r:List Nm):List Nm→List Nm
 | []=>r
 | n::l=>cond (PG r n) (UX r l) (UX (n::r) l)
def reach (L:dP):Nat→List Nm→List Nm
 | 0,r=>r
 | d+1,r=>reach L d (UX r (r.flatMap fun n=>match iO L n with | some b=>NP b.cells | none=>[]))
def part (L:dP) (r:List Nm):dP:=r.filterMap fun n=>match iO L n with | some b=>some (n,b) | none=>none
def closed (ks:List Nm):dP→Bool
 | []=>true
 | (_,b)::l=>(NP b.cells).all (PG ks)&&closed ks l
def fresh (L:dP) (n:Nm):Bool:=
 match iO L n with
 | none=>true
 | some _=>false
def newOk (ks:List Nm) (L L':dP):Bool:=(iJ L').all fun n=>PG ks n||fresh L n
inductive Ex where
 | norm
 | ex (id:Nat)
 | ret
def Ex.cv:Ex→Exit
 | .norm=>.normal
 | .ex i=>.exit i
 | .ret=>.ret
structure St where
 τ:List AV
 L:dP
 c:Nat
 pre:Nm
structure Foot where
 rd:List Nm
 wr:List Nm
section
variable {α : Type} (P : Program) (E : List (TypeId × Nat)) (C : List FuncId) (call : FuncId → List AV → dP → Nm → (AV → dP → Option α) → Option α)
def isEq:BinOp→Option Bool
 | .eql=>some true
 | .neq=>some false
 | _=>none
def eqTy (t:TypeId) (n:Nat):Bool:=E.any fun e=>alZ e.1 t&&alZ e.2 n
def binA (τ:List AV) (o:Oper) (op:BinOp) (t:TypeId) (x y:Operand):Option AV:=
 match isEq op,mC τ x,mC τ y with
 | some b,.v (.agg xs),.v (.agg ys)=>
  cond (eqTy E t xs.toList.length&&alZ xs.toList.length ys.toList.length) (match vR xs.toList ys.toList with
   | some r=>some (.v (.bool (cond b r (!r))))
   | none=>none) none
 | _,_,_=>GI P τ o
def callee (τ:List AV):Callee→Option (FuncId×List AV×List AV)
 | .value f=>match mC τ f with
  | .v (.func (.func g) b c)=>some (g,b.toList.map AV.v,c.toList.map AV.v)
  | .c g b c=>some (g,b.map CV.toA,c.map CV.toA)
  | _=>none
 | _=>none
def doCall (args:List AV) (g:FuncId) (L:dP) (nm:Nm) (k:AV→dP→List Nm→Option α):Option α:=
 let r:=reach L 4 (UX [] (DV args))
 let LR:=part L r
 cond (C.any (alZ g)&&(DV args).all (PG (iJ LR))&&closed (iJ LR) LR)
  (call g args LR nm fun v L'=>cond (newOk (iJ LR) L L') (k v L' (iJ LR)) none) none
def evOp (o:Oper) (τ:List AV) (L:dP) (nm:Nm) (k:AV→dP→List Nm→Option α):Option α:=
 let vl (x:Option AV):Option α:=match x with
  | some v=>k v [] []
  | none=>none
 match o.op with
 | .move x=>k (mC τ x) [] []
 | .assign x=>k (mC τ x) [] []
 | .pick c a b=>match mC τ c with
  | .v (.bool t)=>cond t (k (mC τ a) [] []) (k (mC τ b) [] [])
  | _=>none
 | .box t x=>match xX (mC τ x) with
  | some cs=>match iO L nm with
   | none=>k (.p nm 0) [(nm,⟨cs,t⟩)] []
   | some _=>none
  | none=>none
 | .alloc t=>match P.info? t with
  | some i=>match i.zero with
   | some z=>match iO L nm with
    | none=>k (.p nm 0) [(nm,⟨z.cells.toList.map CV.v,t⟩)] []
    | some _=>none
   | none=>none
  | none=>none
 | .build t ps=>cond (pK τ (ps.toList.map (·.2))) (match P.built t (ps.toList.map fun q=>(q.1,evV τ q.2)) with
  | some cells=>k (.v (.agg cells)) [] []
  | none=>none) none
 | .load t x=>match mC τ x with
  | .p n off=>match iO L n with
   | some b=>match PI P b t off with
    | some v=>k v [] [n]
    | none=>none
   | none=>none
  | .v (.pointer (some ⟨g,0,none⟩))=>vl (globA P t g)
  | _=>none
 | .store t x y=>match mC τ x with
  | .p n off=>match iO L n with
   | some b=>match storeA P b t off (mC τ y) with
    | some b'=>k (.v undef) [(n,b')] []
    | none=>none
   | none=>none
  | _=>none
 | .fieldAddr s x f=>match mC τ x with
  | .p n off=>match fieldA P s f with
   | some d=>k (.p n (off+d)) [] []
   | none=>none
  | _=>none
 | .indexAddr t x y=>match mC τ x,mC τ y with
  | .p n off,.v (.int _ ix)=>match indexA P t ix with
   | some d=>k (.p n (off+d)) [] []
   | none=>none
  | .s n off len _,.v (.int _ ix)=>match indexS P t len ix with
   | some d=>k (.p n (off+d)) [] []
   | none=>none
  | _,_=>none
 | .buildSlice t n ps=>cond (pK τ (ps.toList.map (·.2))) (match MS P t n (ps.toList.map fun q=>(q.1,evV τ q.2)) with
  | some (e,cells)=>match iO L nm with
   | none=>k (.s nm 0 n n) [(nm,⟨cells.toList.map CV.v,e⟩)] []
   | some _=>none
  | none=>none) none
 | .slice t x lo hi mx=>match mx with
  | some _=>none
  | none=>vl (sliceA P τ t (mC τ x) lo hi)
 | .nilCheck x=>match mC τ x with
  | .p n off=>k (.p n off) [] []
  | .c f b c=>k (.c f b c) [] []
  | _=>vl (GI P τ o)
 | .binOp op t x y _=>match divOp op,mC τ x,mC τ y with
  | some q,.v (.int .i64 a),.v (.int .i64 b)=>cond (b==0) none (k (.v (.int .i64 (cond q (IntKind.i64.wrap (a.tdiv b)) (a.tmod b)))) [] [])
  | _,_,_=>vl (binA P E τ o op t x y)
 | .makeFunc f bs cs=>match f,GQ (bs.toList.map (mC τ)),GQ (cs.toList.map (mC τ)) with
  | .func g,some b,some c=>k (.c g b c) [] []
  | _,_,_=>none
 | .unOp _ _ _=>vl (GI P τ o)
 | .convert _ _ _=>vl (GI P τ o)
 | .field _ _ _=>vl (GI P τ o)
 | .index _ _ _=>vl (GI P τ o)
 | .extract _ _=>vl (GI P τ o)
 | .call c=>match c.callee with
  | .builtin _=>match lenA P τ c with
   | some v=>k v [] []
   | none=>vl (GI P τ o)
  | _=>match callee τ c.callee with
   | some (g,b,cp)=>doCall C call (b++c.args.toList.map (mC τ)++cp) g L nm fun v U rd=>k v U rd
   | none=>none
 | _=>none
def JY (ops:List Oper) (j:Nat):Option Tmp:=
 match ops[j]? with
 | some o=>o.dst
 | none=>none
def FB (all:List Oper) (fin:List Foot→Bool) (base:Nm):List Oper→Nat→List AV→dP→List Foot→(List AV→dP→Option α)→Option α
 | [],_,τ,L,fs,k=>cond (fin fs) (k τ L) none
 | o::rest,i,τ,L,fs,k=>
  let go (τ:List AV):Option α:=evOp P E C call o τ L (i::base) fun v U rd=>FB all fin base rest (i+1) (DY τ o.dst v) (U++L) (fs++[⟨rd,iJ U⟩]) k
  let no (τ:List AV):Option α:=FB all fin base rest (i+1) (DY τ o.dst (.v undef)) L (fs++[⟨[],[]⟩]) k
  match o.guard with
  | none=>go τ
  | some (j,want)=>match JY all j with
   | none=>no τ
   | some d=>match τ[d]? with
    | some (.v (.bool b))=>cond b
      (let τ':=τ.set d (.v (.bool true));cond want (go τ') (no τ'))
      (let τ':=τ.set d (.v (.bool false));cond want (no τ') (go τ'))
    | _=>no τ
def pT (ops:List Oper):Nat→Nat→Nat→Bool
 | 0,_,_=>false
 | n+1,i,j=>match ops[j]? with
  | some o=>o.after.toList.any fun e=>Region.binds .any e&&(alZ e.on i||(awX (i+1) e.on&&pT ops n i e.on))
  | none=>false
def LN (a b:List Nm):Bool:=a.all fun n=> !PG b n
def rE (x y:Foot):Bool:=LN x.wr y.rd&&LN x.wr y.wr&&LN y.wr x.rd
def looks (ops:List Oper) (o:Oper):List Tmp:=
  (o.op.operands.toList.filterMap fun | .tmp t=>some t | _=>none)++
  (match o.guard with
   | some (g,_)=>(JY ops g).toList
   | none=>[])
def hasN (l:List Nat) (n:Nat):Bool:=l.any (alZ n)
def OZ (d:Option Tmp) (l:List Tmp):Bool:=
 match d with
 | some d=>hasN l d
 | none=>false
def UC:Option Tmp→Option Tmp→Bool
 | some a,some b=>alZ a b
 | _,_=>false
def zV (ops:List Oper) (i j:Nat) (x y:Oper) (fx fy:Foot):Bool:=
 cond (UC x.dst y.dst) false
  (cond (!OZ x.dst (looks ops y)&& !OZ y.dst (looks ops x)&&rE fx fy) true (pT ops 24 i j))
def rowOk (ops:List Oper) (i:Nat) (x:Oper) (fx:Foot):Nat→List Oper→List Foot→Bool
 | j,y::l,f::fl=>zV ops i j x y fx f&&rowOk ops i x fx (j+1) l fl
 | _,_,_=>true
def VA (ops:List Oper):Nat→List Oper→List Foot→Bool
 | i,x::l,f::fl=>x.after.toList.all (fun e=> !Region.binds .any e||Nat.blt e.on i)&&rowOk ops i x f (i+1) l fl&&VA ops (i+1) l fl
 | _,_,_=>true
def fix (τ:List AV) (x:Operand) (b:Bool):List AV:=
 match x with
 | .tmp t=>τ.set t (.v (.bool b))
 | _=>τ
def iter (F:(Ex→St→Option α)→St→Option α):Nat→(Ex→St→Option α)→St→Option α
 | 0,_,_=>none
 | n+1,k,σ=>F (fun e σ'=>match e with | .norm=>iter F n k σ' | e=>k e σ') σ
def UP (lim:Nat):Code→(Ex→St→Option α)→St→Option α
 | .skip,k,σ=>k .norm σ
 | .seq a b,k,σ=>UP lim a (fun e σ'=>match e with | .norm=>UP lim b k σ' | e=>k e σ') σ
 | .region _ ops draw,k,σ=>FB P E C call ops.toList (fun fs=>cond draw (VA ops.toList 0 ops.toList fs) true) (σ.c::σ.pre) ops.toList 0 σ.τ σ.L [] fun τ L=>k .norm ⟨τ,L,σ.c+1,σ.pre⟩
 | .cond x a b,k,σ=>match mC σ.τ x with
  | .v (.bool t)=>cond t (UP lim a k ⟨fix σ.τ x true,σ.L,σ.c,σ.pre⟩) (UP lim b k ⟨fix σ.τ x false,σ.L,σ.c,σ.pre⟩)
  | _=>none
 | .block i b,k,σ=>UP lim b (fun e σ'=>match e with | .ex j=>cond (alZ j i) (k .norm σ') (k (.ex j) σ') | e=>k e σ') σ
 | .loop b,k,σ=>iter (UP lim b) lim k σ
 | .exit i,k,σ=>k (.ex i) σ
 | .ret,k,σ=>k .ret σ
 | _,_,_=>none
def LZ (σ:St):ResultVar→Option AV
 | .tmp t=>some (gE σ.τ t)
 | .cell a t=>match gE σ.τ a with
  | .p n off=>match iO σ.L n with
   | some b=>PI P b t off
   | none=>none
  | _=>none
def oP (σ:St):List ResultVar→Option (List Value)
 | []=>some []
 | r::l=>match LZ P σ r with
  | some (.v x)=>match oP σ l with
   | some m=>some (x::m)
   | none=>none
  | _=>none
def resA (σ:St):List ResultVar→Option AV
 | [r]=>LZ P σ r
 | l=>match oP P σ l with
  | some vs=>some (.v (.tuple ⟨vs⟩))
  | none=>none
end
def look {β:Type}:List (FuncId×β)→FuncId→Option β
 | [],_=>none
 | (g,h)::l,f=>cond (alZ g f) (some h) (look l f)
abbrev CP:=List AV→dP→Option (Bool×AV×dP)
abbrev aZ:=List (FuncId×CP)
def evF {α:Type} (P:Program) (E:List (TypeId×Nat)) (C:List FuncId) (O:aZ) (lim:Nat):Nat→FuncId→List AV→dP→Nm→(AV→dP→Option α)→Option α
 | 0,_,_,_,_,_=>none
 | d+1,g,args,L,pre,k=>match look O g with
  | some h=>match h args L with
   | some (b,r,L')=>cond b (k r L') none
   | none=>none
  | none=>match P.funcs[g]? with
   | some fn=>match fn.body with
    | some c=>UP P E C (evF P E C O lim d) lim c (fun e σ=>match e with
      | .ex _=>none
      | _=>match resA P σ fn.results.toList with
       | some r=>k r σ.L
       | none=>none) ⟨args++List.replicate (fn.ntmps-args.length) (.v undef),L,0,pre⟩
    | none=>none
   | none=>none
end Ev
namespace Ev
open Go.RowKit
abbrev kP:=Nm→Option Nat
def cAt (ρ:kP):CV→Option Value
 | .v x=>some x
 | .p n o=>(ρ n).map fun b=>.pointer (some ⟨b,o,none⟩)
def fM (ρ:kP):List CV→Option (List Value)
 | []=>some []
 | x::l=>(cAt ρ x).bind fun v=>(fM ρ l).map (v::·)
def jE (ρ:kP):AV→Option Value
 | .v x=>some x
 | .p n o=>(ρ n).map fun b=>.pointer (some ⟨b,o,none⟩)
 | .c f b c=>(fM ρ b).bind fun vb=>(fM ρ c).map fun vc=>.func (.func f) ⟨vb⟩ ⟨vc⟩
 | .s n o l c=>(ρ n).map fun b=>.slice (some ⟨b,o,none⟩) l c
def fN (ρ:kP):List AV→Option (List Value)
 | []=>some []
 | x::l=>(jE ρ x).bind fun v=>(fN ρ l).map (v::·)
theorem jB:∀{a b:Nm},nZ a b=true↔a=b
 | [],[]=>by simp [nZ]
 | [],_::_=>by simp [nZ]
 | _::_,[]=>by simp [nZ]
 | a::l,b::m=>by
  have ih:=jB (a:=l) (b:=m);simp only [nZ,List.cons.injEq];cases h:alZ a b
  ·simp only [cond_false,Bool.false_eq_true,false_iff,not_and];intro e;subst e;simp at h
  ·simp only [cond_true,ih];have:a=b:=afQ h;simp [this]
theorem nmEq_refl (a:Nm):nZ a a=true:=jB.2 rfl
theorem nmEq_false {a b:Nm}:nZ a b=false↔a≠b:=by
 rw [←Bool.not_eq_true,jB]
theorem gI (m:Nm) (b:nG) (l:dP) (n:Nm):iO ((m,b)::l) n=if m=n then some b else iO l n:=by
 show cond (nZ m n) (some b) (iO l n)=_;cases h:nZ m n
 ·rw [if_neg (nmEq_false.1 h)];rfl
 ·rw [if_pos (jB.1 h)];rfl
theorem zR (a b:dP) (n:Nm):iO (a++b) n=(iO a n).or (iO b n):=by
 induction a with
 | nil=>simp [iO]
 | cons x l ih=>
  obtain ⟨m,y⟩:=x;rw [List.cons_append,gI,gI];split
  ·simp
  ·exact ih
theorem BM {l:List Nm} {n:Nm}:PG l n=true↔n∈l:=by
 unfold PG;rw [awJ];constructor
 ·rintro ⟨x,hx,h⟩;rw [jB] at h;exact h ▸ hx
 ·intro h;exact ⟨n,h,nmEq_refl n⟩
theorem oL {l:dP} {n:Nm}:iO l n=none↔n∉iJ l:=by
 induction l with
 | nil=>simp [iO,iJ]
 | cons x l ih=>
  obtain ⟨m,b⟩:=x;rw [gI];simp only [iJ,bbQ,bbX,not_or] at ih ⊢;split
  ·rename_i h;subst h;simp
  ·rename_i h;rw [ih];exact ⟨fun q=>⟨fun e=>h e.symm,q⟩,fun q=>q.2⟩
def NG (ρ ρ':kP):Prop:=∀n b,ρ n=some b→ρ' n=some b
theorem NG.refl (ρ:kP):NG ρ ρ:=fun _ _ h=>h
theorem NG.trans {a b c:kP} (h:NG a b) (k:NG b c):NG a c:=fun n x q=>k n x (h n x q)
theorem cAt_ext {ρ ρ':kP} (h:NG ρ ρ') {x:CV} {v:Value} (q:cAt ρ x=some v):cAt ρ' x=some v:=by
 cases x with
 | v y=>exact q
 | p n o=>
  simp only [cAt,acX] at q ⊢;obtain ⟨b,h1,h2⟩:=q;exact ⟨b,h n b h1,h2⟩
theorem nI {ρ ρ':kP} (h:NG ρ ρ'):∀{l:List CV} {v:List Value},fM ρ l=some v→fM ρ' l=some v
 | [],_,q=>q
 | x::l,v,q=>by
  simp only [fM,aeQ,acX] at q ⊢;obtain ⟨y,h1,z,h2,h3⟩:=q;exact ⟨y,cAt_ext h h1,z,nI h h2,h3⟩
theorem aAt_ext {ρ ρ':kP} (h:NG ρ ρ') {x:AV} {v:Value} (q:jE ρ x=some v):jE ρ' x=some v:=by
 cases x with
 | v y=>exact q
 | p n o=>exact cAt_ext (x:=.p n o) h q
 | c f b c=>
  simp only [jE,aeQ,acX] at q ⊢;obtain ⟨y,h1,z,h2,h3⟩:=q;exact ⟨y,nI h h1,z,nI h h2,h3⟩
 | s n o l c=>
  simp only [jE,acX] at q ⊢;obtain ⟨b,h1,h2⟩:=q;exact ⟨b,h n b h1,h2⟩
theorem VI {ρ ρ':kP} (h:NG ρ ρ'):∀{l:List AV} {v:List Value},fN ρ l=some v→fN ρ' l=some v
 | [],_,q=>q
 | x::l,v,q=>by
  simp only [fN,aeQ,acX] at q ⊢;obtain ⟨y,h1,z,h2,h3⟩:=q;exact ⟨y,aAt_ext h h1,z,VI h h2,h3⟩
theorem pY {ρ:kP}:∀{l:List CV} {v:List Value},fM ρ l=some v→v.length=l.length
 | [],_,q=>by simp [fM] at q;subst q;rfl
 | x::l,v,q=>by
  simp only [fM,aeQ,acX] at q;obtain ⟨y,h1,z,h2,h3⟩:=q;subst h3;simp [pY h2]
theorem WM {ρ:kP}:∀{l:List CV} {v:List Value} (_:fM ρ l=some v) (i:Nat),(l[i]?).bind (cAt ρ)=v[i]?
 | [],_,q,i=>by simp [fM] at q;subst q;simp
 | x::l,v,q,i=>by
  simp only [fM,aeQ,acX] at q;obtain ⟨y,h1,z,h2,h3⟩:=q;subst h3;cases i with
  | zero=>simp [h1]
  | succ i=>simpa using WM h2 i
theorem vO {ρ:kP}:∀{l m:List CV} {v u:List Value},fM ρ l=some v→fM ρ m=some u→fM ρ (l++m)=some (v++u)
 | [],_,_,_,q,h=>by simp [fM] at q;subst q;simpa using h
 | x::l,m,v,u,q,h=>by
  simp only [List.cons_append,fM,aeQ,acX] at q ⊢;obtain ⟨y,h1,z,h2,h3⟩:=q;subst h3;exact ⟨y,h1,z++u,vO h2 h,rfl⟩
theorem DI {ρ:kP}:∀{l:List CV} {v:List Value} (n:Nat),fM ρ l=some v→fM ρ (l.take n)=some (v.take n)
 | [],_,n,q=>by simp [fM] at q;subst q;simp [fM]
 | x::l,v,0,_=>by simp [fM]
 | x::l,v,n+1,q=>by
  simp only [fM,aeQ,acX,List.take_succ_cons] at q ⊢;obtain ⟨y,h1,z,h2,h3⟩:=q;subst h3;exact ⟨y,h1,z.take n,DI n h2,by simp⟩
theorem DH {ρ:kP}:∀{l:List CV} {v:List Value} (n:Nat),fM ρ l=some v→fM ρ (l.drop n)=some (v.drop n)
 | [],_,n,q=>by simp [fM] at q;subst q;simp [fM]
 | x::l,v,0,q=>by simpa using q
 | x::l,v,n+1,q=>by
  simp only [fM,aeQ,acX] at q;obtain ⟨y,h1,z,h2,h3⟩:=q;subst h3;simpa using DH n h2
theorem VJ {ρ:kP}:∀{l:List AV} {v:List Value} (_:fN ρ l=some v) (i:Nat),(l[i]?).bind (jE ρ)=v[i]?
 | [],_,q,i=>by simp [fN] at q;subst q;simp
 | x::l,v,q,i=>by
  simp only [fN,aeQ,acX] at q;obtain ⟨y,h1,z,h2,h3⟩:=q;subst h3;cases i with
  | zero=>simp [h1]
  | succ i=>simpa using VJ h2 i
theorem vG {ρ:kP}:∀{l:List AV} {v:List Value},fN ρ l=some v→v.length=l.length
 | [],_,q=>by simp [fN] at q;subst q;rfl
 | x::l,v,q=>by
  simp only [fN,aeQ,acX] at q;obtain ⟨y,h1,z,h2,h3⟩:=q;subst h3;simp [vG h2]
theorem iP {ρ:kP}:∀{l m:List AV} {v u:List Value},fN ρ l=some v→fN ρ m=some u→fN ρ (l++m)=some (v++u)
 | [],_,_,_,q,h=>by simp [fN] at q;subst q;simpa using h
 | x::l,m,v,u,q,h=>by
  simp only [List.cons_append,fN,aeQ,acX] at q ⊢;obtain ⟨y,h1,z,h2,h3⟩:=q;subst h3;exact ⟨y,h1,z++u,iP h2 h,rfl⟩
theorem VK {ρ:kP}:∀{l:List AV} {v:List Value} (n:Nat) {x:AV} {u:Value},fN ρ l=some v→jE ρ x=some u→fN ρ (l.set n x)=some (v.set n u)
 | [],_,n,_,_,q,_=>by simp [fN] at q;subst q;simp [fN]
 | x::l,v,0,y,u,q,h=>by
  simp only [fN,aeQ,acX] at q;obtain ⟨y',h1,z,h2,h3⟩:=q;subst h3;simp [fN,h,h2]
 | x::l,v,n+1,y,u,q,h=>by
  simp only [fN,aeQ,acX] at q;obtain ⟨y',h1,z,h2,h3⟩:=q;subst h3;simp [fN,h1,VK n h2 h]
theorem kK {ρ:kP}:∀(l:List Value),fN ρ (l.map AV.v)=some l
 | []=>rfl
 | x::l=>by simp [fN,jE,kK l]
theorem oR {ρ:kP}:∀(l:List Value),fM ρ (l.map CV.v)=some l
 | []=>rfl
 | x::l=>by simp [fM,cAt,oR l]
theorem toA_at {ρ:kP} (x:CV):jE ρ x.toA=cAt ρ x:=by cases x<;>rfl
theorem vH {ρ:kP}:∀(l:List CV),fN ρ (l.map CV.toA)=fM ρ l
 | []=>rfl
 | x::l=>by simp [fN,fM,toA_at,vH l]
theorem JI {ρ:kP} (n:Nat) (x:Value):fN ρ (List.replicate n (.v x))=some (List.replicate n x):=by
 induction n with
 | zero=>rfl
 | succ n ih=>simp [List.replicate_succ,fN,jE,ih]
theorem RC {ρ:kP}:∀{l:List CV} {vs:List Value},allV l=some vs→fM ρ l=some vs
 | [],_,q=>by simp [allV] at q;subst q;rfl
 | .v x::l,vs,q=>by
  simp only [allV] at q;split at q
  ·rename_i r hr;simp only [afJ.injEq] at q;subst q;simp [fM,cAt,RC hr]
  ·cases q
 | .p _ _::_,_,q=>by simp [allV] at q
structure ML (ρ:kP) (L:dP) (w:World):Prop where
 dom:∀n,(ρ n).isSome=(iO L n).isSome
 blk:∀n b k,ρ n=some b→iO L n=some k→∃vs,fM ρ k.cells=some vs∧w.heap[b]? =some (.cells ⟨vs⟩ k.ty (0,0))
 inj:∀n m b,ρ n=some b→ρ m=some b→n=m
 glb:gF w
 far:∀e∈GS,∀n,ρ n≠some e.1
theorem ML.lt {ρ:kP} {L:dP} {w:World} (h:ML ρ L w) {n:Nm} {b:Nat} (q:ρ n=some b):b<w.heap.size:=by
 have hd:=h.dom n;rw [q] at hd;cases hg:iO L n with
 | none=>rw [hg] at hd;cases hd
 | some k=>
  obtain ⟨vs,_,h2⟩:=h.blk n b k q hg;exact (Array.getElem?_eq_some_iff.1 h2).1
theorem ML.congr {ρ:kP} {L L':dP} {w:World} (h:ML ρ L w) (e:∀n,iO L' n=iO L n):ML ρ L' w:=
 ⟨fun n=>by rw [e];exact h.dom n,fun n b k q g=>h.blk n b k q (by rw [←e];exact g),h.inj,h.glb,h.far⟩
def MT (ρ:kP) (τ:List AV) (a:Act):Prop:=a.defers=[]∧fN ρ τ=some a.tmps.toList
structure Nxt (ρ:kP) (w:World) (ρ':kP) (w':World):Prop where
 ext:NG ρ ρ'
 os:w'.os=w.os
 tape:w'.tape=w.tape
 output:w'.output=w.output
 size:w.heap.size≤w'.heap.size
 old:∀k,k<w.heap.size→(∀n,ρ n≠some k)→w'.heap[k]? =w.heap[k]?
 new:∀n b,ρ' n=some b→ρ n=none→w.heap.size≤b
theorem Nxt.refl (ρ:kP) (w:World):Nxt ρ w ρ w:=⟨NG.refl ρ,rfl,rfl,rfl,aaX _,fun _ _ _=>rfl,fun n b h q=>by rw [h] at q;cases q⟩
theorem Nxt.trans {ρ ρ₁ ρ₂:kP} {w w₁ w₂:World} (h:Nxt ρ w ρ₁ w₁) (k:Nxt ρ₁ w₁ ρ₂ w₂):Nxt ρ w ρ₂ w₂ where
 ext:=h.ext.trans k.ext
 os:=k.os.trans h.os
 tape:=k.tape.trans h.tape
 output:=k.output.trans h.output
 size:=alQ h.size k.size
 old:=fun i hi hn=>by
  rw [k.old i (Nat.lt_of_lt_of_le hi h.size) ?_,h.old i hi hn];intro n q;cases hr:ρ n with
  | none=>exact absurd (h.new n i q hr) (by omega)
  | some b=>
   have:=h.ext n b hr;rw [q] at this;cases this;exact hn n hr
 new:=fun n b hb hn=>by
  cases hr:ρ₁ n with
  | none=>exact alQ h.size (k.new n b hb hr)
  | some c=>
   have:=k.ext n c hr;rw [hb] at this;cases this;exact h.new n b hr hn
theorem Nxt.drew {ρ:kP} {w:World}:Nxt ρ w ρ {w with drawn:=w.drawn+1}:=⟨NG.refl ρ,rfl,rfl,rfl,aaX _,fun _ _ _=>rfl,fun n b h q=>by rw [h] at q;cases q⟩
theorem ML.drew {ρ:kP} {L:dP} {w:World} (h:ML ρ L w):ML ρ L {w with drawn:=w.drawn+1}:=⟨h.dom,h.blk,h.inj,h.glb,h.far⟩
def jN (P:Program) (f:FuncId) (args:List AV) (L:dP) (r:AV) (L':dP):Prop:=
 ∀ρ w vs,fN ρ args=some vs→ML ρ L w→Calls P f ⟨vs⟩ w fun e w'=>∃v ρ',e=.returned v∧Nxt ρ w ρ' w'∧jE ρ' r=some v∧ML ρ' L' w'
def CU (P:Program) (all:List Oper) (o:Oper) (τ:List AV) (L:dP) (v:AV) (U:dP) (rd:List Nm):Prop:=
 ∀ρ a w τ0 L0,MT ρ τ0 a→(∀t∈looks all o,gE τ0 t=gE τ t)→ML ρ L0 w→(∀n,n∈rd∨n∈iJ U→iO L0 n=iO L n)→
  ∀next Q,(∀ρ' w' u,Nxt ρ w ρ' w'→jE ρ' v=some u→ML ρ' (U++L0) w'→next (a.put o.dst u) w')→o.wp P a w next Q
theorem IE {ρ:kP} {τ:List AV} {a:Act} (h:MT ρ τ a) (t:Nat):jE ρ (gE τ t)=some (a.tmps.getD t undef):=by
 have:=VJ h.2 t;unfold gE;cases hx:τ[t]? with
 | none=>
  rw [hx] at this;simp only [Option.bind_none] at this;have h2:a.tmps[t]? =none:=by rw [←Array.getElem?_toList];exact this.symm
  simp [jE,h2]
 | some x=>
  rw [hx] at this;simp only [azQ] at this;rw [this];have hl:t<τ.length:=(List.getElem?_eq_some_iff.1 hx).1;have h3:=vG h.2;have h4:t<a.tmps.size:=by simp at h3;omega
  simp [h4]
theorem fK {ρ:kP} {τ:List AV} {a:Act} (h:MT ρ τ a) (x:Operand):jE ρ (mC τ x)=some (a.eval x):=by
 cases x with
 | tmp t=>exact IE h t
 | const x=>rfl
 | global g=>rfl
 | func f=>rfl
theorem cU {τ τ0:List AV} {all:List Oper} {o:Oper} (h:∀t∈looks all o,gE τ0 t=gE τ t) {x:Operand} (hx:x∈o.op.operands):mC τ0 x=mC τ x:=by
 cases x with
 | tmp t=>
  refine h t ?_;unfold looks;refine List.mem_append_left _ (List.mem_filterMap.2 ⟨.tmp t,by simpa using hx,rfl⟩)
 | _=>rfl
theorem MT.put {ρ:kP} {τ:List AV} {a:Act} (h:MT ρ τ a) (d:Option Tmp) {x:AV} {u:Value} (hx:jE ρ x=some u):MT ρ (DY τ d x) (a.put d u):=by
 cases d with
 | none=>exact h
 | some d=>
  refine ⟨h.1,?_⟩;simp only [DY,Act.put,Array.toList_setIfInBounds];exact VK d h.2 hx
theorem MT.ext {ρ ρ':kP} (e:NG ρ ρ') {τ:List AV} {a:Act} (h:MT ρ τ a):MT ρ' τ a:=⟨h.1,VI e h.2⟩
theorem MT.of_get {ρ:kP} {τ τ':List AV} {a:Act} (h:MT ρ τ a) (hl:τ'.length=τ.length) (e:∀t,gE τ' t=gE τ t):MT ρ τ' a:=by
 have:τ'=τ:=by
  apply List.ext_getElem hl;intro i h1 h2;have:=e i;unfold gE at this;rw [List.getElem?_eq_getElem h1,List.getElem?_eq_getElem h2] at this;exact this
 rw [this];exact h
theorem val?_run {α:Type} {P:Program} {s:Sem α} {a:α}:val? P s=some a→∀w,s.run P w=.ok a w:=by
 induction s with
 | pure x=>intro h w;simp only [val?,afJ.injEq] at h;subst h;rfl
 | program k ih=>intro h w;exact ih P h w
 | mark m k ih=>intro h w;exact ih h w
 | _=>intro h;simp [val?] at h
end Ev
namespace Ev
open Go.RowKit
section
variable {P : Program} {all : List Oper} {o : Oper} {τ : List AV} {L : dP}
theorem kO {v:AV} (h:∀ρ a w τ0,MT ρ τ0 a→(∀t∈looks all o,gE τ0 t=gE τ t)→∃u,jE ρ v=some u∧(execOp a.eval o).run P w=.ok (.value u) w):
  CU P all o τ L v [] []:=by
 intro ρ a w τ0 L0 hM hl hL _ next Q hn
 obtain ⟨u,hu,hr⟩:=h ρ a w τ0 hM hl;unfold Oper.wp;rw [hr];exact hn ρ w u (Nxt.refl ρ w) hu (by simpa using hL)
theorem isV_v {x:AV} (h:isV x=true):∃v,x=.v v:=by cases x<;>simp [isV] at h;exact ⟨_,rfl⟩
theorem KE {ρ:kP} {a:Act} {τ0:List AV} (hM:MT ρ τ0 a) (hl:∀t∈looks all o,gE τ0 t=gE τ t) {x:Operand} (hx:x∈o.op.operands) (hv:isV (mC τ x)=true):a.eval x=evV τ x:=by
 have h1:=fK hM x;rw [cU hl hx] at h1;obtain ⟨v,e⟩:=isV_v hv;unfold evV;rw [e] at h1 ⊢;simp only [jE,afJ.injEq] at h1;exact h1.symm
theorem genA_run {v:AV} (hs:∀cs b,o.op≠.select cs b) (h:GI P τ o=some v) {ρ:kP} {a:Act} {τ0:List AV} (hM:MT ρ τ0 a) (hl:∀t∈looks all o,gE τ0 t=gE τ t) (w:World):
  ∃u,jE ρ v=some u∧(execOp a.eval o).run P w=.ok (.value u) w:=by
 unfold GI at h;cases hv:pK τ o.op.operands.toList with
 | false=>rw [hv] at h;cases h
 | true=>
  rw [hv] at h;simp only [cond_true] at h;have e:execOp a.eval o=execOp (evV τ) o:=execOp_congr o hs fun x hx=>KE hM hl hx (by
   unfold pK at hv;rw [aqX] at hv;exact hv x (by simpa using hx))
  split at h
  ·rename_i u hu;simp only [afJ.injEq] at h;subst h;exact ⟨u,rfl,by rw [e];exact val?_run hu w⟩
  ·cases h
theorem opS_gen {v:AV} (hs:∀cs b,o.op≠.select cs b) (h:GI P τ o=some v):CU P all o τ L v [] []:=
 kO fun _ _ w _ hM hl=>genA_run hs h hM hl w
theorem opS_ev {x:Operand} (hx:x∈o.op.operands) (hr:∀ρ:Operand→Value,execOp ρ o=pure (.value (ρ x))):CU P all o τ L (mC τ x) [] []:=
 kO fun ρ a w τ0 hM hl=>by
  have h1:=fK hM x;rw [cU hl hx] at h1;exact ⟨a.eval x,h1,by rw [hr];rfl⟩
theorem opS_move {x:Operand} (ho:o.op=.move x):CU P all o τ L (mC τ x) [] []:=
 opS_ev (by simp [ho,Op.operands]) fun ρ=>by simp [execOp,ho]
theorem opS_assign {x:Operand} (ho:o.op=.assign x):CU P all o τ L (mC τ x) [] []:=
 opS_ev (by simp [ho,Op.operands]) fun ρ=>by simp [execOp,ho]
theorem opS_pick {c x y:Operand} {t:Bool} (ho:o.op=.pick c x y) (hc:mC τ c=.v (.bool t)):CU P all o τ L (cond t (mC τ x) (mC τ y)) [] []:=
 kO fun ρ a w τ0 hM hl=>by
  have h1:=fK hM c;rw [cU hl (by simp [ho,Op.operands]),hc] at h1;have h1:a.eval c=.bool t:=by simpa [jE] using h1.symm
  have h2:=fK hM x;rw [cU hl (by simp [ho,Op.operands])] at h2;have h3:=fK hM y;rw [cU hl (by simp [ho,Op.operands])] at h3;cases t
  ·exact ⟨a.eval y,h3,by simp [execOp,ho,h1,asBool]⟩
  ·exact ⟨a.eval x,h2,by simp [execOp,ho,h1,asBool]⟩
theorem NR {s f:Nat} {x:Operand} {n:Nm} {off d:Nat} (ho:o.op=.fieldAddr s x f) (hx:mC τ x=.p n off) (hf:fieldA P s f=some d):CU P all o τ L (.p n (off+d)) [] []:=
 kO fun ρ a w τ0 hM hl=>by
  have h1:=fK hM x;rw [cU hl (by simp [ho,Op.operands]),hx] at h1;simp only [jE,acX] at h1;obtain ⟨b,hb,e⟩:=h1;unfold fieldA at hf;split at hf
  ·rename_i fs hu;split at hf
   ·rename_i fd hfd;split at hf
    ·rename_i i hi;cases hz:alZ i.size 0 with
     | true=>rw [hz] at hf;cases hf
     | false=>
      rw [hz] at hf;simp only [cond_false,afJ.injEq] at hf;subst hf;have hne:i.size≠0:=by intro q;rw [q] at hz;cases hz
      refine ⟨.pointer (some ⟨b,off+fd.offset,none⟩),by simp [jE,hb],?_⟩;simp [execOp,ho,Instr.fieldAt,run_underlying hu,hfd,←e,Instr.sureAddr,fieldPlace,sizeOf,typeInfo,hi,hne,Addr.add_mid]
    ·cases hf
   ·cases hf
  ·cases hf
theorem NU {t:Nat} {x y:Operand} {n:Nm} {k:IntKind} {ix:Int} {off d:Nat} (ho:o.op=.indexAddr t x y) (hx:mC τ x=.p n off) (hy:mC τ y=.v (.int k ix)) (hf:indexA P t ix=some d):CU P all o τ L (.p n (off+d)) [] []:=
 kO fun ρ a w τ0 hM hl=>by
  have h1:=fK hM x;rw [cU hl (by simp [ho,Op.operands]),hx] at h1;simp only [jE,acX] at h1;obtain ⟨b,hb,e⟩:=h1;have h2:=fK hM y;rw [cU hl (by simp [ho,Op.operands]),hy] at h2;have h2:a.eval y=.int k ix:=by simpa [jE] using h2.symm
  unfold indexA at hf;split at hf
  ·rename_i len el hu;split at hf
   ·rename_i i hi;split at hf
    ·rename_i j _;cases hz:awX (j+1) len with
     | false=>rw [hz] at hf;cases hf
     | true=>
      rw [hz] at hf;simp only [cond_true,afJ.injEq] at hf;subst hf;have hlt:j+1≤len:=amX hz;refine ⟨.pointer (some ⟨b,off+j*i.size,none⟩),by simp [jE,hb],?_⟩;have h3:(0:Int)≤Int.ofNat j∧Int.ofNat j<(len:Int):=by
       constructor
       ·exact Int.natCast_nonneg j
       ·show (j:Int)<len;omega
      have h4:(Int.ofNat j)<(len:Int):=h3.2;simp [execOp,ho,Instr.indexAt,asIntOf,h2,run_underlying hu,←e,Instr.sureAddr,sizeOf,typeInfo,hi,Addr.add_mid];omega
    ·cases hf
   ·cases hf
  ·cases hf
theorem LQ {t:Nat} {x y:Operand} {n:Nm} {k:IntKind} {ix:Int} {off len cp d:Nat} (ho:o.op=.indexAddr t x y) (hx:mC τ x=.s n off len cp) (hy:mC τ y=.v (.int k ix)) (hf:indexS P t len ix=some d):CU P all o τ L (.p n (off+d)) [] []:=
 kO fun ρ a w τ0 hM hl=>by
  have h1:=fK hM x;rw [cU hl (by simp [ho,Op.operands]),hx] at h1;simp only [jE,acX] at h1;obtain ⟨b,hb,e⟩:=h1;have h2:=fK hM y;rw [cU hl (by simp [ho,Op.operands]),hy] at h2;have h2:a.eval y=.int k ix:=by simpa [jE] using h2.symm
  unfold indexS at hf;split at hf
  ·rename_i el hu;split at hf
   ·rename_i i hi;split at hf
    ·rename_i j _;cases hz:awX (j+1) len with
     | false=>rw [hz] at hf;cases hf
     | true=>
      rw [hz] at hf;simp only [cond_true,afJ.injEq] at hf;subst hf;have hlt:j+1≤len:=amX hz;refine ⟨.pointer (some ⟨b,off+j*i.size,none⟩),by simp [jE,hb],?_⟩;simp [execOp,ho,Instr.indexAt,asIntOf,h2,run_underlying hu,←e,sizeOf,typeInfo,hi,Addr.add_mid];omega
    ·cases hf
   ·cases hf
  ·cases hf
theorem DD {ρ:kP} {a:Act} {τ0:List AV} (hM:MT ρ τ0 a) (hl:∀t∈looks all o,gE τ0 t=gE τ t) {d k:Nat} {x:Operand} (hx:x∈o.op.operands) (h:bound τ d (some x)=some k):∃q,a.eval x=.int q (k:Int):=by
 simp only [bound] at h;split at h
 ·rename_i q j e;simp only [afJ.injEq] at h;subst h;have h1:=fK hM x;rw [cU hl hx,e] at h1;exact ⟨q,by simpa [jE] using h1.symm⟩
 ·cases h
theorem uF {ρ:kP} {a:Act} {τ0:List AV} (hM:MT ρ τ0 a) (hl:∀t∈looks all o,gE τ0 t=gE τ t) {is:Bool} {len m l h:Nat} {lo hi:Option Operand} (h1:∀x,lo=some x→x∈o.op.operands) (h2:∀x,hi=some x→x∈o.op.operands)
  (hlo:bound τ 0 lo=some l) (hhi:bound τ len hi=some h) (hlh:l≤h) (hhm:h≤m) (w:World):(Instr.sliceBounds is len m (lo.map a.eval) (hi.map a.eval) none).run P w=.ok (l,h,m) w:=by
 have sb:∀(x:Operand) (q:IntKind) (v y:Nat) (c:BoundsCode),a.eval x=.int q (v:Int)→v≤y→(Instr.sliceBound (a.eval x) y c).run P w=.ok v w:=fun x q v y c e hv=>by
  simp [Instr.sliceBound,e,asIntOf];omega
 cases lo with
 | none=>
  simp only [bound,afJ.injEq] at hlo;subst hlo;cases hi with
  | none=>
   simp only [bound,afJ.injEq] at hhi;subst hhi;simp [Instr.sliceBounds]
  | some y=>
   obtain ⟨q,e⟩:=DD hM hl (h2 y rfl) hhi;simp [Instr.sliceBounds,sb y q h m _ e hhm]
 | some x=>
  obtain ⟨q',e'⟩:=DD hM hl (h1 x rfl) hlo;cases hi with
  | none=>
   simp only [bound,afJ.injEq] at hhi;subst hhi;simp [Instr.sliceBounds,sb x q' l len _ e' hlh]
  | some y=>
   obtain ⟨q,e⟩:=DD hM hl (h2 y rfl) hhi;simp [Instr.sliceBounds,sb y q h m _ e hhm,sb x q' l h _ e' hlh]
theorem opS_slice {t:Nat} {x:Operand} {lo hi:Option Operand} {v:AV} (ho:o.op=.slice t x lo hi none) (hv:sliceA P τ t (mC τ x) lo hi=some v):CU P all o τ L v [] []:=
 kO fun ρ a w τ0 hM hl=>by
  have h1:=fK hM x;rw [cU hl (by simp [ho,Op.operands])] at h1;have m1:∀y,lo=some y→y∈o.op.operands:=fun y e=>by subst e;simp [ho,Op.operands]
  have m2:∀y,hi=some y→y∈o.op.operands:=fun y e=>by subst e;simp [ho,Op.operands]
  unfold sliceA at hv;split at hv
  ·rename_i n off m e hx hu;rw [hx] at h1;simp only [jE,acX] at h1;obtain ⟨b,hb,ex⟩:=h1;split at hv
   ·rename_i i l h hi' hlo hhi;cases hc:(awX l h&&awX h m) with
    | false=>rw [hc] at hv;cases hv
    | true=>
     rw [hc] at hv;simp only [cond_true,afJ.injEq] at hv;subst hv;simp only [Bool.and_eq_true] at hc;have c1:l≤h:=amX hc.1;have c2:h≤m:=amX hc.2;have hr:=uF (P:=P) (is:=false) hM hl m1 m2 hlo hhi c1 c2 w;refine ⟨.slice (some ⟨b,cond (alZ m l) off (off+l*i.size),none⟩) (h-l) (m-l),by simp [jE,hb],?_⟩;cases hm:alZ m l with
     | true=>
      have:m=l:=afQ hm;subst this;simp [execOp,ho,Instr.sliceAt,run_underlying hu,←ex,Instr.sureAddr,hr,sizeOf,typeInfo,hi']
     | false=>
      have:m≠l:=fun q=>by subst q;simp at hm
      simp [execOp,ho,Instr.sliceAt,run_underlying hu,←ex,Instr.sureAddr,hr,sizeOf,typeInfo,hi',this,Addr.add_mid]
   ·cases hv
  ·rename_i n off len m e hx hu;rw [hx] at h1;simp only [jE,acX] at h1;obtain ⟨b,hb,ex⟩:=h1;split at hv
   ·rename_i i l h hi' hlo hhi;cases hc:(awX l h&&awX h m) with
    | false=>rw [hc] at hv;cases hv
    | true=>
     rw [hc] at hv;simp only [cond_true,afJ.injEq] at hv;subst hv;simp only [Bool.and_eq_true] at hc;have c1:l≤h:=amX hc.1;have c2:h≤m:=amX hc.2;have hr:=uF (P:=P) (is:=true) hM hl m1 m2 hlo hhi c1 c2 w;refine ⟨.slice (some ⟨b,cond (alZ m l) off (off+l*i.size),none⟩) (h-l) (m-l),by simp [jE,hb],?_⟩;cases hm:alZ m l with
     | true=>
      have:m=l:=afQ hm;subst this;simp [execOp,ho,Instr.sliceAt,Instr.slice,run_underlying hu,←ex,hr,sizeOf,typeInfo,hi']
     | false=>
      have:m≠l:=fun q=>by subst q;simp at hm
      simp [execOp,ho,Instr.sliceAt,Instr.slice,run_underlying hu,←ex,hr,sizeOf,typeInfo,hi',this,Addr.add_mid]
   ·cases hv
  ·cases hv
theorem opS_len {c:Call} {v:AV} (ho:o.op=.call c) (hv:lenA P τ c=some v):CU P all o τ L v [] []:=
 kO fun ρ a w τ0 hM hl=>by
  unfold lenA at hv;split at hv
  ·rename_i x t hc ha ht;split at hv
   ·rename_i n off len cp e hx hu;simp only [afJ.injEq] at hv;subst hv;have hm:x∈o.op.operands:=by
     simp only [ho,Op.operands,Call.operands];refine Array.mem_append.2 (.inr ?_);have:x∈c.args.toList:=by rw [ha];simp
     simpa using this
    have h1:=fK hM x;rw [cU hl hm,hx] at h1;simp only [jE,acX] at h1;obtain ⟨b,hb,ex⟩:=h1;have ea:c.args= #[x]:=by apply asJ.1;rw [ha]
    have et:c.argTypes= #[t]:=by apply asJ.1;rw [ht]
    refine ⟨_,rfl,?_⟩;simp [execOp,ho,resolve,hc,ea,et,invoke,builtin,Builtin.len_,run_underlying hu,←ex,goInt]
   ·cases hv
  ·cases hv
theorem opS_nil {x:Operand} (ho:o.op=.nilCheck x) (hx:∀v,mC τ x≠.v v):CU P all o τ L (mC τ x) [] []:=
 kO fun ρ a w τ0 hM hl=>by
  have h1:=fK hM x;rw [cU hl (by simp [ho,Op.operands])] at h1;refine ⟨a.eval x,h1,?_⟩;cases hq:mC τ x with
  | v v=>exact absurd hq (hx v)
  | p n off=>
   rw [hq] at h1;simp only [jE,acX] at h1;obtain ⟨b,hb,e⟩:=h1;simp [execOp,ho,←e]
  | c f b c=>
   rw [hq] at h1;simp only [jE,aeQ,acX] at h1;obtain ⟨y,h1,z,h2,h3⟩:=h1;simp [execOp,ho,←h3]
  | s n off l c=>
   rw [hq] at h1;simp only [jE,acX] at h1;obtain ⟨b,hb,e⟩:=h1;simp [execOp,ho,←e]
theorem opS_div {op:BinOp} {t yt:Nat} {x y:Operand} {q:Bool} {a b:Int} (ho:o.op=.binOp op t x y yt) (hq:divOp op=some q) (hx:mC τ x=.v (.int .i64 a)) (hy:mC τ y=.v (.int .i64 b)) (hb:b≠0):
  CU P all o τ L (.v (.int .i64 (cond q (IntKind.i64.wrap (a.tdiv b)) (a.tmod b)))) [] []:=
 kO fun ρ c w τ0 hM hl=>by
  refine ⟨_,rfl,?_⟩;have h1:=fK hM x;rw [cU hl (by simp [ho,Op.operands]),hx] at h1;have h1:c.eval x=.int .i64 a:=by simpa [jE] using h1.symm
  have h2:=fK hM y;rw [cU hl (by simp [ho,Op.operands]),hy] at h2;have h2:c.eval y=.int .i64 b:=by simpa [jE] using h2.symm
  cases op<;>simp [divOp] at hq;all_goals
   subst hq;simp [execOp,ho,h1,h2,eqGuard,binOp,Op.intDiv,hb]
theorem opS_build {t:Nat} {ps:Array (Nat×Operand)} {cells:Array Value} (ho:o.op=.build t ps) (hv:pK τ (ps.toList.map (·.2))=true)
  (hb:P.built t (ps.toList.map fun q=>(q.1,evV τ q.2))=some cells):CU P all o τ L (.v (.agg cells)) [] []:=
 kO fun ρ a w τ0 hM hl=>by
  refine ⟨_,rfl,?_⟩;have e:(ps.map fun (i,x)=>(i,a.eval x)).toList=ps.toList.map fun q=>(q.1,evV τ q.2):=by
   rw [Array.toList_map];refine List.map_congr_left fun q hq=>?_;obtain ⟨i,x⟩:=q;simp only;rw [KE (τ:=τ) hM hl (x:=x)]
   ·rw [ho];simp only [Op.operands];have:x∈ps.toList.map (·.2):=List.mem_map.2 ⟨(i,x),hq,rfl⟩;simpa using this
   ·unfold pK at hv;rw [aqX] at hv;exact hv x (List.mem_map.2 ⟨(i,x),hq,rfl⟩)
  have:=run_build (P:=P) w t (ps.map fun (i,x)=>(i,a.eval x)) cells (by rw [e];exact hb);simp [execOp,ho,this]
theorem opS_eq {op:BinOp} {t yt:Nat} {x y:Operand} {xs ys:Array Value} {b r:Bool} (hE:∀w,(Op.equalIn 10000 t (.agg xs) (.agg ys)).run P w=.ok r w) (hg:P.eqGuardType P.depth t=false)
  (ho:o.op=.binOp op t x y yt) (hop:isEq op=some b) (hx:mC τ x=.v (.agg xs)) (hy:mC τ y=.v (.agg ys)):CU P all o τ L (.v (.bool (cond b r (!r)))) [] []:=
 kO fun ρ a w τ0 hM hl=>by
  refine ⟨_,rfl,?_⟩;have h1:=fK hM x;rw [cU hl (by simp [ho,Op.operands]),hx] at h1;have h1:a.eval x=.agg xs:=by simpa [jE] using h1.symm
  have h2:=fK hM y;rw [cU hl (by simp [ho,Op.operands]),hy] at h2;have h2:a.eval y=.agg ys:=by simpa [jE] using h2.symm
  have hge:=run_eqGuard_agg (P:=P) w op t x y xs ys hg;cases op<;>simp [isEq] at hop;all_goals
   subst hop;simp [execOp,ho,h1,h2,hge,run_eql_struct,run_neq_struct,hE,Result.andThen]
theorem ML.alloc {ρ:kP} {w:World} (h:ML ρ L w) {nm:Nm} (hn:iO L nm=none) {cs:List CV} {vs:List Value} (hc:fM ρ cs=some vs) (t:TypeId):
  ∃ρ',ρ' nm=some w.heap.size∧Nxt ρ w ρ' (w.alloc (.cells ⟨vs⟩ t))∧ML ρ' ((nm,⟨cs,t⟩)::L) (w.alloc (.cells ⟨vs⟩ t)):=by
 have hρ:ρ nm=none:=by
  have:=h.dom nm;rw [hn] at this;cases hq:ρ nm with
  | none=>rfl
  | some b=>rw [hq] at this;cases this
 have hext:NG ρ (fun m=>if nm=m then some w.heap.size else ρ m):=fun m b q=>by
  (try dsimp only)
  rw [if_neg (fun e=>by rw [←e,hρ] at q;cases q)];exact q
 refine ⟨fun m=>if nm=m then some w.heap.size else ρ m,by simp,⟨hext,rfl,rfl,rfl,by simp,fun k hk _=>heap_alloc_old w _ k hk,?_⟩,⟨?_,?_,?_,h.glb.of fun g hg _=>heap_alloc_old w _ g hg,fun e he m q=>?_⟩⟩
 ·intro m b q q2
  (try dsimp only at q)
  split at q
  ·cases q;exact aaX _
  ·rw [q2] at q;cases q
 ·intro m;rw [gI]
  (try dsimp only)
  split
  ·rfl
  ·exact h.dom m
 ·intro m b k q hg
  (try dsimp only at q)
  rw [gI] at hg;split at q
  ·rename_i e;rw [if_pos e] at hg;cases hg;cases q;exact ⟨vs,nI hext hc,heap_alloc_new w _⟩
  ·rename_i e;rw [if_neg e] at hg;obtain ⟨us,h1,h2⟩:=h.blk m b k q hg;exact ⟨us,nI hext h1,by rw [heap_alloc_old w _ b (h.lt q)];exact h2⟩
 ·intro m m' b q q'
  (try dsimp only at q q')
  split at q<;>split at q'
  ·rename_i e e';exact e.symm.trans e'
  ·cases q;exact absurd (h.lt q') (by omega)
  ·cases q';exact absurd (h.lt q) (by omega)
  ·exact h.inj m m' b q q'
 ·(try dsimp only at q)
  split at q
  ·have:=h.glb.lt he;simp only [afJ.injEq] at q;omega
  ·exact h.far e he m q
theorem ML.set {ρ:kP} {w:World} (h:ML ρ L w) {n:Nm} {b:Nat} (hn:ρ n=some b) {k:nG} (hk:iO L n=some k) {cs:List CV} {vs:List Value} (hc:fM ρ cs=some vs):
  Nxt ρ w ρ (w.setRow b ⟨vs⟩)∧ML ρ ((n,⟨cs,k.ty⟩)::L) (w.setRow b ⟨vs⟩):=by
 obtain ⟨us,_,h2⟩:=h.blk n b k hn hk;refine ⟨⟨NG.refl ρ,rfl,rfl,rfl,by simp,fun j _ hj=>setRow_other w b j _ (fun e=>hj n (by rw [e];exact hn)),fun m c q q'=>by rw [q] at q';cases q'⟩,⟨?_,?_,h.inj,h.glb.of fun g _ hx=>setRow_other w b g _ (fun q=>by obtain ⟨e,he,h5⟩:=hx;exact h.far e he n (by rw [hn,h5,q])),h.far⟩⟩
 ·intro m;rw [gI];split
  ·rename_i e;subst e;rw [hn];rfl
  ·exact h.dom m
 ·intro m c l q hg;rw [gI] at hg;split at hg
  ·rename_i e;subst e;cases hg;rw [hn] at q;cases q;exact ⟨vs,hc,setRow_heap w b _ _ _ _ h2⟩
  ·rename_i e;obtain ⟨zs,h3,h4⟩:=h.blk m c l q hg;refine ⟨zs,h3,?_⟩;rw [setRow_other w b c _ (fun e2=>e (h.inj n m b hn (by rw [←e2];exact q)))];exact h4
theorem MW {ρ:kP} {x:AV} {cs:List CV} {v:Value} (h:xX x=some cs) (hx:jE ρ x=some v):fM ρ cs=some v.cells.toList:=by
 cases x with
 | v y=>
  simp only [xX,afJ.injEq,jE] at h hx;subst h hx;exact oR _
 | p n o=>
  simp only [xX,afJ.injEq] at h;subst h;simp only [jE,acX] at hx;obtain ⟨b,hb,e⟩:=hx;subst e;simp [fM,cAt,hb,Value.cells]
 | c f b c=>cases h
 | s n o l c=>cases h
theorem opS_box {t:Nat} {x:Operand} {nm:Nm} {cs:List CV} (ho:o.op=.box t x) (hc:xX (mC τ x)=some cs) (hn:iO L nm=none):
  CU P all o τ L (.p nm 0) [(nm,⟨cs,t⟩)] []:=by
 intro ρ a w τ0 L0 hM hl hL hag next Q hnx
 have h1:=fK hM x;rw [cU hl (by simp [ho,Op.operands])] at h1;have hcs:=MW hc h1;have hn0:iO L0 nm=none:=by rw [hag nm (.inr (by simp [iJ]))];exact hn
 obtain ⟨ρ',h2,h3,h4⟩:=hL.alloc hn0 hcs t;unfold Oper.wp;have:(execOp a.eval o).run P w=.ok (.value (.pointer (some ⟨w.heap.size,0,none⟩))) (w.alloc (.cells ⟨(a.eval x).cells.toList⟩ t)):=by
  simp [execOp,ho,Instr.box,newVar,newRow,newObj,Sem.run]
 rw [this];exact hnx ρ' _ _ h3 (by simp [jE,h2]) h4
theorem opS_alloc {t:Nat} {nm:Nm} {i:TypeInfo} {z:Value} (ho:o.op=.alloc t) (hi:P.info? t=some i) (hz:i.zero=some z) (hn:iO L nm=none):
  CU P all o τ L (.p nm 0) [(nm,⟨z.cells.toList.map CV.v,t⟩)] []:=by
 intro ρ a w τ0 L0 hM hl hL hag next Q hnx
 have hn0:iO L0 nm=none:=by rw [hag nm (.inr (by simp [iJ]))];exact hn
 obtain ⟨ρ',h2,h3,h4⟩:=hL.alloc hn0 (oR (ρ:=ρ) z.cells.toList) t;unfold Oper.wp;have:(execOp a.eval o).run P w=.ok (.value (.pointer (some ⟨w.heap.size,0,none⟩))) (w.alloc (.cells ⟨z.cells.toList⟩ t)):=by
  simp [execOp,ho,Instr.alloc,newVar,newRow,newObj,Sem.run,zeroValue,typeInfo,hi,hz]
 rw [this];exact hnx ρ' _ _ h3 (by simp [jE,h2]) h4
theorem LP {t n:Nat} {ps:Array (Nat×Operand)} {nm:Nm} {e:TypeId} {cells:Array Value} (ho:o.op=.buildSlice t n ps) (hv:pK τ (ps.toList.map (·.2))=true)
  (hb:MS P t n (ps.toList.map fun q=>(q.1,evV τ q.2))=some (e,cells)) (hn:iO L nm=none):CU P all o τ L (.s nm 0 n n) [(nm,⟨cells.toList.map CV.v,e⟩)] []:=by
 intro ρ a w τ0 L0 hM hl hL hag next Q hnx
 have hn0:iO L0 nm=none:=by rw [hag nm (.inr (by simp [iJ]))];exact hn
 obtain ⟨ρ',h2,h3,h4⟩:=hL.alloc hn0 (oR (ρ:=ρ) cells.toList) e;have ep:(ps.map fun (i,x)=>(i,a.eval x)).toList=ps.toList.map fun q=>(q.1,evV τ q.2):=by
  rw [Array.toList_map];refine List.map_congr_left fun q hq=>?_;obtain ⟨i,x⟩:=q;simp only;rw [KE (τ:=τ) hM hl (x:=x)]
  ·rw [ho];simp only [Op.operands];have:x∈ps.toList.map (·.2):=List.mem_map.2 ⟨(i,x),hq,rfl⟩;simpa using this
  ·unfold pK at hv;rw [aqX] at hv;exact hv x (List.mem_map.2 ⟨(i,x),hq,rfl⟩)
 unfold MS at hb;split at hb
 ·rename_i el hu;split at hb
  ·rename_i i hi;split at hb
   ·rename_i z hz;cases hc:(alZ (n*i.size) 0||awX 16777216 (n*i.size)) with
    | true=>rw [hc] at hb;cases hb
    | false=>
     rw [hc] at hb;simp only [cond_false] at hb;split at hb
     ·rename_i cs hf;simp only [afJ.injEq,Prod.mk.injEq] at hb;obtain ⟨rfl,rfl⟩:=hb;simp only [Bool.or_eq_false_iff] at hc;have c1:¬n*i.size=0:=fun q=>by rw [q] at hc;simp at hc
      have c2:¬n*i.size>2^24:=fun q=>by
       have:awX 16777216 (n*i.size)=true:=Nat.ble_eq_true_of_le (by omega);rw [this] at hc;exact absurd hc.2 (by simp)
      refine wp_buildSlice t el n ps ho cs i z hu hi hz c2 c1 (by rw [ep];exact hf) ?_;exact hnx ρ' _ _ h3 (by simp [jE,h2]) h4
     ·cases hb
   ·cases hb
  ·cases hb
 ·cases hb
theorem pQ {ρ:kP} {w:World} {b:Nat} {k:nG} {t:TypeId} {off:Nat} {v:AV} (h:PI P k t off=some v) {vs:List Value} (hc:fM ρ k.cells=some vs)
  {ty:TypeId} {fz:Nat×Nat} (hb:w.heap[b]? =some (.cells ⟨vs⟩ ty fz)):∃u,jE ρ v=some u∧(loadVar t ⟨b,off,none⟩).run P w=.ok u w:=by
 unfold PI at h;split at h
 ·rename_i d i hu hi;cases hd:d.isRow with
  | true=>
   rw [hd] at h;simp only [cond_true] at h;split at h
   ·rename_i us hus;cases hl:alZ us.length i.size with
    | false=>rw [hl] at h;cases h
    | true=>
     rw [hl] at h;simp only [cond_true,afJ.injEq] at h;subst h;have hlen:us.length=i.size:=afQ hl;have e:us=(vs.drop off).take i.size:=by
      have h1:=RC (ρ:=ρ) hus;have h2:fM ρ (takeC k.cells off i.size)=some ((vs.drop off).take i.size):=DI _ (DH _ hc);rw [h1] at h2;exact afJ.inj h2
     refine ⟨_,rfl,?_⟩;refine run_loadVar_mid w b off t us d ?_ hu hd (by rw [hi,hlen];rfl);intro j u hj;rw [e,List.getElem?_take] at hj;split at hj
     ·rw [List.getElem?_drop] at hj;simp only [World.cell?,hb];simpa using hj
     ·cases hj
   ·cases h
  | false=>
   rw [hd] at h;simp only [cond_false] at h;split at h
   ·rename_i c hcell;simp only [afJ.injEq] at h;subst h;have h1:=WM hc off;rw [hcell] at h1;simp only [azQ] at h1;have hlt:off<vs.length:=by
     have:=pY hc;have:=(List.getElem?_eq_some_iff.1 hcell).1;omega
    rw [List.getElem?_eq_getElem hlt] at h1;refine ⟨vs[off],by rw [toA_at];exact h1,?_⟩;have hcl:w.cell? ⟨b,off,none⟩=some vs[off]:=by simp [World.cell?,hb,hlt]
    have hagg:(isAgg t).run P w=.ok false w:=by
     unfold isAgg;rw [Sem.run_bind,run_underlying hu w];cases d<;>simp_all [TypeDesc.isRow]
    simp [loadVar,Sem.run_bind,hagg,load,Sem.run,hcl]
   ·cases h
 ·cases h
theorem opS_load {t:Nat} {x:Operand} {n:Nm} {off:Nat} {k:nG} {v:AV} (ho:o.op=.load t x) (hx:mC τ x=.p n off) (hk:iO L n=some k) (hv:PI P k t off=some v):
  CU P all o τ L v [] [n]:=by
 intro ρ a w τ0 L0 hM hl hL hag next Q hnx
 have h1:=fK hM x;rw [cU hl (by simp [ho,Op.operands]),hx] at h1;simp only [jE,acX] at h1;obtain ⟨b,hb,e⟩:=h1;have hk0:iO L0 n=some k:=by rw [hag n (.inl (by simp))];exact hk
 obtain ⟨vs,h2,h3⟩:=hL.blk n b k hb hk0;obtain ⟨u,h4,h5⟩:=pQ hv h2 h3;unfold Oper.wp;have:(execOp a.eval o).run P w=.ok (.value u) w:=by
  simp [execOp,ho,Instr.loadAt,←e,Instr.sureAddr,h5]
 rw [this];exact hnx ρ w u (Nxt.refl ρ w) h4 (by simpa using hL)
theorem opS_glob {t g:Nat} {x:Operand} {v:AV} (ho:o.op=.load t x) (hx:mC τ x=.v (.pointer (some ⟨g,0,none⟩))) (hv:globA P t g=some v):
  CU P all o τ L v [] []:=by
 intro ρ a w τ0 L0 hM hl hL hag next Q hnx
 have h1:=fK hM x;rw [cU hl (by simp [ho,Op.operands]),hx] at h1;simp only [jE,afJ.injEq] at h1;unfold globA at hv;split at hv
 ·rename_i vs hg;obtain ⟨ty,fz,h3⟩:=hL.glb _ (PE hg);obtain ⟨u,h4,h5⟩:=pQ hv (oR (ρ:=ρ) vs) h3;unfold Oper.wp;have:(execOp a.eval o).run P w=.ok (.value u) w:=by
   simp [execOp,ho,Instr.loadAt,←h1,Instr.sureAddr,h5]
  rw [this];exact hnx ρ w u (Nxt.refl ρ w) h4 (by simpa using hL)
 ·cases hv
theorem one_at {ρ:kP}:∀{cs:List CV} {vs:List Value},fM ρ cs=some vs→cs.all one=true→∀v∈vs,v.oneCell'=true
 | [],_,q,_=>by simp [fM] at q;subst q;simp
 | x::l,vs,q,h=>by
  simp only [fM,aeQ,acX] at q;obtain ⟨y,h1,z,h2,h3⟩:=q;subst h3;simp only [List.all_cons,Bool.and_eq_true] at h;intro v hv;rw [bbX] at hv;rcases hv with rfl | hv
  ·cases x with
   | v a=>simp only [cAt,afJ.injEq] at h1;subst h1;exact h.1
   | p n o=>
    simp only [cAt,acX] at h1;obtain ⟨b,_,e⟩:=h1;subst e;rfl
  ·exact one_at h2 h.2 v hv
theorem opS_store {t:Nat} {x y:Operand} {n:Nm} {off:Nat} {k k':nG} (ho:o.op=.store t x y) (hx:mC τ x=.p n off) (hk:iO L n=some k) (hv:storeA P k t off (mC τ y)=some k'):
  CU P all o τ L (.v undef) [(n,k')] []:=by
 intro ρ a w τ0 L0 hM hl hL hag next Q hnx
 have h1:=fK hM x;rw [cU hl (by simp [ho,Op.operands]),hx] at h1;simp only [jE,acX] at h1;obtain ⟨b,hb,e⟩:=h1;have h2:=fK hM y;rw [cU hl (by simp [ho,Op.operands])] at h2;have hk0:iO L0 n=some k:=by rw [hag n (.inr (by simp [iJ]))];exact hk
 obtain ⟨vs,h3,h4⟩:=hL.blk n b k hb hk0;unfold storeA at hv;split at hv
 ·rename_i cs i hcs hi;have hc:=MW hcs h2;cases hq:(alZ cs.length i.size&&awX (off+i.size) k.cells.length&&cs.all one) with
  | false=>rw [hq] at hv;cases hv
  | true=>
   rw [hq] at hv;simp only [cond_true,afJ.injEq] at hv;subst hv;simp only [Bool.and_eq_true] at hq;have q1:cs.length=i.size:=afQ hq.1.1;have q2:off+i.size≤k.cells.length:=amX hq.1.2;have q3:=pY h3;have q4:=pY hc;have hst:=run_storeCells_at P b off k.ty (a.eval y).cells.toList 0 ⟨vs⟩ w h4 (by simp at q4 ⊢;omega) (one_at hc hq.2);have hnew:fM ρ (k.cells.take off++cs++k.cells.drop (off+cs.length))=some (vs.take off++(a.eval y).cells.toList++vs.drop (off+cs.length)):=
    vO (vO (DI _ h3) hc) (DH _ h3)
   obtain ⟨g1,g2⟩:=hL.set hb hk0 hnew;unfold Oper.wp;have:(execOp a.eval o).run P w=.ok .skip (w.setRow b ⟨vs.take off++(a.eval y).cells.toList++vs.drop (off+cs.length)⟩):=by
    have e1:(a.eval y).cells.size=i.size:=by simp at q4;omega
    have e2:off+(a.eval y).cells.toList.length=off+cs.length:=by rw [q4]
    simp only [atX] at hst;rw [e2] at hst;simp only [execOp,ho,Instr.storeAt,←e,Instr.sureAddr,storeVar,sizeOf,typeInfo];simp [hi,e1,hst]
   rw [this];exact hnx ρ _ _ g1 rfl g2
 ·cases hv
end
end Ev
namespace Ev
open Go.RowKit
def cut (ρ:kP) (ks:List Nm):kP:=fun n=>cond (PG ks n) (ρ n) none
theorem JU {ρ:kP} {ks:List Nm} {n:Nm} (h:PG ks n=true):cut ρ ks n=ρ n:=by unfold cut;rw [h];rfl
theorem lG {ρ:kP} {ks:List Nm} {n:Nm} {b:Nat} (h:cut ρ ks n=some b):PG ks n=true∧ρ n=some b:=by
 unfold cut at h;cases hk:PG ks n with
 | false=>rw [hk] at h;cases h
 | true=>rw [hk] at h;exact ⟨rfl,h⟩
theorem qZ {ρ:kP} {ks:List Nm}:∀{l:List CV} {vs:List Value},(NP l).all (PG ks)=true→fM ρ l=some vs→fM (cut ρ ks) l=some vs
 | [],_,_,q=>q
 | .v x::l,vs,h,q=>by
  simp only [fM,aeQ,acX] at q ⊢;obtain ⟨y,h1,z,h2,h3⟩:=q;exact ⟨y,h1,z,qZ (l:=l) h h2,h3⟩
 | .p n o::l,vs,h,q=>by
  simp only [NP,List.all_cons,Bool.and_eq_true] at h;simp only [fM,aeQ,acX] at q ⊢;obtain ⟨y,h1,z,h2,h3⟩:=q;refine ⟨y,?_,z,qZ (l:=l) h.2 h2,h3⟩;simpa only [cAt,JU h.1] using h1
theorem vF {ρ:kP} {ks:List Nm}:∀{l:List AV} {vs:List Value},(DV l).all (PG ks)=true→fN ρ l=some vs→fN (cut ρ ks) l=some vs
 | [],_,_,q=>q
 | .v x::l,vs,h,q=>by
  simp only [fN,aeQ,acX] at q ⊢;obtain ⟨y,h1,z,h2,h3⟩:=q;exact ⟨y,h1,z,vF (l:=l) h h2,h3⟩
 | .p n o::l,vs,h,q=>by
  simp only [DV,List.all_cons,Bool.and_eq_true] at h;simp only [fN,aeQ,acX] at q ⊢;obtain ⟨y,h1,z,h2,h3⟩:=q;refine ⟨y,?_,z,vF (l:=l) h.2 h2,h3⟩;simpa only [jE,JU h.1] using h1
 | .c f b c::l,vs,h,q=>by
  simp only [DV,List.all_append,Bool.and_eq_true] at h;simp only [fN,aeQ,acX] at q ⊢;obtain ⟨y,h1,z,h2,h3⟩:=q;refine ⟨y,?_,z,vF (l:=l) h.2 h2,h3⟩;simp only [jE,aeQ,acX] at h1 ⊢;obtain ⟨s,h4,u,h5,h6⟩:=h1;exact ⟨s,qZ h.1.1 h4,u,qZ h.1.2 h5,h6⟩
 | .s n o _ _::l,vs,h,q=>by
  simp only [DV,List.all_cons,Bool.and_eq_true] at h;simp only [fN,aeQ,acX] at q ⊢;obtain ⟨y,h1,z,h2,h3⟩:=q;refine ⟨y,?_,z,vF (l:=l) h.2 h2,h3⟩;simpa only [jE,JU h.1] using h1
theorem get_part (L:dP) (r:List Nm) (n:Nm):iO (part L r) n=if n∈r then iO L n else none:=by
 induction r with
 | nil=>simp [part,iO]
 | cons m r ih=>
  unfold part at ih ⊢;rw [List.filterMap_cons];cases hm:iO L m with
  | none=>
   rw [ih];by_cases e:n=m
   ·subst e;simp [hm]
   ·simp [e]
  | some b=>
   rw [gI,ih];by_cases e:m=n
   ·subst e;simp [hm]
   ·rw [if_neg e];have e':¬n=m:=fun q=>e q.symm;simp [e']
theorem get_mem {L:dP} {n:Nm} {b:nG} (h:iO L n=some b):(n,b)∈L:=by
 induction L with
 | nil=>simp [iO] at h
 | cons x l ih=>
  obtain ⟨m,c⟩:=x;rw [gI] at h;split at h
  ·rename_i e;cases h;subst e;exact List.mem_cons_self
  ·exact List.mem_cons_of_mem _ (ih h)
theorem OR {ks:List Nm}:∀{L:dP},closed ks L=true→∀{n:Nm} {b:nG},(n,b)∈L→(NP b.cells).all (PG ks)=true
 | (m,c)::l,h,n,b,hm=>by
  simp only [closed,Bool.and_eq_true] at h;rcases bbX.1 hm with e | hm
  ·cases e;exact h.1
  ·exact OR h.2 hm
theorem LE {L:dP} {n:Nm}:n∈iJ L↔(iO L n).isSome=true:=by
 have h:=oL (l:=L) (n:=n);cases hg:iO L n with
 | none=>rw [hg] at h;simp only [true_iff] at h;simp [h]
 | some b=>rw [hg] at h;simp at h;simp [h]
section
variable {P : Program} {all : List Oper}
theorem runs_frame {g:FuncId} {args:List AV} {L:dP} {r:List Nm} {v:AV} {L':dP} (hR:jN P g args (part L r) v L')
  (ha:(DV args).all (PG (iJ (part L r)))=true) (hc:closed (iJ (part L r)) (part L r)=true)
  (hnew:newOk (iJ (part L r)) L L'=true)
  {ρ:kP} {w:World} {L0:dP} {vs:List Value} (hvs:fN ρ args=some vs) (hL:ML ρ L0 w) (hag:∀n,n∈iJ (part L r)∨n∈iJ L'→iO L0 n=iO L n):
  Calls P g ⟨vs⟩ w fun e w'=>∃u ρ',e=.returned u∧Nxt ρ w ρ' w'∧jE ρ' v=some u∧ML ρ' (L'++L0) w':=by
 have hget:∀n b,iO (part L r) n=some b→iO L n=some b:=fun n b h=>by
  rw [get_part] at h;split at h
  ·exact h
  ·cases h
 have hML:ML (cut ρ (iJ (part L r))) (part L r) w:=by
  refine ⟨fun n=>?_,fun n b k q hg=>?_,fun n m b q q'=>hL.inj n m b (lG q).2 (lG q').2,hL.glb,fun e he n q=>hL.far e he n (lG q).2⟩
  ·cases hk:PG (iJ (part L r)) n with
   | false=>
    have:n∉iJ (part L r):=fun h=>by rw [BM.2 h] at hk;cases hk
    rw [oL.2 this];unfold cut;rw [hk];rfl
   | true=>
    rw [JU hk];have hm:=BM.1 hk;have hs:=LE.1 hm;rw [hs];cases hg:iO (part L r) n with
    | none=>rw [hg] at hs;cases hs
    | some b=>
     have:=hL.dom n;rw [hag n (.inl hm),hget n b hg] at this;exact this
  ·obtain ⟨q1,q2⟩:=lG q;obtain ⟨us,h1,h2⟩:=hL.blk n b k q2 (by rw [hag n (.inl (BM.1 q1))];exact hget n k hg);exact ⟨us,qZ (OR hc (get_mem hg)) h1,h2⟩
 refine (hR (cut ρ (iJ (part L r))) w vs (vF ha hvs) hML).mono ?_;rintro e w' ⟨u,ρ',rfl,hN,hv,hM'⟩;have kin:∀n b,ρ' n=some b→n∈iJ L':=fun n b q=>LE.2 (by rw [←hM'.dom n,q];rfl);have out:∀n b,ρ' n=some b→cut ρ (iJ (part L r)) n=none→ρ n=none:=fun n b q q2=>by
  have hk:=kin n b q;have h1:=(aqX.1 hnew) n hk;cases hh:PG (iJ (part L r)) n with
  | true=>
   rw [JU hh] at q2;exact q2
  | false=>
   rw [hh] at h1;have h2:iO L n=none:=by
    unfold fresh at h1;cases hg:iO L n with
    | none=>rfl
    | some x=>rw [hg] at h1;cases h1
   have:=hL.dom n;rw [hag n (.inr hk),h2] at this;cases hr:ρ n with
   | none=>rfl
   | some c=>rw [hr] at this;cases this
 have old:∀n b c,ρ' n=some b→ρ n=some c→b=c:=fun n b c q q2=>by
  cases hr:cut ρ (iJ (part L r)) n with
  | none=>rw [out n b q hr] at q2;cases q2
  | some d=>
   have:=hN.ext n d hr;rw [q] at this;cases this;have:=(lG hr).2;rw [q2] at this;cases this;rfl
 have hext1:NG ρ' (fun n=>match ρ' n with | some b=>some b | none=>ρ n):=fun n b q=>by
  (try dsimp only)
  rw [q]
 have hext:NG ρ (fun n=>match ρ' n with | some b=>some b | none=>ρ n):=fun n b q=>by
  (try dsimp only)
  cases hr:ρ' n with
  | none=>exact q
  | some c=>rw [old n c b hr q]
 refine ⟨u,fun n=>match ρ' n with | some b=>some b | none=>ρ n,rfl,⟨hext,hN.os,hN.tape,hN.output,hN.size,?_,?_⟩,aAt_ext hext1 hv,⟨?_,?_,?_,hM'.glb,fun e he n q=>?_⟩⟩
 ·intro k hk hn;exact hN.old k hk fun n q=>hn n (lG q).2
 ·intro n b q q2
  (try dsimp only at q)
  cases hr:ρ' n with
  | none=>rw [hr] at q;dsimp only at q;rw [q2] at q;cases q
  | some c=>
   rw [hr] at q;cases q;refine hN.new n b hr ?_;cases hz:cut ρ (iJ (part L r)) n with
   | none=>rfl
   | some d=>rw [(lG hz).2] at q2;cases q2
 ·intro n;rw [zR];have h1:=hM'.dom n;have h2:=hL.dom n
  (try dsimp only)
  cases hr:ρ' n with
  | none=>
   rw [hr] at h1;cases hg:iO L' n with
   | none=>simpa using h2
   | some x=>rw [hg] at h1;cases h1
  | some c=>
   rw [hr] at h1;cases hg:iO L' n with
   | none=>rw [hg] at h1;cases h1
   | some x=>rfl
 ·intro n b k q hg;rw [zR] at hg
  (try dsimp only at q)
  cases hr:ρ' n with
  | some c=>
   rw [hr] at q;cases q;have h1:=hM'.dom n;rw [hr] at h1;cases hg':iO L' n with
   | none=>rw [hg'] at h1;cases h1
   | some x=>
    rw [hg'] at hg;simp only [Option.some_or,afJ.injEq] at hg;subst hg;obtain ⟨us,h2,h3⟩:=hM'.blk n b x hr hg';exact ⟨us,nI hext1 h2,h3⟩
  | none=>
   rw [hr] at q;dsimp only at q;have h1:=hM'.dom n;rw [hr] at h1;cases hg':iO L' n with
   | some x=>rw [hg'] at h1;cases h1
   | none=>
    rw [hg'] at hg;simp only [Option.none_or] at hg;obtain ⟨us,h2,h3⟩:=hL.blk n b k q hg;refine ⟨us,nI hext h2,?_⟩;rw [hN.old b (hL.lt q) ?_]
    ·exact h3
    ·intro m qm;have:=hL.inj m n b (lG qm).2 q;subst this;have:=hN.ext m b qm;rw [hr] at this;cases this
 ·intro n m b q q'
  (try dsimp only at q q')
  have two:∀n m,ρ' n=some b→ρ' m=none→ρ m=some b→n=m:=fun n m q1 q2 q3=>by
   cases hz:cut ρ (iJ (part L r)) n with
   | some d=>
    have:=hN.ext n d hz;rw [q1] at this;cases this;exact hL.inj n m b (lG hz).2 q3
   | none=>exact absurd (hN.new n b q1 hz) (by have:=hL.lt q3;omega)
  cases hr:ρ' n with
  | some c=>
   rw [hr] at q;cases q;cases hs:ρ' m with
   | some d=>
    rw [hs] at q';cases q';exact hM'.inj n m b hr hs
   | none=>
    rw [hs] at q';exact two n m hr hs q'
  | none=>
   rw [hr] at q;cases hs:ρ' m with
   | some d=>
    rw [hs] at q';cases q';exact (two m n hs hr q).symm
   | none=>
    rw [hs] at q';exact hL.inj n m b q q'
 ·(try dsimp only at q)
  cases hr:ρ' n with
  | some c=>
   rw [hr] at q;cases q;exact hM'.far e he n hr
  | none=>
   rw [hr] at q;exact hL.far e he n q
section
variable {α : Type} {E : List (TypeId × Nat)} {C : List FuncId} {call : FuncId → List AV → dP → Nm → (AV → dP → Option α) → Option α}
def lE (P:Program) (g:FuncId):Prop:=∀args w,(callFunc g args).run P w=.ok (.enter g args) w
def qU (P:Program) (e:TypeId×Nat):Prop:=P.eqGuardType P.depth e.1=false∧∀xs ys r,xs.length=e.2→ys.length=e.2→vR xs ys=some r→∀w,(Op.equalIn 10000 e.1 (.agg ⟨xs⟩) (.agg ⟨ys⟩)).run P w=.ok r w
def JA (P:Program) (call:FuncId→List AV→dP→Nm→(AV→dP→Option α)→Option α):Prop:=
 ∀g args L nm k r,call g args L nm k=some r→∃v L',jN P g args L v L'∧k v L'=some r
theorem RT (hC:∀g∈C,lE P g) (hcall:JA P call) {args:List AV} {g:FuncId} {L:dP} {nm:Nm} {k:AV→dP→List Nm→Option α} {r:α}
  (h:doCall C call args g L nm k=some r):∃v U rd,k v U rd=some r∧∀o τ,
   (∀ρ a w τ0,MT ρ τ0 a→(∀t∈looks all o,gE τ0 t=gE τ t)→∃vs,fN ρ args=some vs∧(execOp a.eval o).run P w=(callFunc g ⟨vs⟩).run P w)→CU P all o τ L v U rd:=by
 unfold doCall at h;dsimp only at h;generalize reach L 4 (UX [] (DV args))=rr at h;cases hb:(C.any (alZ g)&&(DV args).all (PG (iJ (part L rr)))&&closed (iJ (part L rr)) (part L rr)) with
 | false=>rw [hb] at h;cases h
 | true=>
  rw [hb] at h;simp only [cond_true] at h;simp only [Bool.and_eq_true] at hb;obtain ⟨⟨b1,b2⟩,b3⟩:=hb;have hg:g∈C:=by
   rw [awJ] at b1;obtain ⟨x,hx,e⟩:=b1;have:g=x:=afQ e;exact this ▸ hx
  obtain ⟨v,L',hR,hk⟩:=hcall _ _ _ _ _ _ h;cases hn:newOk (iJ (part L rr)) L L' with
  | false=>rw [hn] at hk;cases hk
  | true=>
   rw [hn] at hk;simp only [cond_true] at hk;refine ⟨v,L',_,hk,fun o τ ho=>?_⟩;intro ρ a w τ0 L0 hM hl hL hag next Q hnx
   obtain ⟨vs,h1,h2⟩:=ho ρ a w τ0 hM hl;unfold Oper.wp;rw [h2,hC g hg];have:=runs_frame hR b2 b3 hn h1 hL hag;refine this.mono ?_;rintro e w' ⟨u,ρ',rfl,q1,q2,q3⟩;exact hnx ρ' w' u q1 q2 q3
theorem binA_sound (hE:∀e∈E,qU P e) {τ:List AV} {L:dP} {o:Oper} {op:BinOp} {t yt:TypeId} {x y:Operand} {v:AV} (ho:o.op=.binOp op t x y yt) (h:binA P E τ o op t x y=some v):CU P all o τ L v [] []:=by
 unfold binA at h;have hs:∀cs b,o.op≠.select cs b:=fun cs b q=>by rw [ho] at q;cases q
 split at h
 ·rename_i b xs ys hb hx hy;cases hc:(eqTy E t xs.toList.length&&alZ xs.toList.length ys.toList.length) with
  | false=>rw [hc] at h;cases h
  | true=>
   rw [hc] at h;simp only [cond_true] at h;split at h
   ·rename_i r hr;simp only [afJ.injEq] at h;subst h;simp only [Bool.and_eq_true] at hc;have h1:=hc.1;unfold eqTy at h1;rw [awJ] at h1;obtain ⟨e,he,h2⟩:=h1;simp only [Bool.and_eq_true] at h2;have e1:e.1=t:=afQ h2.1;have e2:e.2=xs.toList.length:=afQ h2.2;have e3:xs.toList.length=ys.toList.length:=afQ hc.2;obtain ⟨g1,g2⟩:=hE e he;rw [e1] at g1 g2;exact opS_eq (fun w=>g2 xs.toList ys.toList r e2.symm (by rw [e2,e3]) hr w) g1 ho hb hx hy
   ·cases h
 ·exact opS_gen hs h
theorem sZ {ρ:kP} {τ τ0:List AV} {a:Act} {o:Oper} (hM:MT ρ τ0 a) (hl:∀t∈looks all o,gE τ0 t=gE τ t):∀(l:List Operand),(∀x∈l,x∈o.op.operands)→fN ρ (l.map (mC τ))=some (l.map a.eval)
 | [],_=>rfl
 | x::l,h=>by
  have h1:=fK hM x;rw [cU hl (h x (by simp))] at h1;simp [fN,h1,sZ hM hl l (fun y hy=>h y (by simp [hy]))]
theorem IY {ρ:kP}:∀{l:List AV} {cs:List CV} {vs:List Value},GQ l=some cs→fN ρ l=some vs→fM ρ cs=some vs
 | [],_,_,h,q=>by simp only [GQ,afJ.injEq] at h;subst h;exact q
 | .v x::l,cs,vs,h,q=>by
  simp only [GQ] at h;split at h
  ·rename_i r hr;simp only [afJ.injEq] at h;subst h;simp only [fN,aeQ,acX] at q;obtain ⟨y,h1,z,h2,h3⟩:=q;simp only [fM,aeQ,acX];exact ⟨y,h1,z,IY hr h2,h3⟩
  ·cases h
 | .p n o::l,cs,vs,h,q=>by
  simp only [GQ] at h;split at h
  ·rename_i r hr;simp only [afJ.injEq] at h;subst h;simp only [fN,aeQ,acX] at q;obtain ⟨y,h1,z,h2,h3⟩:=q;simp only [fM,aeQ,acX];exact ⟨y,h1,z,IY hr h2,h3⟩
  ·cases h
 | .c _ _ _::_,_,_,h,_=>by simp [GQ] at h
 | .s _ _ _ _::_,_,_,h,_=>by simp [GQ] at h
theorem SZ {τ:List AV} {L:dP} {o:Oper} {g:FuncId} {bs cs:Array Operand} {b c:List CV} (ho:o.op=.makeFunc (.func g) bs cs) (hb:GQ (bs.toList.map (mC τ))=some b) (hc:GQ (cs.toList.map (mC τ))=some c):
  CU P all o τ L (.c g b c) [] []:=
 kO fun ρ a w τ0 hM hl=>by
  have h1:=sZ hM hl bs.toList fun x hx=>by simp only [ho,Op.operands];exact Array.mem_append.2 (.inl (by simpa using hx))
  have h2:=sZ hM hl cs.toList fun x hx=>by simp only [ho,Op.operands];exact Array.mem_append.2 (.inr (by simpa using hx))
  refine ⟨.func (.func g) (bs.map a.eval) (cs.map a.eval),?_,by simp [execOp,ho,Instr.makeFunc]⟩;simp only [jE,IY hb h1,IY hc h2,azQ,Option.map_some,afJ.injEq];congr 1
  ·apply asJ.1;simp
  ·apply asJ.1;simp
theorem evOp_sound (hE:∀e∈E,qU P e) (hC:∀g∈C,lE P g) (hcall:JA P call) {o:Oper} {τ:List AV} {L:dP} {nm:Nm} {k:AV→dP→List Nm→Option α} {r:α}
  (h:evOp P E C call o τ L nm k=some r):∃v U rd,k v U rd=some r∧CU P all o τ L v U rd:=by
 have gen:(∀cs b,o.op≠.select cs b)→(match GI P τ o with | some v=>k v [] [] | none=>none)=some r→∃v U rd,k v U rd=some r∧CU P all o τ L v U rd:=fun hs hg=>by
  split at hg
  ·rename_i v hv;exact ⟨v,[],[],hg,opS_gen hs hv⟩
  ·cases hg
 cases ho:o.op<;>simp only [evOp,ho] at h
 case move x=>exact ⟨_,_,_,h,opS_move ho⟩
 case assign x=>exact ⟨_,_,_,h,opS_assign ho⟩
 case pick c x y=>
  split at h
  ·rename_i t ht;have:=opS_pick (P:=P) (all:=all) (L:=L) ho ht;cases t
   ·exact ⟨_,_,_,h,this⟩
   ·exact ⟨_,_,_,h,this⟩
  ·cases h
 case alloc t=>
  split at h
  ·rename_i i hi;split at h
   ·rename_i z hz;split at h
    ·rename_i hn;exact ⟨_,_,_,h,opS_alloc ho hi hz hn⟩
    ·cases h
   ·cases h
  ·cases h
 case box t x=>
  split at h
  ·rename_i cs hcs;split at h
   ·rename_i hn;exact ⟨_,_,_,h,opS_box ho hcs hn⟩
   ·cases h
  ·cases h
 case build t ps=>
  cases hv:pK τ (ps.toList.map (·.2)) with
  | false=>rw [hv] at h;cases h
  | true=>
   rw [hv] at h;simp only [cond_true] at h;split at h
   ·rename_i cells hb;exact ⟨_,_,_,h,opS_build ho hv hb⟩
   ·cases h
 case load t x=>
  split at h
  ·rename_i n off hx;split at h
   ·rename_i b hb;split at h
    ·rename_i v hv;exact ⟨_,_,_,h,opS_load ho hx hb hv⟩
    ·cases h
   ·cases h
  ·rename_i g hx;cases hv:globA P t g with
   | none=>rw [hv] at h;cases h
   | some v=>rw [hv] at h;exact ⟨_,_,_,h,opS_glob ho hx hv⟩
  ·cases h
 case store t x y=>
  split at h
  ·rename_i n off hx;split at h
   ·rename_i b hb;split at h
    ·rename_i v hv;exact ⟨_,_,_,h,opS_store ho hx hb hv⟩
    ·cases h
   ·cases h
  ·cases h
 case fieldAddr s x f=>
  split at h
  ·rename_i n off hx;split at h
   ·rename_i d hd;exact ⟨_,_,_,h,NR ho hx hd⟩
   ·cases h
  ·cases h
 case indexAddr t x y=>
  split at h
  ·rename_i n off k' ix hx hy;split at h
   ·rename_i d hd;exact ⟨_,_,_,h,NU ho hx hy hd⟩
   ·cases h
  ·rename_i n off len cp k' ix hx hy;split at h
   ·rename_i d hd;exact ⟨_,_,_,h,LQ ho hx hy hd⟩
   ·cases h
  ·cases h
 case buildSlice t n ps=>
  cases hv:pK τ (ps.toList.map (·.2)) with
  | false=>rw [hv] at h;cases h
  | true=>
   rw [hv] at h;simp only [cond_true] at h;split at h
   ·rename_i e cells hb;split at h
    ·rename_i hn;exact ⟨_,_,_,h,LP ho hv hb hn⟩
    ·cases h
   ·cases h
 case slice t x lo hi mx=>
  cases mx with
  | some y=>cases h
  | none=>
   dsimp only at h;split at h
   ·rename_i v hv;exact ⟨_,_,_,h,opS_slice ho hv⟩
   ·cases h
 case nilCheck x=>
  split at h
  ·rename_i n off hx;have:=opS_nil (P:=P) (all:=all) (L:=L) (τ:=τ) ho (fun v=>by rw [hx];simp);rw [hx] at this;exact ⟨_,_,_,h,this⟩
  ·rename_i f b c hx;have:=opS_nil (P:=P) (all:=all) (L:=L) (τ:=τ) ho (fun v=>by rw [hx];simp);rw [hx] at this;exact ⟨_,_,_,h,this⟩
  ·exact gen (fun cs b q=>by rw [ho] at q;cases q) h
 case binOp op t x y yt=>
  split at h
  ·rename_i q a b hq hx hy;cases hb:(b==0) with
   | true=>rw [hb] at h;cases h
   | false=>
    rw [hb] at h;exact ⟨_,_,_,h,opS_div ho hq hx hy (by simpa using hb)⟩
  ·split at h
   ·rename_i v hv;exact ⟨_,_,_,h,binA_sound hE ho hv⟩
   ·cases h
 case makeFunc f bs cs=>
  split at h
  ·rename_i g b c hb hc;exact ⟨_,_,_,h,SZ ho hb hc⟩
  ·cases h
 case unOp a b c=>exact gen (fun cs b q=>by rw [ho] at q;cases q) h
 case convert a b c=>exact gen (fun cs b q=>by rw [ho] at q;cases q) h
 case field a b c=>exact gen (fun cs b q=>by rw [ho] at q;cases q) h
 case index a b c=>exact gen (fun cs b q=>by rw [ho] at q;cases q) h
 case extract a b=>exact gen (fun cs b q=>by rw [ho] at q;cases q) h
 case call c=>
  split at h
  ·split at h
   ·rename_i v hv;exact ⟨_,_,_,h,opS_len ho hv⟩
   ·exact gen (fun cs b q=>by rw [ho] at q;cases q) h
  ·split at h
   ·rename_i _ hnb _ g bs cp hcl;obtain ⟨v,U,rd,h1,h2⟩:=RT (all:=all) hC hcall h;refine ⟨v,U,rd,h1,h2 o τ ?_⟩;intro ρ a w τ0 hM hl;cases hce:c.callee with
    | builtin b=>exact absurd hce (hnb b)
    | invoke r m=>rw [hce] at hcl;simp [callee] at hcl
    | value f=>
     rw [hce] at hcl;have hf:=fK hM f;rw [cU hl (by simp [ho,Op.operands,Call.operands,hce])] at hf;have ha:fN ρ (c.args.toList.map (mC τ))=some (c.args.toList.map a.eval):=sZ hM hl _ fun x hx=>by
      simp only [ho,Op.operands,Call.operands];exact Array.mem_append.2 (.inr (by simpa using hx))
     simp only [callee] at hcl;split at hcl
     ·rename_i g' b' c' he;simp only [afJ.injEq,Prod.mk.injEq] at hcl;obtain ⟨e1,e2,e3⟩:=hcl;subst e1 e2 e3;rw [he] at hf;have hf:a.eval f=.func (.func g') b' c':=by simpa [jE] using hf.symm
      refine ⟨b'.toList++c.args.toList.map a.eval++c'.toList,iP (iP (kK _) ha) (kK _),?_⟩;simp only [execOp,ho,resolve,hce,hf,Deferred.ofValue,Sem.run_bind,Sem.run_pure,Result.andThen_ok,invoke];congr 2;apply asJ.1;simp
     ·rename_i g' b' c' he;simp only [afJ.injEq,Prod.mk.injEq] at hcl;obtain ⟨e1,e2,e3⟩:=hcl;subst e1 e2 e3;rw [he] at hf;simp only [jE,aeQ,acX] at hf;obtain ⟨vb,q1,vc,q2,q3⟩:=hf;refine ⟨vb++c.args.toList.map a.eval++vc,iP (iP (by rw [vH];exact q1) ha) (by rw [vH];exact q2),?_⟩;simp only [execOp,ho,resolve,hce,←q3,Deferred.ofValue,Sem.run_bind,Sem.run_pure,Result.andThen_ok,invoke];congr 2;apply asJ.1;simp
     ·cases hcl
   ·cases h
 all_goals cases h
end
end
end Ev
namespace Ev
open Go.RowKit
def jM (all:List Oper) (τ:List AV) (o:Oper):Bool:=
 match o.guard with
 | none=>true
 | some (j,want)=>match JY all j with
  | none=>false
  | some d=>match gE τ d with
   | .v (.bool b)=>b==want
   | _=>false
theorem dstOf_eq (ops:Array Oper) (j:Nat):JY ops.toList j=(ops[j]?).bind (·.dst):=by
 unfold JY;rw [Array.getElem?_toList];cases ops[j]?<;>rfl
theorem wantedA_eq (ops:Array Oper) {ρ:kP} {τ:List AV} {a:Act} (hM:MT ρ τ a) (o:Oper):Region.wanted o (yielded ops a.tmps)=jM ops.toList τ o:=by
 unfold Region.wanted jM;cases hg:o.guard with
 | none=>rfl
 | some gw=>
  obtain ⟨j,want⟩:=gw;simp only [dstOf_eq,yielded];cases hd:(ops[j]?).bind (·.dst) with
  | none=>rfl
  | some d=>
   simp only [azQ];have h:=IE hM d;cases hx:a.tmps[d]? with
   | none=>
    have hu:a.tmps.getD d undef=undef:=by simp [hx]
    rw [hu] at h;cases hq:gE τ d with
    | v x=>
     rw [hq] at h;simp only [jE,afJ.injEq] at h;subst h;rfl
    | p n off=>rfl
    | c f b c=>rfl
    | s n off l c=>rfl
   | some x=>
    have hu:a.tmps.getD d undef=x:=by simp [hx]
    rw [hu] at h;cases hq:gE τ d with
    | v y=>
     rw [hq] at h;simp only [jE,afJ.injEq] at h;subst h;cases y<;>simp
    | p n off=>
     rw [hq] at h;simp only [jE,acX] at h;obtain ⟨b,_,e⟩:=h;subst e;rfl
    | c f b c=>
     rw [hq] at h;simp only [jE,aeQ,acX] at h;obtain ⟨y,_,z,_,h3⟩:=h;subst h3;rfl
    | s n off l c=>
     rw [hq] at h;simp only [jE,acX] at h;obtain ⟨b,_,e⟩:=h;subst e;rfl
theorem OE {all:List Oper} {τ τ':List AV} {o:Oper} (h:∀t∈looks all o,gE τ' t=gE τ t):jM all τ' o=jM all τ o:=by
 unfold jM;cases hg:o.guard with
 | none=>rfl
 | some gw=>
  obtain ⟨j,want⟩:=gw
  (try dsimp only)
  cases hd:JY all j with
  | none=>rfl
  | some d=>
   (try dsimp only)
   rw [h d (by simp [looks,hg,hd])]
section
variable {P : Program}
def StepOK (P:Program) (all:List Oper) (o:Oper) (τ:List AV) (L:dP) (v:AV) (U:dP) (rd:List Nm):Prop:=
 (jM all τ o=true∧CU P all o τ L v U rd)∨(jM all τ o=false∧v=.v undef∧U=[]∧rd=[])
inductive Rec (P:Program) (all:List Oper):List Oper→List AV→dP→List (AV×dP×List Nm)→List AV→dP→Prop
 | nil (τ:List AV) (L:dP):Rec P all [] τ L [] τ L
 | cons {o:Oper} {rest:List Oper} {τ:List AV} {L:dP} {v:AV} {U:dP} {rd:List Nm} {ds:List (AV×dP×List Nm)} {τf:List AV} {Lf:dP}
   (h:StepOK P all o τ L v U rd) (k:Rec P all rest (DY τ o.dst v) (U++L) ds τf Lf):Rec P all (o::rest) τ L ((v,U,rd)::ds) τf Lf
def rD (d:AV×dP×List Nm):Foot:=⟨d.2.2,iJ d.2.1⟩
theorem aAD {τ:List AV} {d:Nat} {x:AV} (h:τ[d]? =some x):τ.set d x=τ:=by
 apply List.ext_getElem (by simp);intro i h1 h2;rw [List.getElem_set];split
 ·rename_i e;subst e;rw [List.getElem?_eq_getElem h2] at h;exact (afJ.inj h).symm
 ·rfl
section
variable {α : Type} {E : List (TypeId × Nat)} {C : List FuncId} {call : FuncId → List AV → dP → Nm → (AV → dP → Option α) → Option α}
theorem vT {all:List Oper} (hE:∀e∈E,qU P e) (hC:∀g∈C,lE P g) (hcall:JA P call) {fin:List Foot→Bool} {base:Nm} {k:List AV→dP→Option α} {r:α}:
  ∀(rest:List Oper) (i:Nat) (τ:List AV) (L:dP) (fs:List Foot),FB P E C call all fin base rest i τ L fs k=some r→
   ∃ds τf Lf,Rec P all rest τ L ds τf Lf∧fin (fs++ds.map rD)=true∧k τf Lf=some r
 | [],i,τ,L,fs,h=>by
  unfold FB at h;cases hf:fin fs with
  | false=>rw [hf] at h;cases h
  | true=>rw [hf] at h;exact ⟨[],τ,L,.nil τ L,by simpa using hf,h⟩
 | o::rest,i,τ,L,fs,h=>by
  have go:jM all τ o=true→(evOp P E C call o τ L (i::base) fun v U rd=>FB P E C call all fin base rest (i+1) (DY τ o.dst v) (U++L) (fs++[⟨rd,iJ U⟩]) k)=some r→
    ∃ds τf Lf,Rec P all (o::rest) τ L ds τf Lf∧fin (fs++ds.map rD)=true∧k τf Lf=some r:=fun hw hg=>by
   obtain ⟨v,U,rd,h1,h2⟩:=evOp_sound (all:=all) hE hC hcall hg;obtain ⟨ds,τf,Lf,h3,h4,h5⟩:=vT hE hC hcall rest _ _ _ _ h1;exact ⟨(v,U,rd)::ds,τf,Lf,.cons (.inl ⟨hw,h2⟩) h3,by simpa [rD] using h4,h5⟩
  have no:jM all τ o=false→FB P E C call all fin base rest (i+1) (DY τ o.dst (.v undef)) L (fs++[⟨[],[]⟩]) k=some r→
    ∃ds τf Lf,Rec P all (o::rest) τ L ds τf Lf∧fin (fs++ds.map rD)=true∧k τf Lf=some r:=fun hw hg=>by
   obtain ⟨ds,τf,Lf,h3,h4,h5⟩:=vT hE hC hcall rest _ _ _ _ hg;exact ⟨(.v undef,[],[])::ds,τf,Lf,.cons (.inr ⟨hw,rfl,rfl,rfl⟩) h3,by simpa [rD,iJ] using h4,h5⟩
  unfold FB at h;dsimp only at h;cases hg:o.guard with
  | none=>
   rw [hg] at h;exact go (by unfold jM;rw [hg]) h
  | some gw=>
   obtain ⟨j,want⟩:=gw;rw [hg] at h;dsimp only at h;cases hd:JY all j with
   | none=>
    rw [hd] at h;exact no (by unfold jM;rw [hg];dsimp only;rw [hd]) h
   | some d=>
    rw [hd] at h;dsimp only at h;split at h
    ·rename_i b hb;have hga:gE τ d=.v (.bool b):=by unfold gE;rw [hb]
     have hw:jM all τ o=(b==want):=by
      unfold jM;rw [hg];dsimp only;rw [hd];dsimp only;rw [hga]
     cases b<;>cases want<;>simp only [cond_true,cond_false,aAD hb] at h
     ·exact go (by rw [hw];rfl) h
     ·exact no (by rw [hw];rfl) h
     ·exact no (by rw [hw];rfl) h
     ·exact go (by rw [hw];rfl) h
    ·rename_i hb;refine no ?_ h;unfold jM;rw [hg];dsimp only;rw [hd];dsimp only;unfold gE;cases hq:τ[d]? with
     | none=>rfl
     | some x=>
      cases x with
      | v y=>cases y with
       | bool b=>exact absurd hq (hb b)
       | _=>rfl
      | _=>rfl
end
theorem QQ {ops:Array Oper} {i:Nat} {o:Oper} (ho:ops[i]? =some o) {τ:List AV} {L:dP} {v:AV} {U:dP} {rd:List Nm} (h:StepOK P ops.toList o τ L v U rd)
  {ρ:kP} {a:Act} {w:World} {τ0:List AV} {L0:dP} (hM:MT ρ τ0 a) (hl:∀t∈looks ops.toList o,gE τ0 t=gE τ t) (hL:ML ρ L0 w) (hag:∀n,n∈rd∨n∈iJ U→iO L0 n=iO L n)
  {K:Act→World→Prop} {Q:Exit→Act→World→Prop} (hK:∀ρ' a' w',Nxt ρ w ρ' w'→MT ρ' (DY τ0 o.dst v) a'→ML ρ' (U++L0) w'→K a' w'):wpOp P ops Q i K a w:=by
 unfold wpOp;simp only [ho];rw [wantedA_eq ops hM o,OE hl];rcases h with ⟨hw,hs⟩ | ⟨hw,rfl,rfl,rfl⟩
 ·rw [hw,if_pos rfl];exact .inl (hs ρ a w τ0 L0 hM hl hL hag K Q fun ρ' w' u h1 h2 h3=>hK ρ' _ w' h1 ((hM.ext h1.ext).put o.dst h2) h3)
 ·rw [hw,if_neg (by simp)];exact hK ρ _ w (Nxt.refl ρ w) (hM.put o.dst (x:=.v undef) rfl) (by simpa using hL)
theorem text_sound {ops:Array Oper} {Q:Exit→Act→World→Prop}:∀{rest:List Oper} {τ:List AV} {L:dP} {ds:List (AV×dP×List Nm)} {τf:List AV} {Lf:dP},Rec P ops.toList rest τ L ds τf Lf→∀i,ops.toList.drop i=rest→
  ∀{ρ:kP} {a:Act} {w:World},MT ρ τ a→ML ρ L w→(∀ρ' a' w',Nxt ρ w ρ' w'→MT ρ' τf a'→ML ρ' Lf w'→Q .normal a' w')→wpOps P ops Q (List.range' i rest.length) a w:=by
 intro rest τ L ds τf Lf h;induction h with
 | nil τ L=>intro i _ ρ a w hM hL hQ;exact hQ ρ a w (Nxt.refl ρ w) hM hL
 | @cons o rest τ L v U rd ds τf Lf hs _ ih=>
  intro i hi ρ a w hM hL hQ;rw [List.length_cons,List.range'_succ,wpOps_cons];have ho:ops[i]? =some o:=by
   have:(ops.toList.drop i)[0]? =some o:=by rw [hi];rfl
   rw [List.getElem?_drop] at this;simpa using this
  have hr:ops.toList.drop (i+1)=rest:=by
   have:(ops.toList.drop i).drop 1=rest:=by rw [hi];rfl
   rw [List.drop_drop] at this;exact this
  exact QQ ho hs hM (fun _ _=>rfl) hL (fun _ _=>rfl) fun ρ' a' w' h1 h2 h3=>ih (i+1) hr h2 h3 fun ρ₂ a₂ w₂ k1 k2 k3=>hQ ρ₂ a₂ w₂ (h1.trans k1) k2 k3
def fo {X:Type} (D:Nat→Bool):Nat→List (Option X)→X→X
 | _,[],b=>b
 | i,u::us,b=>fo D (i+1) us (cond (D i) (u.getD b) b)
theorem nJ {X:Type} {D D':Nat→Bool}:∀(us:List (Option X)) (i:Nat) (b:X),(∀j,j<us.length→D (i+j)≠D' (i+j)→us[j]? =some none)→fo D i us b=fo D' i us b
 | [],_,_,_=>rfl
 | u::us,i,b,h=>by
  unfold fo;have h0:=h 0 (by simp);simp only [atX,List.getElem?_cons_zero,afJ.injEq] at h0;have e:cond (D i) (u.getD b) b=cond (D' i) (u.getD b) b:=by
   by_cases hd:D i=D' i
   ·rw [hd]
   ·rw [h0 hd];cases D i<;>cases D' i<;>rfl
  rw [e];refine nJ us (i+1) _ fun j hj hne=>?_;have:=h (j+1) (by simp;omega) (by rw [show i+(j+1)=i+1+j by omega];exact hne);simpa using this
theorem xI {X:Type} {D:Nat→Bool}:∀(us:List (Option X)) (i:Nat) (b:X),(∀j,j<us.length→D (i+j)=true→us[j]? =some none)→fo D i us b=b
 | [],_,_,_=>rfl
 | u::us,i,b,h=>by
  unfold fo;have h0:=h 0 (by simp);simp only [atX,List.getElem?_cons_zero,afJ.injEq] at h0;have e:cond (D i) (u.getD b) b=b:=by
   cases hd:D i with
   | false=>rfl
   | true=>rw [h0 hd];rfl
  rw [e];refine xI us (i+1) _ fun j hj hne=>?_;have:=h (j+1) (by simp;omega) (by rw [show i+(j+1)=i+1+j by omega];exact hne);simpa using this
theorem vW {X:Type} {D:Nat→Bool}:∀(us:List (Option X)) (i:Nat) (b:X),fo D (i+1) us b=fo (fun x=>D (x+1)) i us b
 | [],_,_=>rfl
 | u::us,i,b=>by
  unfold fo;exact vW us (i+1) _
theorem fo_add {X:Type} {D D':Nat→Bool} {p:Nat} (h1:∀j,j≠p→D' j=D j) (h2:D' p=true) (h3:D p=false):∀(us:List (Option X)) (i:Nat) (b:X) (u:Option X),i≤p→us[p-i]? =some u→
  (∀j,p<j→j-i<us.length→D j=true→u.isSome=true→us[j-i]? =some none)→fo D' i us b=u.getD (fo D i us b)
 | [],i,b,u,_,hu,_=>by simp at hu
 | x::us,i,b,u,hi,hu,hd=>by
  by_cases e:i=p
  ·subst e;simp only [Nat.sub_self,List.getElem?_cons_zero,afJ.injEq] at hu;subst hu;unfold fo;rw [h2,h3];simp only [cond_true,cond_false];have hc:∀c,fo D' (i+1) us c=fo D (i+1) us c:=fun c=>nJ us (i+1) c fun j _ hne=>absurd (h1 (i+1+j) (by omega)) hne;rw [hc];cases x with
   | none=>rfl
   | some y=>
    simp only [Option.getD_some];refine xI us (i+1) y fun j hj hD=>?_;have:=hd (i+1+j) (by omega) (by simp;omega) hD rfl;rw [show i+1+j-i=j+1 by omega] at this;simpa using this
  ·unfold fo;rw [h1 i e];refine fo_add h1 h2 h3 us (i+1) _ u (by omega) ?_ ?_
   ·rw [show p-i=(p-(i+1))+1 by omega] at hu;simpa using hu
   ·intro j hj hlt hD hs;have:=hd j hj (by simp;omega) hD hs;rw [show j-i=(j-(i+1))+1 by omega] at this;simpa using this
def usT (len t:Nat) (ops:List Oper) (ds:List (AV×dP×List Nm)):List (Option AV):=(ops.zip ds).map fun q=>if q.1.dst=some t∧t<len then some q.2.1 else none
def usL (n:Nm) (ds:List (AV×dP×List Nm)):List (Option (Option nG)):=ds.map fun d=>(iO d.2.1 n).map some
theorem KK (τ:List AV) (d:Option Tmp) (v:AV) (t:Nat):gE (DY τ d v) t=(if d=some t∧t<τ.length then some v else none).getD (gE τ t):=by
 cases d with
 | none=>simp [DY]
 | some d=>
  simp only [DY,gE,List.getElem?_set,afJ.injEq];by_cases h:d=t
  ·subst h;by_cases hl:d<τ.length
   ·simp [hl]
   ·simp [hl]
  ·simp [h]
theorem qF (τ:List AV) (d:Option Tmp) (v:AV):(DY τ d v).length=τ.length:=by cases d<;>simp [DY]
theorem SD (U L:dP) (n:Nm):iO (U++L) n=((iO U n).map some).getD (iO L n):=by
 rw [zR];cases iO U n<;>rfl
theorem Rec.facts {all ops:List Oper} {τ:List AV} {L:dP} {ds:List (AV×dP×List Nm)} {τf:List AV} {Lf:dP} (h:Rec P all ops τ L ds τf Lf):
  ds.length=ops.length∧τf.length=τ.length∧
  (∀j o,ops[j]? =some o→∃v U rd τj Lj,ds[j]? =some (v,U,rd)∧StepOK P all o τj Lj v U rd∧
   (∀t,gE τj t=fo (fun x=>decide (x<j)) 0 (usT τ.length t ops ds) (gE τ t))∧(∀n,iO Lj n=fo (fun x=>decide (x<j)) 0 (usL n ds) (iO L n)))∧
  (∀t,gE τf t=fo (fun _=>true) 0 (usT τ.length t ops ds) (gE τ t))∧(∀n,iO Lf n=fo (fun _=>true) 0 (usL n ds) (iO L n)):=by
 induction h with
 | nil τ L=>exact ⟨rfl,rfl,fun j o hj=>by simp at hj,fun t=>rfl,fun n=>rfl⟩
 | @cons o rest τ L v U rd ds τf Lf hs _ ih=>
  obtain ⟨i1,i2,i3,i4,i5⟩:=ih;refine ⟨by simp [i1],by rw [i2,qF],?_,?_,?_⟩
  ·intro j o' hj;cases j with
   | zero=>
    simp only [List.getElem?_cons_zero,afJ.injEq] at hj;subst hj;refine ⟨v,U,rd,τ,L,rfl,hs,fun t=>?_,fun n=>?_⟩
    ·exact (xI _ _ _ fun j _ h=>by simp at h).symm
    ·exact (xI _ _ _ fun j _ h=>by simp at h).symm
   | succ j=>
    simp only [List.getElem?_cons_succ] at hj;obtain ⟨v',U',rd',τj,Lj,k1,k2,k3,k4⟩:=i3 j o' hj;refine ⟨v',U',rd',τj,Lj,by simpa using k1,k2,fun t=>?_,fun n=>?_⟩
    ·rw [k3 t,KK,qF];simp only [usT,List.zip_cons_cons,bbQ,fo];rw [vW];simp
    ·rw [k4 n,SD];simp only [usL,bbQ,fo];rw [vW];simp
  ·intro t;rw [i4 t,KK,qF];simp only [usT,List.zip_cons_cons,bbQ,fo];rw [vW];simp
  ·intro n;rw [i5 n,SD];simp only [usL,bbQ,fo];rw [vW];simp
theorem aAo {all:List Oper} {i:Nat} {x:Oper} {fx:Foot}:∀{l:List Oper} {fl:List Foot} {j:Nat},rowOk all i x fx j l fl=true→∀{k:Nat} {y:Oper} {f:Foot},l[k]? =some y→fl[k]? =some f→zV all i (j+k) x y fx f=true
 | [],_,_,_,k,y,f,h1,_=>by simp at h1
 | _::_,[],_,_,k,y,f,_,h2=>by simp at h2
 | y'::l,f'::fl,j,h,k,y,f,h1,h2=>by
  simp only [rowOk,Bool.and_eq_true] at h;cases k with
  | zero=>
   simp only [List.getElem?_cons_zero,afJ.injEq] at h1 h2;subst h1 h2;exact h.1
  | succ k=>
   simp only [List.getElem?_cons_succ] at h1 h2;have:=aAo h.2 h1 h2;rw [show j+1+k=j+(k+1) by omega] at this;exact this
theorem JH {all:List Oper}:∀{l:List Oper} {fl:List Foot} {i:Nat},VA all i l fl=true→∀{k:Nat} {x:Oper} {f:Foot},l[k]? =some x→fl[k]? =some f→
  (∀e∈x.after,Region.binds .any e=true→e.on<i+k)∧∀{m:Nat} {y:Oper} {g:Foot},k<m→l[m]? =some y→fl[m]? =some g→zV all (i+k) (i+m) x y f g=true
 | [],_,_,_,k,x,f,h1,_=>by simp at h1
 | _::_,[],_,_,k,x,f,_,h2=>by simp at h2
 | x'::l,f'::fl,i,h,k,x,f,h1,h2=>by
  simp only [VA,Bool.and_eq_true] at h;obtain ⟨⟨ha,hb⟩,hc⟩:=h;cases k with
  | zero=>
   simp only [List.getElem?_cons_zero,afJ.injEq] at h1 h2;subst h1 h2;refine ⟨fun e he hbind=>?_,fun {m y g} hm h3 h4=>?_⟩
   ·rw [aqX] at ha;have:=ha e (by simpa using he);rw [hbind] at this;simp only [Bool.not_true,Bool.false_or] at this;exact amX this
   ·cases m with
    | zero=>omega
    | succ m=>
     simp only [List.getElem?_cons_succ] at h3 h4;have:=aAo hb h3 h4;rw [show i+1+m=i+(m+1) by omega] at this;exact this
  | succ k=>
   simp only [List.getElem?_cons_succ] at h1 h2;obtain ⟨q1,q2⟩:=JH hc h1 h2;refine ⟨fun e he hbind=>by have:=q1 e he hbind;omega,fun {m y g} hm h3 h4=>?_⟩;cases m with
   | zero=>omega
   | succ m=>
    simp only [List.getElem?_cons_succ] at h3 h4;have:=q2 (by omega) h3 h4;rw [show i+1+k=i+(k+1) by omega,show i+1+m=i+(m+1) by omega] at this;exact this
theorem tD {a b:List Nm}:LN a b=true↔∀n∈a,n∉b:=by
 unfold LN;rw [aqX];constructor
 ·intro h n hn hb;have:=h n hn;rw [BM.2 hb] at this;cases this
 ·intro h n hn;cases hb:PG b n with
  | false=>rfl
  | true=>exact absurd (BM.1 hb) (h n hn)
theorem XI {l:List Nat} {n:Nat}:hasN l n=true↔n∈l:=by
 unfold hasN;rw [awJ];constructor
 ·rintro ⟨x,hx,h⟩;have:n=x:=afQ h;exact this ▸ hx
 ·intro h;exact ⟨n,h,Nat.beq_refl n⟩
theorem tU {all:List Oper} {D:Nat→Prop} {i:Nat} (hD:∀j o,all[j]? =some o→D j→∀e∈o.after,Region.binds .any e=true→D e.on):∀(n j:Nat),pT all n i j=true→D j→D i
 | 0,_,h,_=>by simp [pT] at h
 | n+1,j,h,hj=>by
  unfold pT at h;split at h
  ·rename_i o ho;rw [awJ] at h;obtain ⟨e,he,h2⟩:=h;simp only [Bool.and_eq_true,Bool.or_eq_true] at h2;have hd:=hD j o ho hj e (by simpa using he) h2.1;rcases h2.2 with h3 | h3
   ·have:e.on=i:=afQ h3;exact this ▸ hd
   ·exact tU hD n e.on h3.2 hd
  ·cases h
theorem aAS {all:List Oper} {D:Nat→Prop} {i j:Nat} {o:Oper} (ho:all[j]? =some o) (hD:∀j o,all[j]? =some o→D j→∀e∈o.after,Region.binds .any e=true→D e.on)
  (hr:∀e∈o.after,Region.binds .any e=true→D e.on):∀n,pT all n i j=true→D i
 | 0,h=>by simp [pT] at h
 | n+1,h=>by
  unfold pT at h;rw [ho] at h;simp only [awJ] at h;obtain ⟨e,he,h2⟩:=h;simp only [Bool.and_eq_true,Bool.or_eq_true] at h2;have hd:=hr e (by simpa using he) h2.1;rcases h2.2 with h3 | h3
  ·have:e.on=i:=afQ h3;exact this ▸ hd
  ·exact tU hD n e.on h3.2 hd
end
end Ev
namespace Ev
open Go.RowKit
section
variable {P : Program}
theorem ready_none {ops:Array Oper} {listed:Array Bool} (hsz:listed.size=ops.size) (hdown:∀k x,ops[k]? =some x→∀e∈x.after,Region.binds .any e=true→e.on<k)
  (h:Region.ready .any ops listed=[]):∀k,k<ops.size→listed.getD k false=true:=by
 intro k;induction k using Nat.strongRecOn with
 | _ k ih=>
  intro hk;have ho:ops[k]? =some ops[k]:=Array.getElem?_eq_getElem hk;cases hd:listed.getD k true with
  | false=>
   exfalso;have:k∈Region.ready .any ops listed:=mem_ready.2 ⟨hd,ops[k],ho,fun e he hb=>by
    have hlt:=hdown k _ ho e he hb;exact ih e.on hlt (by omega)⟩
   rw [h] at this;cases this
  | true=>
   have hk':k<listed.size:=by omega
   simp [hk'] at hd ⊢;exact hd
theorem WR {ops:Array Oper} {τ:List AV} {L:dP} {ds:List (AV×dP×List Nm)} {τf:List AV} {Lf:dP} (hrec:Rec P ops.toList ops.toList τ L ds τf Lf)
  (hok:VA ops.toList 0 ops.toList (ds.map rD)=true) {ρ:kP} {a:Act} {w:World} (hM:MT ρ τ a) (hL:ML ρ L w) {Q:Exit→Act→World→Prop}
  (hQ:∀ρ' a' w',Nxt ρ w ρ' w'→MT ρ' τf a'→ML ρ' Lf w'→Q .normal a' w'):wpAny P .any ops Q ops.size (Array.replicate ops.size false) a w:=by
 obtain ⟨f1,f2,f3,f4,f5⟩:=hrec.facts;have hlen:ds.length=ops.size:=by simpa using f1
 have hfoot:∀{k:Nat} {d:AV×dP×List Nm},ds[k]? =some d→(ds.map rD)[k]? =some (rD d):=fun h=>by simp [h]
 have hdown:∀k x,ops[k]? =some x→∀e∈x.after,Region.binds .any e=true→e.on<k:=fun k x hx e he hb=>by
  have hx':ops.toList[k]? =some x:=by simpa using hx
  obtain ⟨v,U,rd,τj,Lj,k1,_⟩:=f3 k x hx';have:=(JH hok hx' (hfoot k1)).1 e he hb;omega
 have hpair:∀i j x y dx dy,i<j→ops[i]? =some x→ops[j]? =some y→ds[i]? =some dx→ds[j]? =some dy→zV ops.toList i j x y (rD dx) (rD dy)=true:=fun i j x y dx dy hij hx hy h1 h2=>by
  have hx':ops.toList[i]? =some x:=by simpa using hx
  have hy':ops.toList[j]? =some y:=by simpa using hy
  have:=(JH hok hx' (hfoot h1)).2 hij hy' (hfoot h2);simpa using this
 have key:∀(fuel:Nat) (listed:Array Bool) (a₁:Act) (w₁:World),listed.size=ops.size→((baJ ops.size).filter fun i=> !listed.getD i false).length≤fuel→
   (∀j o,ops.toList[j]? =some o→listed.getD j false=true→∀e∈o.after,Region.binds .any e=true→listed.getD e.on false=true)→
   (∃ρ₁ τ₁ L₁,Nxt ρ w ρ₁ w₁∧MT ρ₁ τ₁ a₁∧τ₁.length=τ.length∧(∀t,gE τ₁ t=fo (fun j=>listed.getD j false) 0 (usT τ.length t ops.toList ds) (gE τ t))∧
    ML ρ₁ L₁ w₁∧(∀n,iO L₁ n=fo (fun j=>listed.getD j false) 0 (usL n ds) (iO L n)))→wpAny P .any ops Q fuel listed a₁ w₁:=by
  intro fuel;induction fuel with
  | zero=>
   intro listed a₁ w₁ hsz hfu hcl hst;have hall:∀k,k<ops.size→listed.getD k false=true:=fun k hk=>by
    cases hd:listed.getD k false with
    | true=>rfl
    | false=>
     have:k∈(baJ ops.size).filter fun i=> !listed.getD i false:=List.mem_filter.2 ⟨List.mem_range.2 hk,by simp only [hd];rfl⟩;have h0:((baJ ops.size).filter fun i=> !listed.getD i false)=[]:=List.length_eq_zero_iff.1 (by omega);rw [h0] at this;cases this
   have hrd:Region.ready .any ops listed=[]:=by
    cases hq:Region.ready .any ops listed with
    | nil=>rfl
    | cons x xs=>
     have:x∈Region.ready .any ops listed:=by rw [hq];exact List.mem_cons_self
     obtain ⟨h1,o,ho,_⟩:=mem_ready.1 this;have hx:x<ops.size:=(Array.getElem?_eq_some_iff.1 ho).1;have:=hall x hx;have hx':x<listed.size:=by omega
     simp [hx'] at h1 this;rw [h1] at this;cases this
   refine ⟨hrd,?_⟩;obtain ⟨ρ₁,τ₁,L₁,g1,g2,g3,g4,g5,g6⟩:=hst;refine hQ ρ₁ a₁ w₁ g1 (g2.of_get (by rw [f2,g3]) fun t=>?_) (g5.congr fun n=>?_)
   ·rw [f4 t,g4 t];refine nJ _ _ _ fun j hj hne=>absurd ?_ hne;simp only [usT,avJ,List.length_zip] at hj;have:=hall j (by simp at hj;omega);simp only [anQ];exact this.symm
   ·rw [f5 n,g6 n];refine nJ _ _ _ fun j hj hne=>absurd ?_ hne;simp only [usL,avJ] at hj;have:=hall j (by omega);simp only [anQ];exact this.symm
  | succ fuel ih=>
   intro listed a₁ w₁ hsz hfu hcl hst;refine ⟨fun hrd=>?_,fun i hi=>?_⟩
   ·have hall:=ready_none hsz hdown hrd;obtain ⟨ρ₁,τ₁,L₁,g1,g2,g3,g4,g5,g6⟩:=hst;refine hQ ρ₁ a₁ w₁ g1 (g2.of_get (by rw [f2,g3]) fun t=>?_) (g5.congr fun n=>?_)
    ·rw [f4 t,g4 t];refine nJ _ _ _ fun j hj hne=>absurd ?_ hne;simp only [usT,avJ,List.length_zip] at hj;have:=hall j (by simp at hj;omega);simp only [anQ];exact this.symm
    ·rw [f5 n,g6 n];refine nJ _ _ _ fun j hj hne=>absurd ?_ hne;simp only [usL,avJ] at hj;have:=hall j (by omega);simp only [anQ];exact this.symm
   ·obtain ⟨hun,o,ho,hpre⟩:=mem_ready.1 hi;have hi':i<ops.size:=(Array.getElem?_eq_some_iff.1 ho).1;have hil:i<listed.size:=by omega
    have hun':listed.getD i false=false:=by simp [hil] at hun ⊢;exact hun
    have ho':ops.toList[i]? =some o:=by simpa using ho
    obtain ⟨v,U,rd,τi,Li,k1,k2,k3,k4⟩:=f3 i o ho';obtain ⟨ρ₁,τ₁,L₁,g1,g2,g3,g4,g5,g6⟩:=hst;have hcl':∀j o,ops.toList[j]? =some o→(fun j=>listed.getD j false=true) j→∀e∈o.after,Region.binds .any e=true→(fun j=>listed.getD j false=true) e.on:=hcl;have hnw:∀j n,listed.getD j false=false→pT ops.toList n j i=true→False:=fun j n hj hw=>by
     have:=aAS (D:=fun j=>listed.getD j false=true) ho' hcl' hpre n hw;rw [hj] at this;cases this
    have hnw2:∀j n,listed.getD j false=true→pT ops.toList n i j=true→False:=fun j n hj hw=>by
     have:=tU (D:=fun j=>listed.getD j false=true) hcl' n j hw hj;rw [hun'] at this;cases this
    have hap:∀j y dy,ops[j]? =some y→ds[j]? =some dy→listed.getD j false≠decide (j<i)→
      (∀d,y.dst=some d→d∉looks ops.toList o)∧(∀n,n∈rd∨n∈iJ U→n∉iJ dy.2.1):=by
     intro j y dy hy hdy hne;have hji:j≠i:=fun e=>by rw [e,hun'] at hne;simp at hne
     have conc:∀(p q:Nat) (x z:Oper) (dx dz:AV×dP×List Nm),zV ops.toList p q x z (rD dx) (rD dz)=true→pT ops.toList 24 p q=false→
       (∀d,x.dst=some d→d∉looks ops.toList z)∧(∀d,z.dst=some d→d∉looks ops.toList x)∧rE (rD dx) (rD dz)=true:=by
      intro p q x z dx dz hp hw;unfold zV at hp;cases hs:UC x.dst z.dst with
      | true=>rw [hs] at hp;cases hp
      | false=>
       rw [hs,hw] at hp;simp only [cond_false] at hp;cases hc:(!OZ x.dst (looks ops.toList z)&& !OZ z.dst (looks ops.toList x)&&rE (rD dx) (rD dz)) with
       | false=>rw [hc] at hp;cases hp
       | true=>
        simp only [Bool.and_eq_true,Bool.not_eq_true'] at hc;refine ⟨fun d hd hm=>?_,fun d hd hm=>?_,hc.2⟩
        ·have:=hc.1.1;rw [hd] at this;simp only [OZ] at this;rw [XI.2 hm] at this;cases this
        ·have:=hc.1.2;rw [hd] at this;simp only [OZ] at this;rw [XI.2 hm] at this;cases this
     rcases Nat.lt_or_gt_of_ne hji with hlt | hgt
     ·have hjf:listed.getD j false=false:=by
       cases hq:listed.getD j false with
       | false=>rfl
       | true=>rw [hq] at hne;simp [hlt] at hne
      have hp:=hpair j i y o dy (v,U,rd) hlt hy ho hdy k1;have hw:pT ops.toList 24 j i=false:=by
       cases hq:pT ops.toList 24 j i with
       | false=>rfl
       | true=>exact (hnw j 24 hjf hq).elim
      obtain ⟨c1,c2,c3⟩:=conc j i y o dy (v,U,rd) hp hw;refine ⟨c1,fun n hn hm=>?_⟩;simp only [rE,Bool.and_eq_true,rD] at c3;obtain ⟨⟨d1,d2⟩,d3⟩:=c3;rcases hn with hn | hn
      ·exact tD.1 d1 n hm hn
      ·exact tD.1 d2 n hm hn
     ·have hjt:listed.getD j false=true:=by
       cases hq:listed.getD j false with
       | true=>rfl
       | false=>rw [hq] at hne;simp [show ¬j<i by omega] at hne
      have hp:=hpair i j o y (v,U,rd) dy hgt ho hy k1 hdy;have hw:pT ops.toList 24 i j=false:=by
       cases hq:pT ops.toList 24 i j with
       | false=>rfl
       | true=>exact (hnw2 j 24 hjt hq).elim
      obtain ⟨c1,c2,c3⟩:=conc i j o y (v,U,rd) dy hp hw;refine ⟨c2,fun n hn hm=>?_⟩;simp only [rE,Bool.and_eq_true,rD] at c3;obtain ⟨⟨d1,d2⟩,d3⟩:=c3;rcases hn with hn | hn
      ·exact tD.1 d3 n hm hn
      ·exact tD.1 d2 n hn hm
    have atT:∀t j,j<(usT τ.length t ops.toList ds).length→∃y dy,ops[j]? =some y∧ds[j]? =some dy∧(usT τ.length t ops.toList ds)[j]? =some (if y.dst=some t∧t<τ.length then some dy.1 else none):=by
     intro t j hj;simp only [usT,avJ,List.length_zip] at hj;have h1:j<ops.size:=by simp at hj;omega
     have h2:j<ds.length:=by omega
     refine ⟨ops[j],ds[j],Array.getElem?_eq_getElem h1,List.getElem?_eq_getElem h2,?_⟩;have hz:(ops.toList.zip ds)[j]? =some (ops[j],ds[j]):=by
      rw [List.getElem?_zip_eq_some];exact ⟨by simp [h1],by simp [h2]⟩
     unfold usT;rw [List.getElem?_map,hz];rfl
    have atL:∀n j,j<(usL n ds).length→∃y dy,ops[j]? =some y∧ds[j]? =some dy∧(usL n ds)[j]? =some ((iO dy.2.1 n).map some):=by
     intro n j hj;simp only [usL,avJ] at hj;have h1:j<ops.size:=by omega
     refine ⟨ops[j],ds[j],Array.getElem?_eq_getElem h1,List.getElem?_eq_getElem hj,?_⟩;simp [usL,hj]
    have hagT:∀t∈looks ops.toList o,gE τ₁ t=gE τi t:=fun t ht=>by
     rw [g4 t,k3 t];refine nJ _ _ _ fun j hj hne=>?_;simp only [anQ] at hne;obtain ⟨y,dy,q1,q2,q3⟩:=atT t j hj;rw [q3,if_neg];rintro ⟨e,_⟩;exact (hap j y dy q1 q2 hne).1 t e ht
    have hagL:∀n,n∈rd∨n∈iJ U→iO L₁ n=iO Li n:=fun n hn=>by
     rw [g6 n,k4 n];refine nJ _ _ _ fun j hj hne=>?_;simp only [anQ] at hne;obtain ⟨y,dy,q1,q2,q3⟩:=atL n j hj;rw [q3];have:=(hap j y dy q1 q2 hne).2 n hn;rw [oL.2 this];rfl
    refine QQ ho k2 g2 hagT g5 hagL fun ρ' a' w' h1 h2 h3=>?_;have hset:∀j,j≠i→(listed.setIfInBounds i true).getD j false=listed.getD j false:=fun j hj=>getD_set_ne false (Ne.symm hj);have hseti:(listed.setIfInBounds i true).getD i false=true:=by simp [hil]
    refine ih _ a' w' (by simpa using hsz) ?_ ?_ ?_
    ·have hsub:((baJ ops.size).filter fun k=> !(listed.setIfInBounds i true).getD k false).length<((baJ ops.size).filter fun k=> !listed.getD k false).length:=by
      have e:((baJ ops.size).filter fun k=> !(listed.setIfInBounds i true).getD k false)=((baJ ops.size).filter fun k=> !listed.getD k false).filter (fun k=>k != i):=by
       rw [List.filter_filter];refine List.filter_congr fun k hk=>?_;by_cases e:k=i
       ·subst e;rw [hseti];simp
       ·rw [hset k e];simp [e]
      rw [e];have hmem:i∈(baJ ops.size).filter fun k=> !listed.getD k false:=List.mem_filter.2 ⟨List.mem_range.2 hi',by simp only [hun'];rfl⟩;exact List.length_filter_lt_length_iff_exists.2 ⟨i,hmem,by simp⟩
     omega
    ·intro j y hy hj e he hb;by_cases q:j=i
     ·subst q;have:y=o:=by rw [ho'] at hy;exact (afJ.inj hy).symm
      subst this;exact getD_set_true (hpre e he hb)
     ·rw [hset j q] at hj;exact getD_set_true (hcl j y hy hj e he hb)
    ·refine ⟨ρ',_,_,g1.trans h1,h2,by rw [qF];exact g3,fun t=>?_,h3,fun n=>?_⟩
     ·rw [KK,g4 t,g3];have hd:i<(usT τ.length t ops.toList ds).length:=by
       simp only [usT,avJ,List.length_zip];simp;omega
      obtain ⟨y,dy,q1,q2,q3⟩:=atT t i hd;have e1:y=o:=by rw [ho] at q1;exact (afJ.inj q1).symm
      have e2:dy=(v,U,rd):=by rw [k1] at q2;exact (afJ.inj q2).symm
      subst e1 e2;symm;refine fo_add (p:=i) (fun j hj=>hset j hj) hseti hun' _ 0 _ _ (adX _) (by simpa using q3) fun j hj hlt hD hs=>?_;simp only [Nat.sub_zero] at hlt ⊢;obtain ⟨z,dz,p1,p2,p3⟩:=atT t j hlt;rw [p3];split at hs
      ·rename_i hc;rw [if_neg];rintro ⟨e,_⟩;have hp:=hpair i j y z (v,U,rd) dz hj ho p1 k1 p2;unfold zV at hp;rw [hc.1,e] at hp;simp [UC] at hp
      ·cases hs
     ·rw [SD,g6 n];have hd:i<(usL n ds).length:=by
       simp only [usL,avJ];omega
      obtain ⟨y,dy,q1,q2,q3⟩:=atL n i hd;have e2:dy=(v,U,rd):=by rw [k1] at q2;exact (afJ.inj q2).symm
      subst e2;symm;refine fo_add (p:=i) (fun j hj=>hset j hj) hseti hun' _ 0 _ _ (adX _) (by simpa using q3) fun j hj hlt hD hs=>?_;simp only [Nat.sub_zero] at hlt ⊢;obtain ⟨z,dz,p1,p2,p3⟩:=atL n j hlt;rw [p3];have hin:n∈iJ U:=LE.2 (by simpa using hs);have hne:listed.getD j false≠decide (j<i):=by rw [hD];simp [show ¬j<i by omega]
      have:=(hap j z dz p1 p2 hne).2 n (.inr hin);rw [oL.2 this];rfl
 have allF:∀j,(Array.replicate ops.size false).getD j false=false:=fun j=>by
  rw [Array.getD_eq_getD_getElem?,Array.getElem?_replicate];split<;>rfl
 refine key ops.size (Array.replicate ops.size false) a w (by simp) ?_ ?_ ⟨ρ,τ,L,Nxt.refl ρ w,hM,rfl,fun t=>?_,hL,fun n=>?_⟩
 ·refine alQ (List.length_filter_le _ _) ?_;simp
 ·intro j o hj hl;rw [allF j] at hl;cases hl
 ·refine (xI _ _ _ fun j hj h=>?_).symm;rw [allF] at h;cases h
 ·refine (xI _ _ _ fun j hj h=>?_).symm;rw [allF] at h;cases h
end
end Ev
namespace Ev
open Go.RowKit
section
variable {P : Program}
def RA (σ':St) (e:Ex) (ρ:kP) (w:World):Exit→Act→World→Prop:=fun e' a' w'=>e'=e.cv∧∃ρ',Nxt ρ w ρ' w'∧MT ρ' σ'.τ a'∧ML ρ' σ'.L w'
def Does (P:Program) (c:Code) (σ:St) (e:Ex) (σ':St):Prop:=∀ρ a w,MT ρ σ.τ a→ML ρ σ.L w→c.wp P (RA σ' e ρ w) a w
theorem RA.trans {σ':St} {e:Ex} {ρ ρ₁:kP} {w w₁:World} (h:Nxt ρ w ρ₁ w₁) {e':Exit} {a':Act} {w':World} (k:RA σ' e ρ₁ w₁ e' a' w'):RA σ' e ρ w e' a' w':=by
 obtain ⟨h1,ρ',h2,h3⟩:=k;exact ⟨h1,ρ',h.trans h2,h3⟩
theorem WZ {τ:List AV} {x:Operand} {b:Bool} (h:mC τ x=.v (.bool b)):fix τ x b=τ:=by
 cases x with
 | tmp t=>
  simp only [mC,gE] at h;cases hx:τ[t]? with
  | none=>simp only [fix];exact List.set_eq_of_length_le (List.getElem?_eq_none_iff.1 hx)
  | some y=>
   rw [hx] at h;simp only at h;subst h;exact aAD hx
 | _=>rfl
section
variable {α : Type} {E : List (TypeId × Nat)} {C : List FuncId} {call : FuncId → List AV → dP → Nm → (AV → dP → Option α) → Option α}
theorem KV {b:Code} {F:(Ex→St→Option α)→St→Option α} (hF:∀k σ r,F k σ=some r→∃e σ',k e σ'=some r∧Does P b σ e σ'):
  ∀(n:Nat) (k:Ex→St→Option α) (σ:St) (r:α),iter F n k σ=some r→∃e σ',k e σ'=some r∧∀ρ a w,MT ρ σ.τ a→ML ρ σ.L w→Code.rounds P b (RA σ' e ρ w) n a w
 | 0,_,_,_,h=>by simp [iter] at h
 | n+1,k,σ,r,h=>by
  unfold iter at h;obtain ⟨e1,σ1,h1,h2⟩:=hF _ _ _ h;cases e1 with
  | norm=>
   obtain ⟨e,σ',h3,h4⟩:=KV hF n k σ1 r h1;refine ⟨e,σ',h3,fun ρ a w hM hL=>?_⟩;rw [rounds_succ];refine wp_mono (h2 ρ a w hM hL) fun e' a' w' hp=>?_;obtain ⟨rfl,ρ',g1,g2,g3⟩:=hp;show Code.rounds P b (RA σ' e ρ w) n a' w';have:=h4 ρ' a' w' g2 g3;exact rounds_mono n (fun e' a' w' hq=>RA.trans g1 hq) a' w' this
  | ex i=>
   refine ⟨_,_,h1,fun ρ a w hM hL=>?_⟩;rw [rounds_succ];refine wp_mono (h2 ρ a w hM hL) fun e' a' w' hp=>?_;have h5:=hp.1;subst h5;exact hp
  | ret=>
   refine ⟨_,_,h1,fun ρ a w hM hL=>?_⟩;rw [rounds_succ];refine wp_mono (h2 ρ a w hM hL) fun e' a' w' hp=>?_;have h5:=hp.1;subst h5;exact hp
where
 rounds_mono {b:Code} {Q Q':Exit→Act→World→Prop}:∀(n:Nat),(∀e a w,Q e a w→Q' e a w)→∀a w,Code.rounds P b Q n a w→Code.rounds P b Q' n a w
  | 0,_,_,_,h=>h.elim
  | n+1,hq,a,w,h=>by
   rw [rounds_succ] at h ⊢
   refine wp_mono h fun e' a' w' hp=>?_
   cases e' with
   | normal=>exact rounds_mono n hq a' w' hp
   | _=>exact hq _ _ _ hp
theorem evC_sound (hm:P.follows .mixedOrders=true) (hE:∀e∈E,qU P e) (hC:∀g∈C,lE P g) (hcall:JA P call) (lim:Nat):
  ∀(c:Code) (k:Ex→St→Option α) (σ:St) (r:α),UP P E C call lim c k σ=some r→∃e σ',k e σ'=some r∧Does P c σ e σ':=by
 intro c;induction c with
 | skip=>intro k σ r h;exact ⟨.norm,σ,h,fun ρ a w hM hL=>wp_skip ⟨rfl,ρ,Nxt.refl ρ w,hM,hL⟩⟩
 | ret=>intro k σ r h;exact ⟨.ret,σ,h,fun ρ a w hM hL=>wp_ret ⟨rfl,ρ,Nxt.refl ρ w,hM,hL⟩⟩
 | exit i=>intro k σ r h;exact ⟨.ex i,σ,h,fun ρ a w hM hL=>wp_exit ⟨rfl,ρ,Nxt.refl ρ w,hM,hL⟩⟩
 | seq x y ihx ihy=>
  intro k σ r h;unfold UP at h;obtain ⟨e1,σ1,h1,h2⟩:=ihx _ _ _ h;cases e1 with
  | norm=>
   obtain ⟨e,σ',h3,h4⟩:=ihy _ _ _ h1;refine ⟨e,σ',h3,fun ρ a w hM hL=>wp_seq (wp_mono (h2 ρ a w hM hL) fun e' a' w' hp=>?_)⟩;obtain ⟨rfl,ρ',g1,g2,g3⟩:=hp;exact wp_mono (h4 ρ' a' w' g2 g3) fun _ _ _ hq=>RA.trans g1 hq
  | ex i=>
   refine ⟨_,_,h1,fun ρ a w hM hL=>wp_seq (wp_mono (h2 ρ a w hM hL) fun e' a' w' hp=>?_)⟩;have h5:=hp.1;subst h5;exact hp
  | ret=>
   refine ⟨_,_,h1,fun ρ a w hM hL=>wp_seq (wp_mono (h2 ρ a w hM hL) fun e' a' w' hp=>?_)⟩;have h5:=hp.1;subst h5;exact hp
 | region id ops draw=>
  intro k σ r h;unfold UP at h;obtain ⟨ds,τf,Lf,h1,h2,h3⟩:=vT hE hC hcall _ _ _ _ _ h;refine ⟨.norm,_,h3,fun ρ a w hM hL=>?_⟩;cases draw with
  | false=>
   refine wp_region ?_;have:=text_sound (Q:=RA ⟨τf,Lf,σ.c+1,σ.pre⟩ .norm ρ w) h1 0 (by simp) hM hL fun ρ' a' w' g1 g2 g3=>⟨rfl,ρ',g1,g2,g3⟩;rw [List.range_eq_range'];simpa using this
  | true=>
   refine wp_region_any hm ?_;refine WR h1 (by simpa using h2) hM hL.drew fun ρ' a' w' g1 g2 g3=>⟨rfl,ρ',Nxt.drew.trans g1,g2,g3⟩
 | cond x a b iha ihb=>
  intro k σ r h;unfold UP at h;split at h
  ·rename_i t ht;cases t with
   | true=>
    rw [WZ ht] at h;simp only [cond_true] at h;obtain ⟨e,σ',h3,h4⟩:=iha _ _ _ h;refine ⟨e,σ',h3,fun ρ a' w hM hL=>?_⟩;have hx:=fK hM x;rw [ht] at hx;exact wp_cond_true (by simpa [jE] using hx.symm) (h4 ρ a' w hM hL)
   | false=>
    rw [WZ ht] at h;simp only [cond_false] at h;obtain ⟨e,σ',h3,h4⟩:=ihb _ _ _ h;refine ⟨e,σ',h3,fun ρ a' w hM hL=>?_⟩;have hx:=fK hM x;rw [ht] at hx;exact wp_cond_false (by simpa [jE] using hx.symm) (h4 ρ a' w hM hL)
  ·cases h
 | block i b ih=>
  intro k σ r h;unfold UP at h;obtain ⟨e1,σ1,h1,h2⟩:=ih _ _ _ h;cases e1 with
  | norm=>
   refine ⟨_,_,h1,fun ρ a w hM hL=>wp_block (wp_mono (h2 ρ a w hM hL) fun e' a' w' hp=>?_)⟩;have h5:=hp.1;subst h5;exact hp
  | ret=>
   refine ⟨_,_,h1,fun ρ a w hM hL=>wp_block (wp_mono (h2 ρ a w hM hL) fun e' a' w' hp=>?_)⟩;have h5:=hp.1;subst h5;exact hp
  | ex j=>
   cases hj:alZ j i with
   | true=>
    simp only [hj,cond_true] at h1;refine ⟨_,_,h1,fun ρ a w hM hL=>wp_block (wp_mono (h2 ρ a w hM hL) fun e' a' w' hp=>?_)⟩;obtain ⟨h5,h6⟩:=hp;subst h5;have e:j=i:=afQ hj;show Exit.inBlock i _ (.exit j) a' w';simp only [Exit.inBlock,e,if_true];exact ⟨rfl,h6⟩
   | false=>
    simp only [hj,cond_false] at h1;refine ⟨_,_,h1,fun ρ a w hM hL=>wp_block (wp_mono (h2 ρ a w hM hL) fun e' a' w' hp=>?_)⟩;obtain ⟨h5,h6⟩:=hp;subst h5;have e:j≠i:=fun q=>by subst q;simp at hj
    show Exit.inBlock i _ (.exit j) a' w';simp only [Exit.inBlock,e,if_false];exact ⟨rfl,h6⟩
 | loop b ih=>
  intro k σ r h;unfold UP at h;obtain ⟨e,σ',h1,h2⟩:=KV ih lim k σ r h;exact ⟨e,σ',h1,fun ρ a w hM hL=>wp_loop_rounds lim (h2 ρ a w hM hL)⟩
 | rangeFunc f ps a b iha ihb=>intro k σ r h;simp [UP] at h
 | scope b ih=>intro k σ r h;simp [UP] at h
 | label l=>intro k σ r h;simp [UP] at h
 | goto l=>intro k σ r h;simp [UP] at h
 | refuse s=>intro k σ r h;simp [UP] at h
end
def resF (tmps:Array Value):ResultVar→Sem Value
 | .tmp t=>pure (tmps.getD t undef)
 | .cell a t=>do loadVar t (←asAddr (tmps.getD a undef))
theorem MA {σ:St} {rv:ResultVar} {x:AV} (h:LZ P σ rv=some x) {ρ:kP} {a:Act} {w:World} (hM:MT ρ σ.τ a) (hL:ML ρ σ.L w):∃u,jE ρ x=some u∧(resF a.tmps rv).run P w=.ok u w:=by
 cases rv with
 | tmp t=>
  simp only [LZ,afJ.injEq] at h;subst h;exact ⟨_,IE hM t,rfl⟩
 | cell p t=>
  simp only [LZ] at h;split at h
  ·rename_i n off hp;split at h
   ·rename_i b hb;have h1:=IE hM p;rw [hp] at h1;simp only [jE,acX] at h1;obtain ⟨c,hc,e⟩:=h1;obtain ⟨vs,h2,h3⟩:=hL.blk n c b hc hb;obtain ⟨u,h4,h5⟩:=pQ h h2 h3;refine ⟨u,h4,?_⟩;simp only [resF,←e,asAddr,Sem.run_bind,Sem.run_pure,Result.andThen_ok,h5]
   ·cases h
  ·cases h
theorem FL {σ:St} {ρ:kP} {a:Act} {w:World} (hM:MT ρ σ.τ a) (hL:ML ρ σ.L w):∀(l:List ResultVar) (vs:List Value),oP P σ l=some vs→(l.mapM (resF a.tmps)).run P w=.ok vs w
 | [],vs,h=>by simp [oP] at h;subst h;simp
 | r::l,vs,h=>by
  unfold oP at h;split at h
  ·rename_i x hx;split at h
   ·rename_i m hm;simp only [afJ.injEq] at h;subst h;obtain ⟨u,h1,h2⟩:=MA hx hM hL;simp only [jE,afJ.injEq] at h1;subst h1;have h3:=FL hM hL l m hm;simp [List.mapM_cons,h2,h3]
   ·cases h
  ·cases h
theorem wP {σ:St}:∀(l:List ResultVar) (vs:List Value),oP P σ l=some vs→vs.length=l.length
 | [],vs,h=>by simp [oP] at h;subst h;rfl
 | r::l,vs,h=>by
  unfold oP at h;split at h
  ·split at h
   ·rename_i m hm;simp only [afJ.injEq] at h;subst h;simp [wP l m hm]
   ·cases h
  ·cases h
theorem aAf {fn:Func} {σ:St} {x:AV} (h:resA P σ fn.results.toList=some x) {ρ:kP} {a:Act} {w:World} (hM:MT ρ σ.τ a) (hL:ML ρ σ.L w):∃u,jE ρ x=some u∧(results fn a.tmps).run P w=.ok u w:=by
 have e:results fn a.tmps=(do
   let vs ←fn.results.mapM (resF a.tmps)
   pure (if h:vs.size=1 then vs[0] else .tuple vs)):=by
  unfold results;congr 1
 rw [e,Array.mapM_eq_mapM_toList];cases hl:fn.results.toList with
 | nil=>
  rw [hl] at h;simp only [resA,oP,afJ.injEq] at h;subst h;exact ⟨_,rfl,by simp⟩
 | cons r l=>
  rw [hl] at h;cases l with
  | nil=>
   simp only [resA] at h;obtain ⟨u,h1,h2⟩:=MA h hM hL;exact ⟨u,h1,by simp [h2]⟩
  | cons r' l=>
   simp only [resA] at h;split at h
   ·rename_i vs hvs;simp only [afJ.injEq] at h;subst h;have h3:=FL hM hL _ vs hvs;have h4:=wP _ vs hvs;refine ⟨_,rfl,?_⟩;simp only [Sem.run_bind,Sem.run_map,h3,Sem.run_pure];simp [Result.andThen,h4]
   ·cases h
def aJ (P:Program) (O:aZ):Prop:=∀g h,look O g=some h→∀args L b r L',h args L=some (b,r,L')→b=true→jN P g args L r L'
theorem DL {α:Type} {E:List (TypeId×Nat)} {C:List FuncId} {O:aZ} (hm:P.follows .mixedOrders=true) (hE:∀e∈E,qU P e) (hC:∀g∈C,lE P g) (hO:aJ P O) (lim:Nat):∀d,JA (α:=α) P (evF P E C O lim d)
 | 0=>fun g args L nm k r h=>by simp [evF] at h
 | d+1=>fun g args L nm k r h=>by
  unfold evF at h;split at h
  ·rename_i f hf;split at h
   ·rename_i b v L' hv;cases b with
    | false=>cases h
    | true=>exact ⟨v,L',hO g f hf args L true v L' hv rfl,h⟩
   ·cases h
  ·split at h
   ·rename_i fn hfn;split at h
    ·rename_i c hc;obtain ⟨e,σ',h1,h2⟩:=evC_sound hm hE hC (DL hm hE hC hO lim d) lim _ _ _ _ h;have fin:(∀i,e≠.ex i)→(match resA P σ' fn.results.toList with | some r=>k r σ'.L | none=>none)=some r→∃v L',jN P g args L v L'∧k v L'=some r:=fun hne hk=>by
      split at hk
      ·rename_i v hv;refine ⟨v,σ'.L,?_,hk⟩;intro ρ w vs hvs hL;refine calls_of_wp hfn hc ?_;have hM:MT ρ (args++List.replicate (fn.ntmps-args.length) (.v undef)) {tmps:=(⟨vs⟩:Array Value)++Array.replicate (fn.ntmps-(⟨vs⟩:Array Value).size) undef,defers:=[]}:=by
        refine ⟨rfl,?_⟩;have hl:=vG hvs;have:((⟨vs⟩:Array Value)++Array.replicate (fn.ntmps-(⟨vs⟩:Array Value).size) undef).toList=vs++List.replicate (fn.ntmps-args.length) undef:=by
         simp [hl]
        rw [this];exact iP hvs (JI _ _)
       refine wp_mono (h2 ρ _ w hM hL) fun e' a' w' hp=>?_;obtain ⟨h5,ρ',g1,g2,g3⟩:=hp;obtain ⟨u,h6,h7⟩:=aAf hv g2 g3;subst h5;cases e with
       | norm=>exact ⟨g2.1,u,h7,u,ρ',rfl,g1,h6,g3⟩
       | ret=>exact ⟨g2.1,u,h7,u,ρ',rfl,g1,h6,g3⟩
       | ex i=>exact absurd rfl (hne i)
      ·cases hk
     cases e with
     | norm=>exact fin (by simp) h1
     | ret=>exact fin (by simp) h1
     | ex i=>simp at h1
    ·cases h
   ·cases h
end
end Ev
namespace Ev
open Go.RowKit
section
variable {P : Program}
def aH (P:Program) (g:FuncId) (vs:List Value) (V:Value):Prop:=∀w,gF w→Calls P g ⟨vs⟩ w fun e w'=>e=.returned V∧Below w.heap.size w w'
theorem pD {g:FuncId} {vs:List Value} {V:Value} (h:∀w,Calls P g ⟨vs⟩ w fun e w'=>e=.returned V∧Below w.heap.size w w'):aH P g vs V:=fun w _=>h w
def YT (r:AV) (_:dP):Option AV:=some r
theorem ML_empty {w:World} (h:gF w):ML (fun _=>none) [] w:=⟨fun n=>rfl,fun n b k q=>(by cases q),fun n m b q=>(by cases q),h,fun e _ n q=>(by cases q)⟩
theorem runs_gives {g:FuncId} {vs:List Value} {V:Value} {L':dP} (h:jN P g (vs.map AV.v) [] (.v V) L'):aH P g vs V:=by
 intro w hw;refine (h (fun _=>none) w vs (kK vs) (ML_empty hw)).mono ?_;rintro e w' ⟨v,ρ',rfl,hN,hv,_⟩;simp only [jE,afJ.injEq] at hv;subst hv;exact ⟨rfl,hN.os,hN.tape,hN.output,hN.size,fun k hk=>hN.old k hk fun n q=>by cases q⟩
theorem cZ {g:FuncId} {vs:List Value} {V:Value} (h:aH P g vs V):jN P g (vs.map AV.v) [] (.v V) []:=by
 intro ρ w us hu hL;rw [kK] at hu;cases hu;refine (h w hL.glb).mono ?_;rintro e w' ⟨rfl,hb⟩;have hn:∀n,ρ n=none:=fun n=>by
  have:=hL.dom n;simp only [iO,Option.isSome_none] at this;cases hq:ρ n with
  | none=>rfl
  | some b=>rw [hq] at this;cases this
 exact ⟨V,ρ,rfl,⟨NG.refl ρ,hb.os,hb.tape,hb.output,hb.size,fun k hk _=>hb.block k hk,fun n b q q'=>by rw [q'] at q;cases q⟩,rfl,
  ⟨hL.dom,fun n b k q=>(by rw [hn n] at q;cases q),fun n m b q=>(by rw [hn n] at q;cases q),hL.glb.of fun g hg _=>hb.block g hg,hL.far⟩⟩
theorem oT {E:List (TypeId×Nat)} {C:List FuncId} {O:aZ} (hm:P.follows .mixedOrders=true) (hE:∀e∈E,qU P e) (hC:∀g∈C,lE P g) (hO:aJ P O) {lim d:Nat} {g:FuncId} {vs:List Value} {nm:Nm} {V:Value}
  (h:evF P E C O lim d g (vs.map AV.v) [] nm YT=some (.v V)):aH P g vs V:=by
 obtain ⟨v,L',h1,h2⟩:=DL hm hE hC hO lim d g _ _ _ _ _ h;simp only [YT,afJ.injEq] at h2;subst h2;exact runs_gives h1
theorem runs_one {g:FuncId} {us vs:List Value} {off:Nat} {k:nG} {V:Value} {L':dP} {cs:List Value} {k':nG} (h:jN P g (us.map AV.v++.p [] off::vs.map AV.v) [([],k)] (.v V) L') (hk:NP k.cells=[])
  (hg:iO L' []=some k') (hc:allV k'.cells=some cs) (n:Nm):jN P g (us.map AV.v++.p n off::vs.map AV.v) [(n,k)] (.v V) [(n,⟨cs.map CV.v,k'.ty⟩)]:=by
 intro ρ w zs hz hL;have hρn:∃b,ρ n=some b:=by
  have:=hL.dom n;rw [gI,if_pos rfl] at this;cases hq:ρ n with
  | none=>rw [hq] at this;cases this
  | some b=>exact ⟨b,rfl⟩
 obtain ⟨b,hb⟩:=hρn;obtain ⟨xs,q1,q2⟩:=hL.blk n b k hb (by rw [gI,if_pos rfl]);have hML:ML (fun m=>if m=[] then some b else none) [([],k)] w:=by
  refine ⟨fun m=>?_,fun m c l q hg=>?_,fun m m' c q q'=>?_,hL.glb,fun e he m q=>?_⟩
  ·rw [gI];by_cases e:m=[]
   ·subst e;simp
   ·have e':¬[]=m:=fun q=>e q.symm;simp [e,e',iO]
  ·(try dsimp only at q)
   split at q
   ·rename_i e;subst e;cases q;rw [gI,if_pos rfl] at hg;cases hg;refine ⟨xs,?_,q2⟩;have:=qZ (ρ:=ρ) (ks:=[]) (l:=k.cells) (vs:=xs) (by rw [hk];rfl) q1;exact nI (fun m c q=>by have:=(lG q).1;simp [PG] at this) this
   ·cases q
  ·(try dsimp only at q q')
   split at q<;>split at q'
   ·rename_i e e';rw [e,e']
   ·cases q'
   ·cases q
   ·cases q
  ·(try dsimp only at q)
   split at q
   ·cases q;exact hL.far e he n hb
   ·cases q
 have hz':fN (fun m:Nm=>if m=[] then some b else none) (us.map AV.v++.p [] off::vs.map AV.v)=some zs:=by
  have h1:fN ρ (us.map AV.v++.p n off::vs.map AV.v)=some (us++.pointer (some ⟨b,off,none⟩)::vs):=
   iP (kK us) (by simp [fN,jE,hb,kK])
  rw [h1] at hz;cases hz;exact iP (kK us) (by simp [fN,jE,kK])
 refine (h _ w zs hz' hML).mono ?_;rintro e w' ⟨v,ρ',rfl,hN,hv,hM'⟩;have hr:ρ' []=some b:=hN.ext [] b (by simp);obtain ⟨ys,p1,p2⟩:=hM'.blk [] b k' hr hg;have hys:ys=cs:=by
  have:=RC (ρ:=ρ') hc;rw [p1] at this;exact afJ.inj this
 subst hys;refine ⟨v,ρ,rfl,⟨NG.refl ρ,hN.os,hN.tape,hN.output,hN.size,fun j hj hn=>hN.old j hj fun m q=>?_,fun m c q q'=>by rw [q'] at q;cases q⟩,hv,⟨fun m=>?_,fun m c l q hg'=>?_,hL.inj,hM'.glb,hL.far⟩⟩
 ·(try dsimp only at q)
  split at q
  ·cases q;exact hn n hb
  ·cases q
 ·have:=hL.dom m;rw [gI] at this ⊢;by_cases e:n=m
  ·rw [if_pos e] at this ⊢;exact this
  ·rw [if_neg e] at this ⊢;exact this
 ·rw [gI] at hg';split at hg'
  ·rename_i e;cases hg';subst e;rw [hb] at q;cases q;exact ⟨ys,oR ys,p2⟩
  ·cases hg'
theorem cO:aJ P []:=fun g h q=>by simp [look] at q
theorem aA {g:FuncId} {h:CP} {O:aZ} (h1:∀args L b r L',h args L=some (b,r,L')→b=true→jN P g args L r L') (h2:aJ P O):aJ P ((g,h)::O):=fun f h' q=>by
 unfold look at q;cases e:alZ g f with
 | true=>
  rw [e] at q;simp only [cond_true,afJ.injEq] at q;subst q;have:g=f:=afQ e;subst this;exact h1
 | false=>
  rw [e] at q;exact h2 f h' q
theorem WA {g:FuncId} {fn:Func} (hf:P.funcs[g]? =some fn) (hn:(fn.name== "runtime.NumGoroutine")=false) (hb:fn.body.isNone=false):lE P g:=by
 intro args w;have hb':¬fn.body=none:=fun e=>by rw [e] at hb;cases hb
 have hn':¬fn.name= "runtime.NumGoroutine" :=fun e=>by rw [e] at hn;simp at hn
 simp [callFunc,hf,hn',hb']
end
def lt {α β:Type} (a:α) (f:α→β):β:=f a
theorem aT {α β:Type} {b:Bool} {X Y:Option α} {x y:β} (g:β→α) (h1:X=some (g x)) (h2:Y=some (g y)):cond b X Y=some (g (cond b x y)):=by cases b<;>assumption
theorem cG {α β γ:Type} {a:γ} {X:γ→Option α} {x:γ→β} (g:β→α) (h:∀c,X c=some (g (x c))):lt a X=some (g (lt a x)):=h a
def gW (P:Program) (g:FuncId) (ty:TypeId) (c:Int) (vs:List Value) (V:Value) (c':Int):Prop:=
 ∀n,jN P g (.p n 0::vs.map AV.v) [(n,⟨[.v (.int .i64 c)],ty⟩)] (.v V) [(n,⟨[.v (.int .i64 c')],ty⟩)]
def lastC (r:AV) (L:dP):Option (AV×nG):=
 match iO L [] with
 | some b=>some (r,b)
 | none=>none
theorem evF_mods {P:Program} {E:List (TypeId×Nat)} {C:List FuncId} {O:aZ} (hm:P.follows .mixedOrders=true) (hE:∀e∈E,qU P e) (hC:∀g∈C,lE P g) (hO:aJ P O) {lim d:Nat} {g:FuncId} {vs:List Value} {nm:Nm} {V:Value} {ty:TypeId} {c c':Int}
  (h:evF P E C O lim d g (.p [] 0::vs.map AV.v) [([],⟨[.v (.int .i64 c)],ty⟩)] nm lastC=some (.v V,⟨[.v (.int .i64 c')],ty⟩)):gW P g ty c vs V c':=by
 intro n;obtain ⟨v,L',h1,h2⟩:=DL hm hE hC hO lim d g _ _ _ _ _ h;unfold lastC at h2;split at h2
 ·rename_i b hb;simp only [afJ.injEq,Prod.mk.injEq] at h2;obtain ⟨rfl,rfl⟩:=h2;exact runs_one (us:=[]) (vs:=vs) (cs:=[.int .i64 c']) h1 rfl hb rfl n
 ·cases h2
def bJ (c e:Int):Int:=if c=0 then e else c
section
variable {P : Program} {g : FuncId}
def e0 (F:Value):CP
 | [],[]=>some (true,.v F,[])
 | _,_=>none
theorem e0_ok {F:Value} (h:aH P g [] F) (args:List AV) (L:dP) (z:Bool) (r:AV) (L':dP) (q:e0 F args L=some (z,r,L')) (_:z=true):jN P g args L r L':=by
 unfold e0 at q;split at q
 ·cases q;exact cZ h
 ·cases q
def eP (F:Int→Int→Value):CP
 | [.v (.agg ⟨[.int .i64 a,.int .i64 b]⟩)],[]=>some (true,.v (F a b),[])
 | _,_=>none
theorem cF {F:Int→Int→Value} (h:∀a b,aH P g [.agg ⟨[.int .i64 a,.int .i64 b]⟩] (F a b)) (args:List AV) (L:dP) (z:Bool) (r:AV) (L':dP) (q:eP F args L=some (z,r,L')) (_:z=true):jN P g args L r L':=by
 unfold eP at q;split at q
 ·cases q;exact cZ (h _ _)
 ·cases q
def ePif (p:Int→Int→Bool) (F:Int→Int→Value):CP
 | [.v (.agg ⟨[.int .i64 a,.int .i64 b]⟩)],[]=>some (p a b,.v (F a b),[])
 | _,_=>none
theorem RV {p:Int→Int→Bool} {F:Int→Int→Value} (h:∀a b,p a b=true→aH P g [.agg ⟨[.int .i64 a,.int .i64 b]⟩] (F a b)) (args:List AV) (L:dP) (z:Bool) (r:AV) (L':dP) (q:ePif p F args L=some (z,r,L')) (hz:z=true):jN P g args L r L':=by
 unfold ePif at q;split at q
 ·cases q;exact cZ (h _ _ hz)
 ·cases q
def nX (F:Int→Int→Int→Int→Value):CP
 | [.v (.agg ⟨[.int .i64 a,.int .i64 b]⟩),.v (.agg ⟨[.int .i64 c,.int .i64 d]⟩)],[]=>some (true,.v (F a b c d),[])
 | _,_=>none
theorem cH {F:Int→Int→Int→Int→Value} (h:∀a b c d,aH P g [.agg ⟨[.int .i64 a,.int .i64 b]⟩,.agg ⟨[.int .i64 c,.int .i64 d]⟩] (F a b c d)) (args:List AV) (L:dP) (z:Bool) (r:AV) (L':dP) (q:nX F args L=some (z,r,L')) (_:z=true):jN P g args L r L':=by
 unfold nX at q;split at q
 ·cases q;exact cZ (h _ _ _ _)
 ·cases q
def PA (p:Int→Int→Int→Int→Bool) (F:Int→Int→Int→Int→Value):CP
 | [.v (.agg ⟨[.int .i64 a,.int .i64 b]⟩),.v (.agg ⟨[.int .i64 c,.int .i64 d]⟩)],[]=>some (p a b c d,.v (F a b c d),[])
 | _,_=>none
theorem BF {p:Int→Int→Int→Int→Bool} {F:Int→Int→Int→Int→Value} (h:∀a b c d,p a b c d=true→aH P g [.agg ⟨[.int .i64 a,.int .i64 b]⟩,.agg ⟨[.int .i64 c,.int .i64 d]⟩] (F a b c d)) (args:List AV) (L:dP) (z:Bool) (r:AV) (L':dP) (q:PA p F args L=some (z,r,L')) (hz:z=true):jN P g args L r L':=by
 unfold PA at q;split at q
 ·cases q;exact cZ (h _ _ _ _ hz)
 ·cases q
def eI (F:Int→Value):CP
 | [.v (.int .i64 a)],[]=>some (true,.v (F a),[])
 | _,_=>none
theorem FA {F:Int→Value} (h:∀a,aH P g [.int .i64 a] (F a)) (args:List AV) (L:dP) (z:Bool) (r:AV) (L':dP) (q:eI F args L=some (z,r,L')) (_:z=true):jN P g args L r L':=by
 unfold eI at q;split at q
 ·cases q;exact cZ (h _)
 ·cases q
def eIif (p:Int→Bool) (F:Int→Value):CP
 | [.v (.int .i64 a)],[]=>some (p a,.v (F a),[])
 | _,_=>none
theorem RU {p:Int→Bool} {F:Int→Value} (h:∀a,p a=true→aH P g [.int .i64 a] (F a)) (args:List AV) (L:dP) (z:Bool) (r:AV) (L':dP) (q:eIif p F args L=some (z,r,L')) (hz:z=true):jN P g args L r L':=by
 unfold eIif at q;split at q
 ·cases q;exact cZ (h _ hz)
 ·cases q
def eII (F:Int→Int→Value):CP
 | [.v (.int .i64 a),.v (.int .i64 b)],[]=>some (true,.v (F a b),[])
 | _,_=>none
theorem pB {F:Int→Int→Value} (h:∀a b,aH P g [.int .i64 a,.int .i64 b] (F a b)) (args:List AV) (L:dP) (z:Bool) (r:AV) (L':dP) (q:eII F args L=some (z,r,L')) (_:z=true):jN P g args L r L':=by
 unfold eII at q;split at q
 ·cases q;exact cZ (h _ _)
 ·cases q
def rB (p:Int→Int→Bool) (F:Int→Int→Value):CP
 | [.v (.int .i64 a),.v (.int .i64 b)],[]=>some (p a b,.v (F a b),[])
 | _,_=>none
theorem jY {p:Int→Int→Bool} {F:Int→Int→Value} (h:∀a b,p a b=true→aH P g [.int .i64 a,.int .i64 b] (F a b)) (args:List AV) (L:dP) (z:Bool) (r:AV) (L':dP) (q:rB p F args L=some (z,r,L')) (hz:z=true):jN P g args L r L':=by
 unfold rB at q;split at q
 ·cases q;exact cZ (h _ _ hz)
 ·cases q
def ePI (F:Int→Int→Int→Value):CP
 | [.v (.agg ⟨[.int .i64 a,.int .i64 b]⟩),.v (.int .i64 c)],[]=>some (true,.v (F a b c),[])
 | _,_=>none
theorem ePI_ok {F:Int→Int→Int→Value} (h:∀a b c,aH P g [.agg ⟨[.int .i64 a,.int .i64 b]⟩,.int .i64 c] (F a b c)) (args:List AV) (L:dP) (z:Bool) (r:AV) (L':dP) (q:ePI F args L=some (z,r,L')) (_:z=true):jN P g args L r L':=by
 unfold ePI at q;split at q
 ·cases q;exact cZ (h _ _ _)
 ·cases q
def ePII (F:Int→Int→Int→Int→Value):CP
 | [.v (.agg ⟨[.int .i64 a,.int .i64 b]⟩),.v (.int .i64 c),.v (.int .i64 d)],[]=>some (true,.v (F a b c d),[])
 | _,_=>none
theorem ePII_ok {F:Int→Int→Int→Int→Value} (h:∀a b c d,aH P g [.agg ⟨[.int .i64 a,.int .i64 b]⟩,.int .i64 c,.int .i64 d] (F a b c d)) (args:List AV) (L:dP) (z:Bool) (r:AV) (L':dP) (q:ePII F args L=some (z,r,L')) (_:z=true):jN P g args L r L':=by
 unfold ePII at q;split at q
 ·cases q;exact cZ (h _ _ _ _)
 ·cases q
def ePIIif (p:Int→Int→Int→Int→Bool) (F:Int→Int→Int→Int→Value):CP
 | [.v (.agg ⟨[.int .i64 a,.int .i64 b]⟩),.v (.int .i64 c),.v (.int .i64 d)],[]=>some (p a b c d,.v (F a b c d),[])
 | _,_=>none
theorem ePIIif_ok {p:Int→Int→Int→Int→Bool} {F:Int→Int→Int→Int→Value} (h:∀a b c d,p a b c d=true→aH P g [.agg ⟨[.int .i64 a,.int .i64 b]⟩,.int .i64 c,.int .i64 d] (F a b c d)) (args:List AV) (L:dP) (z:Bool) (r:AV) (L':dP) (q:ePIIif p F args L=some (z,r,L')) (hz:z=true):jN P g args L r L':=by
 unfold ePIIif at q;split at q
 ·cases q;exact cZ (h _ _ _ _ hz)
 ·cases q
def eT (F:Int→Int→Int→Int→Int→Int→Value):CP
 | [.v (.agg ⟨[.int .i64 a,.int .i64 b,.int .i64 c,.int .i64 d,.int .i64 e,.int .i64 f]⟩)],[]=>some (true,.v (F a b c d e f),[])
 | _,_=>none
theorem gS {F:Int→Int→Int→Int→Int→Int→Value} (h:∀a b c d e f,aH P g [.agg ⟨[.int .i64 a,.int .i64 b,.int .i64 c,.int .i64 d,.int .i64 e,.int .i64 f]⟩] (F a b c d e f)) (args:List AV) (L:dP) (z:Bool) (r:AV) (L':dP) (q:eT F args L=some (z,r,L')) (_:z=true):jN P g args L r L':=by
 unfold eT at q;split at q
 ·cases q;exact cZ (h _ _ _ _ _ _)
 ·cases q
def eTif (p:Int→Int→Int→Int→Int→Int→Bool) (F:Int→Int→Int→Int→Int→Int→Value):CP
 | [.v (.agg ⟨[.int .i64 a,.int .i64 b,.int .i64 c,.int .i64 d,.int .i64 e,.int .i64 f]⟩)],[]=>some (p a b c d e f,.v (F a b c d e f),[])
 | _,_=>none
theorem HJ {p:Int→Int→Int→Int→Int→Int→Bool} {F:Int→Int→Int→Int→Int→Int→Value} (h:∀a b c d e f,p a b c d e f=true→aH P g [.agg ⟨[.int .i64 a,.int .i64 b,.int .i64 c,.int .i64 d,.int .i64 e,.int .i64 f]⟩] (F a b c d e f)) (args:List AV) (L:dP) (z:Bool) (r:AV) (L':dP) (q:eTif p F args L=some (z,r,L')) (hz:z=true):jN P g args L r L':=by
 unfold eTif at q;split at q
 ·cases q;exact cZ (h _ _ _ _ _ _ hz)
 ·cases q
def eTP (F:Int→Int→Int→Int→Int→Int→Int→Int→Value):CP
 | [.v (.agg ⟨[.int .i64 a,.int .i64 b,.int .i64 c,.int .i64 d,.int .i64 e,.int .i64 f]⟩),.v (.agg ⟨[.int .i64 u,.int .i64 v]⟩)],[]=>some (true,.v (F a b c d e f u v),[])
 | _,_=>none
theorem eTP_ok {F:Int→Int→Int→Int→Int→Int→Int→Int→Value} (h:∀a b c d e f u v,aH P g [.agg ⟨[.int .i64 a,.int .i64 b,.int .i64 c,.int .i64 d,.int .i64 e,.int .i64 f]⟩,.agg ⟨[.int .i64 u,.int .i64 v]⟩] (F a b c d e f u v)) (args:List AV) (L:dP) (z:Bool) (r:AV) (L':dP) (q:eTP F args L=some (z,r,L')) (_:z=true):jN P g args L r L':=by
 unfold eTP at q;split at q
 ·cases q;exact cZ (h _ _ _ _ _ _ _ _)
 ·cases q
def eTPif (p:Int→Int→Int→Int→Int→Int→Int→Int→Bool) (F:Int→Int→Int→Int→Int→Int→Int→Int→Value):CP
 | [.v (.agg ⟨[.int .i64 a,.int .i64 b,.int .i64 c,.int .i64 d,.int .i64 e,.int .i64 f]⟩),.v (.agg ⟨[.int .i64 u,.int .i64 v]⟩)],[]=>some (p a b c d e f u v,.v (F a b c d e f u v),[])
 | _,_=>none
theorem WV {p:Int→Int→Int→Int→Int→Int→Int→Int→Bool} {F:Int→Int→Int→Int→Int→Int→Int→Int→Value} (h:∀a b c d e f u v,p a b c d e f u v=true→aH P g [.agg ⟨[.int .i64 a,.int .i64 b,.int .i64 c,.int .i64 d,.int .i64 e,.int .i64 f]⟩,.agg ⟨[.int .i64 u,.int .i64 v]⟩] (F a b c d e f u v)) (args:List AV) (L:dP) (z:Bool) (r:AV) (L':dP) (q:eTPif p F args L=some (z,r,L')) (hz:z=true):jN P g args L r L':=by
 unfold eTPif at q;split at q
 ·cases q;exact cZ (h _ _ _ _ _ _ _ _ hz)
 ·cases q
def ePPPif (p:Int→Int→Int→Int→Int→Int→Bool) (F:Int→Int→Int→Int→Int→Int→Value):CP
 | [.v (.agg ⟨[.int .i64 a,.int .i64 b]⟩),.v (.agg ⟨[.int .i64 c,.int .i64 d]⟩),.v (.agg ⟨[.int .i64 e,.int .i64 f]⟩)],[]=>some (p a b c d e f,.v (F a b c d e f),[])
 | _,_=>none
theorem ePPPif_ok {p:Int→Int→Int→Int→Int→Int→Bool} {F:Int→Int→Int→Int→Int→Int→Value} (h:∀a b c d e f,p a b c d e f=true→aH P g [.agg ⟨[.int .i64 a,.int .i64 b]⟩,.agg ⟨[.int .i64 c,.int .i64 d]⟩,.agg ⟨[.int .i64 e,.int .i64 f]⟩] (F a b c d e f)) (args:List AV) (L:dP) (z:Bool) (r:AV) (L':dP) (q:ePPPif p F args L=some (z,r,L')) (hz:z=true):jN P g args L r L':=by
 unfold ePPPif at q;split at q
 ·cases q;exact cZ (h _ _ _ _ _ _ hz)
 ·cases q
def cP (ty:TypeId) (F:Int→Int→Value) (G:Int→Int→Int→Int):CP
 | [.p n 0,.v (.agg ⟨[.int .i64 a,.int .i64 b]⟩)],[(m,⟨[.v (.int .i64 k)],t⟩)]=>cond (nZ n m&&alZ t ty) (some (true,.v (F a b),[(m,⟨[.v (.int .i64 (G k a b))],t⟩)])) none
 | _,_=>none
theorem uA {ty:TypeId} {F:Int→Int→Value} {G:Int→Int→Int→Int} (h:∀k a b,gW P g ty k [.agg ⟨[.int .i64 a,.int .i64 b]⟩] (F a b) (G k a b)) (args:List AV) (L:dP) (z:Bool) (r:AV) (L':dP) (q:cP ty F G args L=some (z,r,L')) (_:z=true):jN P g args L r L':=by
 unfold cP at q;split at q
 ·rename_i n a b m k t;cases hc:(nZ n m&&alZ t ty) with
  | false=>rw [hc] at q;cases q
  | true=>
   rw [hc] at q;simp only [cond_true,afJ.injEq,Prod.mk.injEq] at q;obtain ⟨_,rfl,rfl⟩:=q;simp only [Bool.and_eq_true] at hc;have e1:=jB.1 hc.1;have e2:t=ty:=afQ hc.2;subst e1 e2;exact h k a b n
 ·cases q
def VZ (ty:TypeId) (F:Int→Int→Int→Int→Value) (G:Int→Int→Int→Int→Int→Int):CP
 | [.p n 0,.v (.agg ⟨[.int .i64 a,.int .i64 b]⟩),.v (.agg ⟨[.int .i64 c,.int .i64 d]⟩)],[(m,⟨[.v (.int .i64 k)],t⟩)]=>cond (nZ n m&&alZ t ty) (some (true,.v (F a b c d),[(m,⟨[.v (.int .i64 (G k a b c d))],t⟩)])) none
 | _,_=>none
theorem lV {ty:TypeId} {F:Int→Int→Int→Int→Value} {G:Int→Int→Int→Int→Int→Int} (h:∀k a b c d,gW P g ty k [.agg ⟨[.int .i64 a,.int .i64 b]⟩,.agg ⟨[.int .i64 c,.int .i64 d]⟩] (F a b c d) (G k a b c d)) (args:List AV) (L:dP) (z:Bool) (r:AV) (L':dP) (q:VZ ty F G args L=some (z,r,L')) (_:z=true):jN P g args L r L':=by
 unfold VZ at q;split at q
 ·rename_i n a b c d m k t;cases hc:(nZ n m&&alZ t ty) with
  | false=>rw [hc] at q;cases q
  | true=>
   rw [hc] at q;simp only [cond_true,afJ.injEq,Prod.mk.injEq] at q;obtain ⟨_,rfl,rfl⟩:=q;simp only [Bool.and_eq_true] at hc;have e1:=jB.1 hc.1;have e2:t=ty:=afQ hc.2;subst e1 e2;exact h k a b c d n
 ·cases q
def cPI (ty:TypeId) (F:Int→Int→Int→Value) (G:Int→Int→Int→Int→Int):CP
 | [.p n 0,.v (.agg ⟨[.int .i64 a,.int .i64 b]⟩),.v (.int .i64 e)],[(m,⟨[.v (.int .i64 k)],t⟩)]=>cond (nZ n m&&alZ t ty) (some (true,.v (F a b e),[(m,⟨[.v (.int .i64 (G k a b e))],t⟩)])) none
 | _,_=>none
theorem sH {ty:TypeId} {F:Int→Int→Int→Value} {G:Int→Int→Int→Int→Int} (h:∀k a b e,gW P g ty k [.agg ⟨[.int .i64 a,.int .i64 b]⟩,.int .i64 e] (F a b e) (G k a b e)) (args:List AV) (L:dP) (z:Bool) (r:AV) (L':dP) (q:cPI ty F G args L=some (z,r,L')) (_:z=true):jN P g args L r L':=by
 unfold cPI at q;split at q
 ·rename_i n a b e m k t;cases hc:(nZ n m&&alZ t ty) with
  | false=>rw [hc] at q;cases q
  | true=>
   rw [hc] at q;simp only [cond_true,afJ.injEq,Prod.mk.injEq] at q;obtain ⟨_,rfl,rfl⟩:=q;simp only [Bool.and_eq_true] at hc;have e1:=jB.1 hc.1;have e2:t=ty:=afQ hc.2;subst e1 e2;exact h k a b e n
 ·cases q
def cPII (ty:TypeId) (F:Int→Int→Int→Int→Value) (G:Int→Int→Int→Int→Int→Int):CP
 | [.p n 0,.v (.agg ⟨[.int .i64 a,.int .i64 b]⟩),.v (.int .i64 e),.v (.int .i64 f)],[(m,⟨[.v (.int .i64 k)],t⟩)]=>cond (nZ n m&&alZ t ty) (some (true,.v (F a b e f),[(m,⟨[.v (.int .i64 (G k a b e f))],t⟩)])) none
 | _,_=>none
theorem cPII_ok {ty:TypeId} {F:Int→Int→Int→Int→Value} {G:Int→Int→Int→Int→Int→Int} (h:∀k a b e f,gW P g ty k [.agg ⟨[.int .i64 a,.int .i64 b]⟩,.int .i64 e,.int .i64 f] (F a b e f) (G k a b e f)) (args:List AV) (L:dP) (z:Bool) (r:AV) (L':dP) (q:cPII ty F G args L=some (z,r,L')) (_:z=true):jN P g args L r L':=by
 unfold cPII at q;split at q
 ·rename_i n a b e f m k t;cases hc:(nZ n m&&alZ t ty) with
  | false=>rw [hc] at q;cases q
  | true=>
   rw [hc] at q;simp only [cond_true,afJ.injEq,Prod.mk.injEq] at q;obtain ⟨_,rfl,rfl⟩:=q;simp only [Bool.and_eq_true] at hc;have e1:=jB.1 hc.1;have e2:t=ty:=afQ hc.2;subst e1 e2;exact h k a b e f n
 ·cases q
end
end Ev
end Go.Proofs.YtmididlfnajhiaaGreatDoor
