/-
  A machine for code that works on variables of its own, shown true: it runs a function's code in the text's order on values and on local blocks that have names of their own; what it answers, the call gives, in whatever order drawn regions come up.
-/
import Derived.Orders
import Derived.LoopN
import Derived.Laws.Tables
import Derived.Deep.MidRow
import Derived.Laws.StructEq
import Derived.Laws.CopyRow
import Derived.Below
import Derived.Great.BuildSlice
namespace Go.Proofs.YtfilgpifiboccaaGreat
namespace Ev

abbrev Nm := List Nat
def nmEq : Nm → Nm → Bool
  | [], [] => true
  | a :: l, b :: m => cond (Nat.beq a b) (nmEq l m) false
  | _, _ => false
/-- What a cell holds: a value, or the address of a local block. -/
inductive CV where
  | v (x : Value)
  | p (n : Nm) (off : Nat)
/-- What a slot holds; 'c': a function with bound values. -/
inductive AV where
  | v (x : Value)
  | p (n : Nm) (off : Nat)
  | c (f : FuncId) (bound cap : List CV)
  | s (n : Nm) (off len cap : Nat)
structure Blk where
  cells : List CV
  ty : TypeId
abbrev Loc := List (Nm × Blk)
def get : Loc → Nm → Option Blk
  | [], _ => none
  | (m, b) :: l, n => cond (nmEq m n) (some b) (get l n)
def keys (l : Loc) : List Nm := l.map (·.1)
def has (l : List Nm) (n : Nm) : Bool := l.any (nmEq n)

def CV.toA : CV → AV
  | .v x => .v x
  | .p n o => .p n o
def getA (τ : List AV) (t : Nat) : AV :=
  match τ[t]? with
  | some x => x
  | none => .v undef
def evA (τ : List AV) : Operand → AV
  | .tmp t => getA τ t
  | .const x => .v x
  | .global g => .v (.pointer (some ⟨g, 0, none⟩))
  | .func f => .v (.func (.func f) #[] #[])
def evV (τ : List AV) (x : Operand) : Value :=
  match evA τ x with
  | .v y => y
  | _ => undef
def isV : AV → Bool
  | .v _ => true
  | _ => false
def putA (τ : List AV) : Option Tmp → AV → List AV
  | some d, x => τ.set d x
  | none, _ => τ
/-- What an operation yields that asks nothing of the world. -/
def val? {α : Type} (P : Program) : Sem α → Option α
  | .pure a => some a
  | .program k => val? P (k P)
  | .mark _ k => val? P k
  | _ => none
def allV : List CV → Option (List Value)
  | [] => some []
  | .v x :: l => match allV l with
    | some r => some (x :: r)
    | none => none
  | .p _ _ :: _ => none
def opVals (τ : List AV) (xs : List Operand) : Bool := xs.all fun x => isV (evA τ x)
def genA (P : Program) (τ : List AV) (o : Oper) : Option AV :=
  cond (opVals τ o.op.operands.toList) (match val? P (execOp (evV τ) o) with
    | some (.value v) => some (.v v)
    | _ => none) none
def takeC (cs : List CV) (off n : Nat) : List CV := (cs.drop off).take n
def loadA (P : Program) (b : Blk) (t : TypeId) (off : Nat) : Option AV :=
  match P.underlying t, P.info? t with
  | some d, some i => cond d.isRow
      (match allV (takeC b.cells off i.size) with
       | some vs => cond (Nat.beq vs.length i.size) (some (.v (.agg ⟨vs⟩))) none
       | none => none)
      (match b.cells[off]? with
       | some c => some c.toA
       | none => none)
  | _, _ => none
def toCells : AV → Option (List CV)
  | .v x => some (x.cells.toList.map CV.v)
  | .p n o => some [.p n o]
  | .c _ _ _ => none
  | .s _ _ _ _ => none
def one : CV → Bool
  | .v x => x.oneCell'
  | .p _ _ => true
def storeA (P : Program) (b : Blk) (t : TypeId) (off : Nat) (x : AV) : Option Blk :=
  match toCells x, P.info? t with
  | some cs, some i =>
    cond (Nat.beq cs.length i.size && Nat.ble (off + i.size) b.cells.length && cs.all one) (some ⟨b.cells.take off ++ cs ++ b.cells.drop (off + cs.length), b.ty⟩) none
  | _, _ => none
def fieldA (P : Program) (s : TypeId) (f : Nat) : Option Nat :=
  match P.underlying s with
  | some (.struct fs) => match fs[f]? with
    | some fd => match P.info? fd.type with
      | some i => cond (Nat.beq i.size 0) none (some fd.offset)
      | none => none
    | none => none
  | _ => none
def indexA (P : Program) (t : TypeId) (ix : Int) : Option Nat :=
  match P.underlying t with
  | some (.array len e) => match P.info? e with
    | some i => match ix with
      | .ofNat k => cond (Nat.ble (k + 1) len) (some (k * i.size)) none
      | .negSucc _ => none
    | none => none
  | _ => none
/-- An index of a slice of length len: how far it lies from its first cell. -/
def indexS (P : Program) (t : TypeId) (len : Nat) (ix : Int) : Option Nat :=
  match P.underlying t with
  | some (.slice e) => match P.info? e with
    | some i => match ix with
      | .ofNat k => cond (Nat.ble (k + 1) len) (some (k * i.size)) none
      | .negSucc _ => none
    | none => none
  | _ => none
def sliceLit (P : Program) (t : TypeId) (n : Nat) (ps : List (Nat × Value)) : Option (TypeId × Array Value) :=
  match P.underlying t with
  | some (.slice e) => match P.info? e with
    | some i => match i.zero with
      | some z => cond (Nat.beq (n * i.size) 0 || Nat.ble 16777216 (n * i.size)) none
          (match Instr.fill (fun j => some (j * i.size, i.size)) ((Array.range (n * i.size)).map (z.cells[· % z.cells.size]!)) ps with
           | some cells => some (e, cells)
           | none => none)
      | none => none
    | none => none
  | _ => none
/-- A bound of a slice expression: a number that is there. -/
def bound (τ : List AV) (d : Nat) : Option Operand → Option Nat
  | none => some d
  | some x => match evA τ x with
    | .v (.int _ (.ofNat k)) => some k
    | _ => none
def sliceA (P : Program) (τ : List AV) (t : TypeId) (x : AV) (lo hi : Option Operand) : Option AV :=
  match x, P.underlying t with
  | .p n off, some (.array m e) => match P.info? e, bound τ 0 lo, bound τ m hi with
    | some i, some l, some h => cond (Nat.ble l h && Nat.ble h m) (some (.s n (cond (Nat.beq m l) off (off + l * i.size)) (h - l) (m - l))) none
    | _, _, _ => none
  | .s n off len m, some (.slice e) => match P.info? e, bound τ 0 lo, bound τ len hi with
    | some i, some l, some h => cond (Nat.ble l h && Nat.ble h m) (some (.s n (cond (Nat.beq m l) off (off + l * i.size)) (h - l) (m - l))) none
    | _, _, _ => none
  | _, _ => none
def lenA (P : Program) (τ : List AV) (c : Call) : Option AV :=
  match c.callee, c.args.toList, c.argTypes.toList with
  | .builtin .len, [x], [t] => match evA τ x, P.underlying t with
    | .s _ _ n _, some (.slice _) => some (.v (.int .i64 (n : Int)))
    | _, _ => none
  | _, _, _ => none
def eqInts : List Value → List Value → Option Bool
  | [], [] => some true
  | .int .i64 a :: l, .int .i64 b :: m => match eqInts l m with
    | some r => some ((a == b) && r)
    | none => none
  | _, _ => none
def toCV : List AV → Option (List CV)
  | [] => some []
  | .v x :: l => match toCV l with
    | some r => some (.v x :: r)
    | none => none
  | .p n o :: l => match toCV l with
    | some r => some (.p n o :: r)
    | none => none
  | .c _ _ _ :: _ => none
  | .s _ _ _ _ :: _ => none

def divOp : BinOp → Option Bool
  | .quo => some true
  | .rem => some false
  | _ => none
/-- The names that some values lead to. -/
def nmsC : List CV → List Nm
  | [] => []
  | .v _ :: l => nmsC l
  | .p n _ :: l => n :: nmsC l
def nmsA : List AV → List Nm
  | [] => []
  | .v _ :: l => nmsA l
  | .p n _ :: l => n :: nmsA l
  | .c _ b c :: l => nmsC b ++ nmsC c ++ nmsA l
  | .s n _ _ _ :: l => n :: nmsA l
def addNm (r : List Nm) : List Nm → List Nm
  | [] => r
  | n :: l => cond (has r n) (addNm r l) (addNm (n :: r) l)
def reach (L : Loc) : Nat → List Nm → List Nm
  | 0, r => r
  | d + 1, r => reach L d (addNm r (r.flatMap fun n => match get L n with | some b => nmsC b.cells | none => []))
def part (L : Loc) (r : List Nm) : Loc := r.filterMap fun n => match get L n with | some b => some (n, b) | none => none
def closed (ks : List Nm) : Loc → Bool
  | [] => true
  | (_, b) :: l => (nmsC b.cells).all (has ks) && closed ks l

/-- Is the name not in use? -/
def fresh (L : Loc) (n : Nm) : Bool :=
  match get L n with
  | none => true
  | some _ => false
def newOk (ks : List Nm) (L L' : Loc) : Bool := (keys L').all fun n => has ks n || fresh L n

inductive Ex where
  | norm
  | ex (id : Nat)
  | ret
def Ex.cv : Ex → Exit
  | .norm => .normal
  | .ex i => .exit i
  | .ret => .ret
structure St where
  τ : List AV
  L : Loc
  c : Nat
  pre : Nm
structure Foot where
  rd : List Nm
  wr : List Nm

section
variable {α : Type} (P : Program) (E : List (TypeId × Nat)) (C : List FuncId) (call : FuncId → List AV → Loc → Nm → (AV → Loc → Option α) → Option α)

def isEq : BinOp → Option Bool
  | .eql => some true
  | .neq => some false
  | _ => none
def eqTy (t : TypeId) (n : Nat) : Bool := E.any fun e => Nat.beq e.1 t && Nat.beq e.2 n
def binA (τ : List AV) (o : Oper) (op : BinOp) (t : TypeId) (x y : Operand) : Option AV :=
  match isEq op, evA τ x, evA τ y with
  | some b, .v (.agg xs), .v (.agg ys) =>
    cond (eqTy E t xs.toList.length && Nat.beq xs.toList.length ys.toList.length) (match eqInts xs.toList ys.toList with
      | some r => some (.v (.bool (cond b r (!r))))
      | none => none) none
  | _, _, _ => genA P τ o
def callee (τ : List AV) : Callee → Option (FuncId × List AV × List AV)
  | .value f => match evA τ f with
    | .v (.func (.func g) b c) => some (g, b.toList.map AV.v, c.toList.map AV.v)
    | .c g b c => some (g, b.map CV.toA, c.map CV.toA)
    | _ => none
  | _ => none
def doCall (args : List AV) (g : FuncId) (L : Loc) (nm : Nm) (k : AV → Loc → List Nm → Option α) : Option α :=
  let r := reach L 4 (addNm [] (nmsA args))
  let LR := part L r
  cond (C.any (Nat.beq g) && (nmsA args).all (has (keys LR)) && closed (keys LR) LR)
    (call g args LR nm fun v L' => cond (newOk (keys LR) L L') (k v L' (keys LR)) none) none
def evOp (o : Oper) (τ : List AV) (L : Loc) (nm : Nm) (k : AV → Loc → List Nm → Option α) : Option α :=
  let vl (x : Option AV) : Option α := match x with
    | some v => k v [] []
    | none => none
  match o.op with
  | .move x => k (evA τ x) [] []
  | .assign x => k (evA τ x) [] []
  | .pick c a b => match evA τ c with
    | .v (.bool t) => cond t (k (evA τ a) [] []) (k (evA τ b) [] [])
    | _ => none
  | .box t x => match toCells (evA τ x) with
    | some cs => match get L nm with
      | none => k (.p nm 0) [(nm, ⟨cs, t⟩)] []
      | some _ => none
    | none => none
  | .alloc t => match P.info? t with
    | some i => match i.zero with
      | some z => match get L nm with
        | none => k (.p nm 0) [(nm, ⟨z.cells.toList.map CV.v, t⟩)] []
        | some _ => none
      | none => none
    | none => none
  | .build t ps => cond (opVals τ (ps.toList.map (·.2))) (match P.built t (ps.toList.map fun q => (q.1, evV τ q.2)) with
    | some cells => k (.v (.agg cells)) [] []
    | none => none) none
  | .load t x => match evA τ x with
    | .p n off => match get L n with
      | some b => match loadA P b t off with
        | some v => k v [] [n]
        | none => none
      | none => none
    | _ => none
  | .store t x y => match evA τ x with
    | .p n off => match get L n with
      | some b => match storeA P b t off (evA τ y) with
        | some b' => k (.v undef) [(n, b')] []
        | none => none
      | none => none
    | _ => none
  | .fieldAddr s x f => match evA τ x with
    | .p n off => match fieldA P s f with
      | some d => k (.p n (off + d)) [] []
      | none => none
    | _ => none
  | .indexAddr t x y => match evA τ x, evA τ y with
    | .p n off, .v (.int _ ix) => match indexA P t ix with
      | some d => k (.p n (off + d)) [] []
      | none => none
    | .s n off len _, .v (.int _ ix) => match indexS P t len ix with
      | some d => k (.p n (off + d)) [] []
      | none => none
    | _, _ => none
  | .buildSlice t n ps => cond (opVals τ (ps.toList.map (·.2))) (match sliceLit P t n (ps.toList.map fun q => (q.1, evV τ q.2)) with
    | some (e, cells) => match get L nm with
      | none => k (.s nm 0 n n) [(nm, ⟨cells.toList.map CV.v, e⟩)] []
      | some _ => none
    | none => none) none
  | .slice t x lo hi mx => match mx with
    | some _ => none
    | none => vl (sliceA P τ t (evA τ x) lo hi)
  | .nilCheck x => match evA τ x with
    | .p n off => k (.p n off) [] []
    | .c f b c => k (.c f b c) [] []
    | _ => vl (genA P τ o)
  | .binOp op t x y _ => match divOp op, evA τ x, evA τ y with
    | some q, .v (.int .i64 a), .v (.int .i64 b) => cond (b == 0) none (k (.v (.int .i64 (cond q (IntKind.i64.wrap (a.tdiv b)) (a.tmod b)))) [] [])
    | _, _, _ => vl (binA P E τ o op t x y)
  | .makeFunc f bs cs => match f, toCV (bs.toList.map (evA τ)), toCV (cs.toList.map (evA τ)) with
    | .func g, some b, some c => k (.c g b c) [] []
    | _, _, _ => none
  | .unOp _ _ _ => vl (genA P τ o)
  | .convert _ _ _ => vl (genA P τ o)
  | .field _ _ _ => vl (genA P τ o)
  | .index _ _ _ => vl (genA P τ o)
  | .extract _ _ => vl (genA P τ o)
  | .call c => match c.callee with
    | .builtin _ => match lenA P τ c with
      | some v => k v [] []
      | none => vl (genA P τ o)
    | _ => match callee τ c.callee with
      | some (g, b, cp) => doCall C call (b ++ c.args.toList.map (evA τ) ++ cp) g L nm fun v U rd => k v U rd
      | none => none
  | _ => none

def dstOf (ops : List Oper) (j : Nat) : Option Tmp :=
  match ops[j]? with
  | some o => o.dst
  | none => none
def evOps (all : List Oper) (fin : List Foot → Bool) (base : Nm) : List Oper → Nat → List AV → Loc → List Foot → (List AV → Loc → Option α) → Option α
  | [], _, τ, L, fs, k => cond (fin fs) (k τ L) none
  | o :: rest, i, τ, L, fs, k =>
    let go (τ : List AV) : Option α := evOp P E C call o τ L (i :: base) fun v U rd => evOps all fin base rest (i + 1) (putA τ o.dst v) (U ++ L) (fs ++ [⟨rd, keys U⟩]) k
    let no (τ : List AV) : Option α := evOps all fin base rest (i + 1) (putA τ o.dst (.v undef)) L (fs ++ [⟨[], []⟩]) k
    match o.guard with
    | none => go τ
    | some (j, want) => match dstOf all j with
      | none => no τ
      | some d => match τ[d]? with
        | some (.v (.bool b)) => cond b
            (let τ' := τ.set d (.v (.bool true)); cond want (go τ') (no τ'))
            (let τ' := τ.set d (.v (.bool false)); cond want (no τ') (go τ'))
        | _ => no τ

/-- Must operation i come before operation j? -/
def waits (ops : List Oper) : Nat → Nat → Nat → Bool
  | 0, _, _ => false
  | n + 1, i, j => match ops[j]? with
    | some o => o.after.toList.any fun e => Region.binds .any e && (Nat.beq e.on i || waits ops n i e.on)
    | none => false
def noneIn (a b : List Nm) : Bool := a.all fun n => !has b n
def footApart (x y : Foot) : Bool := noneIn x.wr y.rd && noneIn x.wr y.wr && noneIn y.wr x.rd
def looks (ops : List Oper) (o : Oper) : List Tmp :=
  (o.op.operands.toList.filterMap fun | .tmp t => some t | _ => none) ++
  (match o.guard with
   | some (g, _) => (dstOf ops g).toList
   | none => [])
def hasN (l : List Nat) (n : Nat) : Bool := l.any (Nat.beq n)
def dstIn (d : Option Tmp) (l : List Tmp) : Bool :=
  match d with
  | some d => hasN l d
  | none => false
def sameDst : Option Tmp → Option Tmp → Bool
  | some a, some b => Nat.beq a b
  | _, _ => false
/-- i before j in the text. -/
def pairOk (ops : List Oper) (i j : Nat) (x y : Oper) (fx fy : Foot) : Bool :=
  cond (sameDst x.dst y.dst) false
    (cond (!dstIn x.dst (looks ops y) && !dstIn y.dst (looks ops x) && footApart fx fy) true (waits ops 8 i j))
def rowOk (ops : List Oper) (i : Nat) (x : Oper) (fx : Foot) : Nat → List Oper → List Foot → Bool
  | j, y :: l, f :: fl => pairOk ops i j x y fx f && rowOk ops i x fx (j + 1) l fl
  | _, _, _ => true
def allOk (ops : List Oper) : Nat → List Oper → List Foot → Bool
  | i, x :: l, f :: fl => x.after.toList.all (fun e => !Region.binds .any e || Nat.blt e.on i) && rowOk ops i x f (i + 1) l fl && allOk ops (i + 1) l fl
  | _, _, _ => true

def fix (τ : List AV) (x : Operand) (b : Bool) : List AV :=
  match x with
  | .tmp t => τ.set t (.v (.bool b))
  | _ => τ
def iter (F : (Ex → St → Option α) → St → Option α) : Nat → (Ex → St → Option α) → St → Option α
  | 0, _, _ => none
  | n + 1, k, σ => F (fun e σ' => match e with | .norm => iter F n k σ' | e => k e σ') σ
def evC (lim : Nat) : Code → (Ex → St → Option α) → St → Option α
  | .skip, k, σ => k .norm σ
  | .seq a b, k, σ => evC lim a (fun e σ' => match e with | .norm => evC lim b k σ' | e => k e σ') σ
  | .region _ ops draw, k, σ => evOps P E C call ops.toList (fun fs => cond draw (allOk ops.toList 0 ops.toList fs) true) (σ.c :: σ.pre) ops.toList 0 σ.τ σ.L [] fun τ L => k .norm ⟨τ, L, σ.c + 1, σ.pre⟩
  | .cond x a b, k, σ => match evA σ.τ x with
    | .v (.bool t) => cond t (evC lim a k ⟨fix σ.τ x true, σ.L, σ.c, σ.pre⟩) (evC lim b k ⟨fix σ.τ x false, σ.L, σ.c, σ.pre⟩)
    | _ => none
  | .block i b, k, σ => evC lim b (fun e σ' => match e with | .ex j => cond (Nat.beq j i) (k .norm σ') (k (.ex j) σ') | e => k e σ') σ
  | .loop b, k, σ => iter (evC lim b) lim k σ
  | .exit i, k, σ => k (.ex i) σ
  | .ret, k, σ => k .ret σ
  | _, _, _ => none

def resOne (σ : St) : ResultVar → Option AV
  | .tmp t => some (getA σ.τ t)
  | .cell a t => match getA σ.τ a with
    | .p n off => match get σ.L n with
      | some b => loadA P b t off
      | none => none
    | _ => none
def resVals (σ : St) : List ResultVar → Option (List Value)
  | [] => some []
  | r :: l => match resOne P σ r with
    | some (.v x) => match resVals σ l with
      | some m => some (x :: m)
      | none => none
    | _ => none
def resA (σ : St) : List ResultVar → Option AV
  | [r] => resOne P σ r
  | l => match resVals P σ l with
    | some vs => some (.v (.tuple ⟨vs⟩))
    | none => none
end

def look {β : Type} : List (FuncId × β) → FuncId → Option β
  | [], _ => none
  | (g, h) :: l, f => cond (Nat.beq g f) (some h) (look l f)
/-- What stands already: under a condition (a Bool), a result. -/
abbrev Ent := List AV → Loc → Option (Bool × AV × Loc)
abbrev Book := List (FuncId × Ent)
def evF {α : Type} (P : Program) (E : List (TypeId × Nat)) (C : List FuncId) (O : Book) (lim : Nat) : Nat → FuncId → List AV → Loc → Nm → (AV → Loc → Option α) → Option α
  | 0, _, _, _, _, _ => none
  | d + 1, g, args, L, pre, k => match look O g with
    | some h => match h args L with
      | some (b, r, L') => cond b (k r L') none
      | none => none
    | none => match P.funcs[g]? with
      | some fn => match fn.body with
        | some c => evC P E C (evF P E C O lim d) lim c (fun e σ => match e with
            | .ex _ => none
            | _ => match resA P σ fn.results.toList with
              | some r => k r σ.L
              | none => none) ⟨args ++ List.replicate (fn.ntmps - args.length) (.v undef), L, 0, pre⟩
        | none => none
      | none => none
end Ev
end Go.Proofs.YtfilgpifiboccaaGreat
namespace Go.Proofs.YtfilgpifiboccaaGreat
namespace Ev
open Go.RowKit

abbrev Rho := Nm → Option Nat
def cAt (ρ : Rho) : CV → Option Value
  | .v x => some x
  | .p n o => (ρ n).map fun b => .pointer (some ⟨b, o, none⟩)
def csAt (ρ : Rho) : List CV → Option (List Value)
  | [] => some []
  | x :: l => (cAt ρ x).bind fun v => (csAt ρ l).map (v :: ·)
def aAt (ρ : Rho) : AV → Option Value
  | .v x => some x
  | .p n o => (ρ n).map fun b => .pointer (some ⟨b, o, none⟩)
  | .c f b c => (csAt ρ b).bind fun vb => (csAt ρ c).map fun vc => .func (.func f) ⟨vb⟩ ⟨vc⟩
  | .s n o l c => (ρ n).map fun b => .slice (some ⟨b, o, none⟩) l c
def asAt (ρ : Rho) : List AV → Option (List Value)
  | [] => some []
  | x :: l => (aAt ρ x).bind fun v => (asAt ρ l).map (v :: ·)

theorem nmEq_iff : ∀ {a b : Nm}, nmEq a b = true ↔ a = b
  | [], [] => by simp [nmEq]
  | [], _ :: _ => by simp [nmEq]
  | _ :: _, [] => by simp [nmEq]
  | a :: l, b :: m => by
    have ih := nmEq_iff (a := l) (b := m)
    simp only [nmEq, List.cons.injEq]
    cases h : Nat.beq a b
    · simp only [cond_false, Bool.false_eq_true, false_iff, not_and]
      intro e; subst e; simp at h
    · simp only [cond_true, ih]
      have : a = b := Nat.eq_of_beq_eq_true h
      simp [this]
theorem nmEq_refl (a : Nm) : nmEq a a = true := nmEq_iff.2 rfl
theorem nmEq_false {a b : Nm} : nmEq a b = false ↔ a ≠ b := by
  rw [← Bool.not_eq_true, nmEq_iff]
theorem get_cons (m : Nm) (b : Blk) (l : Loc) (n : Nm) : get ((m, b) :: l) n = if m = n then some b else get l n := by
  show cond (nmEq m n) (some b) (get l n) = _
  cases h : nmEq m n
  · rw [if_neg (nmEq_false.1 h)]; rfl
  · rw [if_pos (nmEq_iff.1 h)]; rfl
theorem get_append (a b : Loc) (n : Nm) : get (a ++ b) n = (get a n).or (get b n) := by
  induction a with
  | nil => simp [get]
  | cons x l ih =>
    obtain ⟨m, y⟩ := x
    rw [List.cons_append, get_cons, get_cons]
    split
    · simp
    · exact ih
theorem has_iff {l : List Nm} {n : Nm} : has l n = true ↔ n ∈ l := by
  unfold has
  rw [List.any_eq_true]
  constructor
  · rintro ⟨x, hx, h⟩
    rw [nmEq_iff] at h
    exact h ▸ hx
  · intro h
    exact ⟨n, h, nmEq_refl n⟩
theorem get_none_iff {l : Loc} {n : Nm} : get l n = none ↔ n ∉ keys l := by
  induction l with
  | nil => simp [get, keys]
  | cons x l ih =>
    obtain ⟨m, b⟩ := x
    rw [get_cons]
    simp only [keys, List.map_cons, List.mem_cons, not_or] at ih ⊢
    split
    · rename_i h; subst h; simp
    · rename_i h
      rw [ih]
      exact ⟨fun q => ⟨fun e => h e.symm, q⟩, fun q => q.2⟩

def Ext (ρ ρ' : Rho) : Prop := ∀ n b, ρ n = some b → ρ' n = some b
theorem Ext.refl (ρ : Rho) : Ext ρ ρ := fun _ _ h => h
theorem Ext.trans {a b c : Rho} (h : Ext a b) (k : Ext b c) : Ext a c := fun n x q => k n x (h n x q)
theorem cAt_ext {ρ ρ' : Rho} (h : Ext ρ ρ') {x : CV} {v : Value} (q : cAt ρ x = some v) : cAt ρ' x = some v := by
  cases x with
  | v y => exact q
  | p n o =>
    simp only [cAt, Option.map_eq_some_iff] at q ⊢
    obtain ⟨b, h1, h2⟩ := q
    exact ⟨b, h n b h1, h2⟩
theorem csAt_ext {ρ ρ' : Rho} (h : Ext ρ ρ') : ∀ {l : List CV} {v : List Value}, csAt ρ l = some v → csAt ρ' l = some v
  | [], _, q => q
  | x :: l, v, q => by
    simp only [csAt, Option.bind_eq_some_iff, Option.map_eq_some_iff] at q ⊢
    obtain ⟨y, h1, z, h2, h3⟩ := q
    exact ⟨y, cAt_ext h h1, z, csAt_ext h h2, h3⟩
theorem aAt_ext {ρ ρ' : Rho} (h : Ext ρ ρ') {x : AV} {v : Value} (q : aAt ρ x = some v) : aAt ρ' x = some v := by
  cases x with
  | v y => exact q
  | p n o => exact cAt_ext (x := .p n o) h q
  | c f b c =>
    simp only [aAt, Option.bind_eq_some_iff, Option.map_eq_some_iff] at q ⊢
    obtain ⟨y, h1, z, h2, h3⟩ := q
    exact ⟨y, csAt_ext h h1, z, csAt_ext h h2, h3⟩
  | s n o l c =>
    simp only [aAt, Option.map_eq_some_iff] at q ⊢
    obtain ⟨b, h1, h2⟩ := q
    exact ⟨b, h n b h1, h2⟩
theorem asAt_ext {ρ ρ' : Rho} (h : Ext ρ ρ') : ∀ {l : List AV} {v : List Value}, asAt ρ l = some v → asAt ρ' l = some v
  | [], _, q => q
  | x :: l, v, q => by
    simp only [asAt, Option.bind_eq_some_iff, Option.map_eq_some_iff] at q ⊢
    obtain ⟨y, h1, z, h2, h3⟩ := q
    exact ⟨y, aAt_ext h h1, z, asAt_ext h h2, h3⟩
theorem csAt_length {ρ : Rho} : ∀ {l : List CV} {v : List Value}, csAt ρ l = some v → v.length = l.length
  | [], _, q => by simp [csAt] at q; subst q; rfl
  | x :: l, v, q => by
    simp only [csAt, Option.bind_eq_some_iff, Option.map_eq_some_iff] at q
    obtain ⟨y, h1, z, h2, h3⟩ := q
    subst h3
    simp [csAt_length h2]
theorem csAt_get {ρ : Rho} : ∀ {l : List CV} {v : List Value} (_ : csAt ρ l = some v) (i : Nat), (l[i]?).bind (cAt ρ) = v[i]?
  | [], _, q, i => by simp [csAt] at q; subst q; simp
  | x :: l, v, q, i => by
    simp only [csAt, Option.bind_eq_some_iff, Option.map_eq_some_iff] at q
    obtain ⟨y, h1, z, h2, h3⟩ := q
    subst h3
    cases i with
    | zero => simp [h1]
    | succ i => simpa using csAt_get h2 i
theorem csAt_append {ρ : Rho} : ∀ {l m : List CV} {v u : List Value}, csAt ρ l = some v → csAt ρ m = some u → csAt ρ (l ++ m) = some (v ++ u)
  | [], _, _, _, q, h => by simp [csAt] at q; subst q; simpa using h
  | x :: l, m, v, u, q, h => by
    simp only [List.cons_append, csAt, Option.bind_eq_some_iff, Option.map_eq_some_iff] at q ⊢
    obtain ⟨y, h1, z, h2, h3⟩ := q
    subst h3
    exact ⟨y, h1, z ++ u, csAt_append h2 h, rfl⟩
theorem csAt_take {ρ : Rho} : ∀ {l : List CV} {v : List Value} (n : Nat), csAt ρ l = some v → csAt ρ (l.take n) = some (v.take n)
  | [], _, n, q => by simp [csAt] at q; subst q; simp [csAt]
  | x :: l, v, 0, _ => by simp [csAt]
  | x :: l, v, n + 1, q => by
    simp only [csAt, Option.bind_eq_some_iff, Option.map_eq_some_iff, List.take_succ_cons] at q ⊢
    obtain ⟨y, h1, z, h2, h3⟩ := q
    subst h3
    exact ⟨y, h1, z.take n, csAt_take n h2, by simp⟩
theorem csAt_drop {ρ : Rho} : ∀ {l : List CV} {v : List Value} (n : Nat), csAt ρ l = some v → csAt ρ (l.drop n) = some (v.drop n)
  | [], _, n, q => by simp [csAt] at q; subst q; simp [csAt]
  | x :: l, v, 0, q => by simpa using q
  | x :: l, v, n + 1, q => by
    simp only [csAt, Option.bind_eq_some_iff, Option.map_eq_some_iff] at q
    obtain ⟨y, h1, z, h2, h3⟩ := q
    subst h3
    simpa using csAt_drop n h2
theorem asAt_get {ρ : Rho} : ∀ {l : List AV} {v : List Value} (_ : asAt ρ l = some v) (i : Nat), (l[i]?).bind (aAt ρ) = v[i]?
  | [], _, q, i => by simp [asAt] at q; subst q; simp
  | x :: l, v, q, i => by
    simp only [asAt, Option.bind_eq_some_iff, Option.map_eq_some_iff] at q
    obtain ⟨y, h1, z, h2, h3⟩ := q
    subst h3
    cases i with
    | zero => simp [h1]
    | succ i => simpa using asAt_get h2 i
theorem asAt_length {ρ : Rho} : ∀ {l : List AV} {v : List Value}, asAt ρ l = some v → v.length = l.length
  | [], _, q => by simp [asAt] at q; subst q; rfl
  | x :: l, v, q => by
    simp only [asAt, Option.bind_eq_some_iff, Option.map_eq_some_iff] at q
    obtain ⟨y, h1, z, h2, h3⟩ := q
    subst h3
    simp [asAt_length h2]
theorem asAt_append {ρ : Rho} : ∀ {l m : List AV} {v u : List Value}, asAt ρ l = some v → asAt ρ m = some u → asAt ρ (l ++ m) = some (v ++ u)
  | [], _, _, _, q, h => by simp [asAt] at q; subst q; simpa using h
  | x :: l, m, v, u, q, h => by
    simp only [List.cons_append, asAt, Option.bind_eq_some_iff, Option.map_eq_some_iff] at q ⊢
    obtain ⟨y, h1, z, h2, h3⟩ := q
    subst h3
    exact ⟨y, h1, z ++ u, asAt_append h2 h, rfl⟩
theorem asAt_set {ρ : Rho} : ∀ {l : List AV} {v : List Value} (n : Nat) {x : AV} {u : Value}, asAt ρ l = some v → aAt ρ x = some u → asAt ρ (l.set n x) = some (v.set n u)
  | [], _, n, _, _, q, _ => by simp [asAt] at q; subst q; simp [asAt]
  | x :: l, v, 0, y, u, q, h => by
    simp only [asAt, Option.bind_eq_some_iff, Option.map_eq_some_iff] at q
    obtain ⟨y', h1, z, h2, h3⟩ := q
    subst h3
    simp [asAt, h, h2]
  | x :: l, v, n + 1, y, u, q, h => by
    simp only [asAt, Option.bind_eq_some_iff, Option.map_eq_some_iff] at q
    obtain ⟨y', h1, z, h2, h3⟩ := q
    subst h3
    simp [asAt, h1, asAt_set n h2 h]
theorem asAt_mapV {ρ : Rho} : ∀ (l : List Value), asAt ρ (l.map AV.v) = some l
  | [] => rfl
  | x :: l => by simp [asAt, aAt, asAt_mapV l]
theorem csAt_mapV {ρ : Rho} : ∀ (l : List Value), csAt ρ (l.map CV.v) = some l
  | [] => rfl
  | x :: l => by simp [csAt, cAt, csAt_mapV l]
theorem toA_at {ρ : Rho} (x : CV) : aAt ρ x.toA = cAt ρ x := by cases x <;> rfl
theorem asAt_mapToA {ρ : Rho} : ∀ (l : List CV), asAt ρ (l.map CV.toA) = csAt ρ l
  | [] => rfl
  | x :: l => by simp [asAt, csAt, toA_at, asAt_mapToA l]
theorem asAt_replicate {ρ : Rho} (n : Nat) (x : Value) : asAt ρ (List.replicate n (.v x)) = some (List.replicate n x) := by
  induction n with
  | zero => rfl
  | succ n ih => simp [List.replicate_succ, asAt, aAt, ih]
theorem allV_at {ρ : Rho} : ∀ {l : List CV} {vs : List Value}, allV l = some vs → csAt ρ l = some vs
  | [], _, q => by simp [allV] at q; subst q; rfl
  | .v x :: l, vs, q => by
    simp only [allV] at q
    split at q
    · rename_i r hr
      simp only [Option.some.injEq] at q
      subst q
      simp [csAt, cAt, allV_at hr]
    · cases q
  | .p _ _ :: _, _, q => by simp [allV] at q

/-- The local blocks lie in the world. -/
structure ML (ρ : Rho) (L : Loc) (w : World) : Prop where
  dom : ∀ n, (ρ n).isSome = (get L n).isSome
  blk : ∀ n b k, ρ n = some b → get L n = some k → ∃ vs, csAt ρ k.cells = some vs ∧ w.heap[b]? = some (.cells ⟨vs⟩ k.ty (0, 0))
  inj : ∀ n m b, ρ n = some b → ρ m = some b → n = m
theorem ML.lt {ρ : Rho} {L : Loc} {w : World} (h : ML ρ L w) {n : Nm} {b : Nat} (q : ρ n = some b) : b < w.heap.size := by
  have hd := h.dom n
  rw [q] at hd
  cases hg : get L n with
  | none => rw [hg] at hd; cases hd
  | some k =>
    obtain ⟨vs, _, h2⟩ := h.blk n b k q hg
    exact (Array.getElem?_eq_some_iff.1 h2).1
theorem ML.congr {ρ : Rho} {L L' : Loc} {w : World} (h : ML ρ L w) (e : ∀ n, get L' n = get L n) : ML ρ L' w :=
  ⟨fun n => by rw [e]; exact h.dom n, fun n b k q g => h.blk n b k q (by rw [← e]; exact g), h.inj⟩
def MT (ρ : Rho) (τ : List AV) (a : Act) : Prop := a.defers = [] ∧ asAt ρ τ = some a.tmps.toList
/-- What a step leaves as it was. -/
structure Nxt (ρ : Rho) (w : World) (ρ' : Rho) (w' : World) : Prop where
  ext : Ext ρ ρ'
  os : w'.os = w.os
  tape : w'.tape = w.tape
  output : w'.output = w.output
  size : w.heap.size ≤ w'.heap.size
  old : ∀ k, k < w.heap.size → (∀ n, ρ n ≠ some k) → w'.heap[k]? = w.heap[k]?
  new : ∀ n b, ρ' n = some b → ρ n = none → w.heap.size ≤ b
theorem Nxt.refl (ρ : Rho) (w : World) : Nxt ρ w ρ w := ⟨Ext.refl ρ, rfl, rfl, rfl, Nat.le_refl _, fun _ _ _ => rfl, fun n b h q => by rw [h] at q; cases q⟩
theorem Nxt.trans {ρ ρ₁ ρ₂ : Rho} {w w₁ w₂ : World} (h : Nxt ρ w ρ₁ w₁) (k : Nxt ρ₁ w₁ ρ₂ w₂) : Nxt ρ w ρ₂ w₂ where
  ext := h.ext.trans k.ext
  os := k.os.trans h.os
  tape := k.tape.trans h.tape
  output := k.output.trans h.output
  size := Nat.le_trans h.size k.size
  old := fun i hi hn => by
    rw [k.old i (Nat.lt_of_lt_of_le hi h.size) ?_, h.old i hi hn]
    intro n q
    cases hr : ρ n with
    | none => exact absurd (h.new n i q hr) (by omega)
    | some b =>
      have := h.ext n b hr
      rw [q] at this
      cases this
      exact hn n hr
  new := fun n b hb hn => by
    cases hr : ρ₁ n with
    | none => exact Nat.le_trans h.size (k.new n b hb hr)
    | some c =>
      have := k.ext n c hr
      rw [hb] at this
      cases this
      exact h.new n b hr hn
theorem Nxt.drew {ρ : Rho} {w : World} : Nxt ρ w ρ { w with drawn := w.drawn + 1 } := ⟨Ext.refl ρ, rfl, rfl, rfl, Nat.le_refl _, fun _ _ _ => rfl, fun n b h q => by rw [h] at q; cases q⟩
theorem ML.drew {ρ : Rho} {L : Loc} {w : World} (h : ML ρ L w) : ML ρ L { w with drawn := w.drawn + 1 } := ⟨h.dom, h.blk, h.inj⟩

/-- What a function does, called with these values over these blocks. -/
def Runs (P : Program) (f : FuncId) (args : List AV) (L : Loc) (r : AV) (L' : Loc) : Prop :=
  ∀ ρ w vs, asAt ρ args = some vs → ML ρ L w → Calls P f ⟨vs⟩ w fun e w' => ∃ v ρ', e = .returned v ∧ Nxt ρ w ρ' w' ∧ aAt ρ' r = some v ∧ ML ρ' L' w'
def OpS (P : Program) (all : List Oper) (o : Oper) (τ : List AV) (L : Loc) (v : AV) (U : Loc) (rd : List Nm) : Prop :=
  ∀ ρ a w τ0 L0, MT ρ τ0 a → (∀ t ∈ looks all o, getA τ0 t = getA τ t) → ML ρ L0 w → (∀ n, n ∈ rd ∨ n ∈ keys U → get L0 n = get L n) →
    ∀ next Q, (∀ ρ' w' u, Nxt ρ w ρ' w' → aAt ρ' v = some u → ML ρ' (U ++ L0) w' → next (a.put o.dst u) w') → o.wp P a w next Q

theorem getA_at {ρ : Rho} {τ : List AV} {a : Act} (h : MT ρ τ a) (t : Nat) : aAt ρ (getA τ t) = some (a.tmps.getD t undef) := by
  have := asAt_get h.2 t
  unfold getA
  cases hx : τ[t]? with
  | none =>
    rw [hx] at this
    simp only [Option.bind_none] at this
    have h2 : a.tmps[t]? = none := by rw [← Array.getElem?_toList]; exact this.symm
    simp [aAt, h2]
  | some x =>
    rw [hx] at this
    simp only [Option.bind_some] at this
    rw [this]
    have hl : t < τ.length := (List.getElem?_eq_some_iff.1 hx).1
    have h3 := asAt_length h.2
    have h4 : t < a.tmps.size := by simp at h3; omega
    simp [h4]
theorem evA_at {ρ : Rho} {τ : List AV} {a : Act} (h : MT ρ τ a) (x : Operand) : aAt ρ (evA τ x) = some (a.eval x) := by
  cases x with
  | tmp t => exact getA_at h t
  | const x => rfl
  | global g => rfl
  | func f => rfl
theorem evA_congr {τ τ0 : List AV} {all : List Oper} {o : Oper} (h : ∀ t ∈ looks all o, getA τ0 t = getA τ t) {x : Operand} (hx : x ∈ o.op.operands) : evA τ0 x = evA τ x := by
  cases x with
  | tmp t =>
    refine h t ?_
    unfold looks
    refine List.mem_append_left _ (List.mem_filterMap.2 ⟨.tmp t, by simpa using hx, rfl⟩)
  | _ => rfl
theorem MT.put {ρ : Rho} {τ : List AV} {a : Act} (h : MT ρ τ a) (d : Option Tmp) {x : AV} {u : Value} (hx : aAt ρ x = some u) : MT ρ (putA τ d x) (a.put d u) := by
  cases d with
  | none => exact h
  | some d =>
    refine ⟨h.1, ?_⟩
    simp only [putA, Act.put, Array.toList_setIfInBounds]
    exact asAt_set d h.2 hx
theorem MT.ext {ρ ρ' : Rho} (e : Ext ρ ρ') {τ : List AV} {a : Act} (h : MT ρ τ a) : MT ρ' τ a := ⟨h.1, asAt_ext e h.2⟩
theorem MT.of_get {ρ : Rho} {τ τ' : List AV} {a : Act} (h : MT ρ τ a) (hl : τ'.length = τ.length) (e : ∀ t, getA τ' t = getA τ t) : MT ρ τ' a := by
  have : τ' = τ := by
    apply List.ext_getElem hl
    intro i h1 h2
    have := e i
    unfold getA at this
    rw [List.getElem?_eq_getElem h1, List.getElem?_eq_getElem h2] at this
    exact this
  rw [this]; exact h
theorem val?_run {α : Type} {P : Program} {s : Sem α} {a : α} : val? P s = some a → ∀ w, s.run P w = .ok a w := by
  induction s with
  | pure x => intro h w; simp only [val?, Option.some.injEq] at h; subst h; rfl
  | program k ih => intro h w; exact ih P h w
  | mark m k ih => intro h w; exact ih h w
  | _ => intro h; simp [val?] at h
end Ev
end Go.Proofs.YtfilgpifiboccaaGreat
namespace Go.Proofs.YtfilgpifiboccaaGreat
namespace Ev
open Go.RowKit
section
variable {P : Program} {all : List Oper} {o : Oper} {τ : List AV} {L : Loc}

theorem opS_val {v : AV} (h : ∀ ρ a w τ0, MT ρ τ0 a → (∀ t ∈ looks all o, getA τ0 t = getA τ t) → ∃ u, aAt ρ v = some u ∧ (execOp a.eval o).run P w = .ok (.value u) w) :
    OpS P all o τ L v [] [] := by
  intro ρ a w τ0 L0 hM hl hL _ next Q hn
  obtain ⟨u, hu, hr⟩ := h ρ a w τ0 hM hl
  unfold Oper.wp
  rw [hr]
  exact hn ρ w u (Nxt.refl ρ w) hu (by simpa using hL)
theorem isV_v {x : AV} (h : isV x = true) : ∃ v, x = .v v := by cases x <;> simp [isV] at h; exact ⟨_, rfl⟩
theorem eval_evV {ρ : Rho} {a : Act} {τ0 : List AV} (hM : MT ρ τ0 a) (hl : ∀ t ∈ looks all o, getA τ0 t = getA τ t) {x : Operand} (hx : x ∈ o.op.operands) (hv : isV (evA τ x) = true) : a.eval x = evV τ x := by
  have h1 := evA_at hM x
  rw [evA_congr hl hx] at h1
  obtain ⟨v, e⟩ := isV_v hv
  unfold evV
  rw [e] at h1 ⊢
  simp only [aAt, Option.some.injEq] at h1
  exact h1.symm
theorem genA_run {v : AV} (hs : ∀ cs b, o.op ≠ .select cs b) (h : genA P τ o = some v) {ρ : Rho} {a : Act} {τ0 : List AV} (hM : MT ρ τ0 a) (hl : ∀ t ∈ looks all o, getA τ0 t = getA τ t) (w : World) :
    ∃ u, aAt ρ v = some u ∧ (execOp a.eval o).run P w = .ok (.value u) w := by
  unfold genA at h
  cases hv : opVals τ o.op.operands.toList with
  | false => rw [hv] at h; cases h
  | true =>
    rw [hv] at h
    simp only [cond_true] at h
    have e : execOp a.eval o = execOp (evV τ) o := execOp_congr o hs fun x hx => eval_evV hM hl hx (by
      unfold opVals at hv
      rw [List.all_eq_true] at hv
      exact hv x (by simpa using hx))
    split at h
    · rename_i u hu
      simp only [Option.some.injEq] at h
      subst h
      exact ⟨u, rfl, by rw [e]; exact val?_run hu w⟩
    · cases h
theorem opS_gen {v : AV} (hs : ∀ cs b, o.op ≠ .select cs b) (h : genA P τ o = some v) : OpS P all o τ L v [] [] :=
  opS_val fun _ _ w _ hM hl => genA_run hs h hM hl w
theorem opS_ev {x : Operand} (hx : x ∈ o.op.operands) (hr : ∀ ρ : Operand → Value, execOp ρ o = pure (.value (ρ x))) : OpS P all o τ L (evA τ x) [] [] :=
  opS_val fun ρ a w τ0 hM hl => by
    have h1 := evA_at hM x
    rw [evA_congr hl hx] at h1
    exact ⟨a.eval x, h1, by rw [hr]; rfl⟩
theorem opS_move {x : Operand} (ho : o.op = .move x) : OpS P all o τ L (evA τ x) [] [] :=
  opS_ev (by simp [ho, Op.operands]) fun ρ => by simp [execOp, ho]
theorem opS_assign {x : Operand} (ho : o.op = .assign x) : OpS P all o τ L (evA τ x) [] [] :=
  opS_ev (by simp [ho, Op.operands]) fun ρ => by simp [execOp, ho]
theorem opS_pick {c x y : Operand} {t : Bool} (ho : o.op = .pick c x y) (hc : evA τ c = .v (.bool t)) : OpS P all o τ L (cond t (evA τ x) (evA τ y)) [] [] :=
  opS_val fun ρ a w τ0 hM hl => by
    have h1 := evA_at hM c
    rw [evA_congr hl (by simp [ho, Op.operands]), hc] at h1
    have h1 : a.eval c = .bool t := by simpa [aAt] using h1.symm
    have h2 := evA_at hM x
    rw [evA_congr hl (by simp [ho, Op.operands])] at h2
    have h3 := evA_at hM y
    rw [evA_congr hl (by simp [ho, Op.operands])] at h3
    cases t
    · exact ⟨a.eval y, h3, by simp [execOp, ho, h1, asBool]⟩
    · exact ⟨a.eval x, h2, by simp [execOp, ho, h1, asBool]⟩
theorem opS_fieldAddr {s f : Nat} {x : Operand} {n : Nm} {off d : Nat} (ho : o.op = .fieldAddr s x f) (hx : evA τ x = .p n off) (hf : fieldA P s f = some d) : OpS P all o τ L (.p n (off + d)) [] [] :=
  opS_val fun ρ a w τ0 hM hl => by
    have h1 := evA_at hM x
    rw [evA_congr hl (by simp [ho, Op.operands]), hx] at h1
    simp only [aAt, Option.map_eq_some_iff] at h1
    obtain ⟨b, hb, e⟩ := h1
    unfold fieldA at hf
    split at hf
    · rename_i fs hu
      split at hf
      · rename_i fd hfd
        split at hf
        · rename_i i hi
          cases hz : Nat.beq i.size 0 with
          | true => rw [hz] at hf; cases hf
          | false =>
            rw [hz] at hf
            simp only [cond_false, Option.some.injEq] at hf
            subst hf
            have hne : i.size ≠ 0 := by intro q; rw [q] at hz; cases hz
            refine ⟨.pointer (some ⟨b, off + fd.offset, none⟩), by simp [aAt, hb], ?_⟩
            simp [execOp, ho, Instr.fieldAt, run_underlying hu, hfd, ← e, Instr.sureAddr, fieldPlace, sizeOf, typeInfo, hi, hne, Addr.add_mid]
        · cases hf
      · cases hf
    · cases hf
theorem opS_indexAddr {t : Nat} {x y : Operand} {n : Nm} {k : IntKind} {ix : Int} {off d : Nat} (ho : o.op = .indexAddr t x y) (hx : evA τ x = .p n off) (hy : evA τ y = .v (.int k ix)) (hf : indexA P t ix = some d) : OpS P all o τ L (.p n (off + d)) [] [] :=
  opS_val fun ρ a w τ0 hM hl => by
    have h1 := evA_at hM x
    rw [evA_congr hl (by simp [ho, Op.operands]), hx] at h1
    simp only [aAt, Option.map_eq_some_iff] at h1
    obtain ⟨b, hb, e⟩ := h1
    have h2 := evA_at hM y
    rw [evA_congr hl (by simp [ho, Op.operands]), hy] at h2
    have h2 : a.eval y = .int k ix := by simpa [aAt] using h2.symm
    unfold indexA at hf
    split at hf
    · rename_i len el hu
      split at hf
      · rename_i i hi
        split at hf
        · rename_i j _
          cases hz : Nat.ble (j + 1) len with
          | false => rw [hz] at hf; cases hf
          | true =>
            rw [hz] at hf
            simp only [cond_true, Option.some.injEq] at hf
            subst hf
            have hlt : j + 1 ≤ len := Nat.le_of_ble_eq_true hz
            refine ⟨.pointer (some ⟨b, off + j * i.size, none⟩), by simp [aAt, hb], ?_⟩
            have h3 : (0 : Int) ≤ Int.ofNat j ∧ Int.ofNat j < (len : Int) := by
              constructor
              · exact Int.natCast_nonneg j
              · show (j : Int) < len
                omega
            have h4 : (Int.ofNat j) < (len : Int) := h3.2
            simp [execOp, ho, Instr.indexAt, asIntOf, h2, run_underlying hu, ← e, Instr.sureAddr, sizeOf, typeInfo, hi, Addr.add_mid]
            omega
        · cases hf
      · cases hf
    · cases hf
theorem opS_indexSlice {t : Nat} {x y : Operand} {n : Nm} {k : IntKind} {ix : Int} {off len cp d : Nat} (ho : o.op = .indexAddr t x y) (hx : evA τ x = .s n off len cp) (hy : evA τ y = .v (.int k ix)) (hf : indexS P t len ix = some d) : OpS P all o τ L (.p n (off + d)) [] [] :=
  opS_val fun ρ a w τ0 hM hl => by
    have h1 := evA_at hM x
    rw [evA_congr hl (by simp [ho, Op.operands]), hx] at h1
    simp only [aAt, Option.map_eq_some_iff] at h1
    obtain ⟨b, hb, e⟩ := h1
    have h2 := evA_at hM y
    rw [evA_congr hl (by simp [ho, Op.operands]), hy] at h2
    have h2 : a.eval y = .int k ix := by simpa [aAt] using h2.symm
    unfold indexS at hf
    split at hf
    · rename_i el hu
      split at hf
      · rename_i i hi
        split at hf
        · rename_i j _
          cases hz : Nat.ble (j + 1) len with
          | false => rw [hz] at hf; cases hf
          | true =>
            rw [hz] at hf
            simp only [cond_true, Option.some.injEq] at hf
            subst hf
            have hlt : j + 1 ≤ len := Nat.le_of_ble_eq_true hz
            refine ⟨.pointer (some ⟨b, off + j * i.size, none⟩), by simp [aAt, hb], ?_⟩
            simp [execOp, ho, Instr.indexAt, asIntOf, h2, run_underlying hu, ← e, sizeOf, typeInfo, hi, Addr.add_mid]
            omega
        · cases hf
      · cases hf
    · cases hf
theorem bound_run {ρ : Rho} {a : Act} {τ0 : List AV} (hM : MT ρ τ0 a) (hl : ∀ t ∈ looks all o, getA τ0 t = getA τ t) {d k : Nat} {x : Operand} (hx : x ∈ o.op.operands) (h : bound τ d (some x) = some k) : ∃ q, a.eval x = .int q (k : Int) := by
  simp only [bound] at h
  split at h
  · rename_i q j e
    simp only [Option.some.injEq] at h
    subst h
    have h1 := evA_at hM x
    rw [evA_congr hl hx, e] at h1
    exact ⟨q, by simpa [aAt] using h1.symm⟩
  · cases h
theorem run_sliceBounds {ρ : Rho} {a : Act} {τ0 : List AV} (hM : MT ρ τ0 a) (hl : ∀ t ∈ looks all o, getA τ0 t = getA τ t) {is : Bool} {len m l h : Nat} {lo hi : Option Operand} (h1 : ∀ x, lo = some x → x ∈ o.op.operands) (h2 : ∀ x, hi = some x → x ∈ o.op.operands)
    (hlo : bound τ 0 lo = some l) (hhi : bound τ len hi = some h) (hlh : l ≤ h) (hhm : h ≤ m) (w : World) : (Instr.sliceBounds is len m (lo.map a.eval) (hi.map a.eval) none).run P w = .ok (l, h, m) w := by
  have sb : ∀ (x : Operand) (q : IntKind) (v y : Nat) (c : BoundsCode), a.eval x = .int q (v : Int) → v ≤ y → (Instr.sliceBound (a.eval x) y c).run P w = .ok v w := fun x q v y c e hv => by
    simp [Instr.sliceBound, e, asIntOf]
    omega
  cases lo with
  | none =>
    simp only [bound, Option.some.injEq] at hlo
    subst hlo
    cases hi with
    | none =>
      simp only [bound, Option.some.injEq] at hhi
      subst hhi
      simp [Instr.sliceBounds]
    | some y =>
      obtain ⟨q, e⟩ := bound_run hM hl (h2 y rfl) hhi
      simp [Instr.sliceBounds, sb y q h m _ e hhm]
  | some x =>
    obtain ⟨q', e'⟩ := bound_run hM hl (h1 x rfl) hlo
    cases hi with
    | none =>
      simp only [bound, Option.some.injEq] at hhi
      subst hhi
      simp [Instr.sliceBounds, sb x q' l len _ e' hlh]
    | some y =>
      obtain ⟨q, e⟩ := bound_run hM hl (h2 y rfl) hhi
      simp [Instr.sliceBounds, sb y q h m _ e hhm, sb x q' l h _ e' hlh]
theorem opS_slice {t : Nat} {x : Operand} {lo hi : Option Operand} {v : AV} (ho : o.op = .slice t x lo hi none) (hv : sliceA P τ t (evA τ x) lo hi = some v) : OpS P all o τ L v [] [] :=
  opS_val fun ρ a w τ0 hM hl => by
    have h1 := evA_at hM x
    rw [evA_congr hl (by simp [ho, Op.operands])] at h1
    have m1 : ∀ y, lo = some y → y ∈ o.op.operands := fun y e => by subst e; simp [ho, Op.operands]
    have m2 : ∀ y, hi = some y → y ∈ o.op.operands := fun y e => by subst e; simp [ho, Op.operands]
    unfold sliceA at hv
    split at hv
    · rename_i n off m e hx hu
      rw [hx] at h1
      simp only [aAt, Option.map_eq_some_iff] at h1
      obtain ⟨b, hb, ex⟩ := h1
      split at hv
      · rename_i i l h hi' hlo hhi
        cases hc : (Nat.ble l h && Nat.ble h m) with
        | false => rw [hc] at hv; cases hv
        | true =>
          rw [hc] at hv
          simp only [cond_true, Option.some.injEq] at hv
          subst hv
          simp only [Bool.and_eq_true] at hc
          have c1 : l ≤ h := Nat.le_of_ble_eq_true hc.1
          have c2 : h ≤ m := Nat.le_of_ble_eq_true hc.2
          have hr := run_sliceBounds (P := P) (is := false) hM hl m1 m2 hlo hhi c1 c2 w
          refine ⟨.slice (some ⟨b, cond (Nat.beq m l) off (off + l * i.size), none⟩) (h - l) (m - l), by simp [aAt, hb], ?_⟩
          cases hm : Nat.beq m l with
          | true =>
            have : m = l := Nat.eq_of_beq_eq_true hm
            subst this
            simp [execOp, ho, Instr.sliceAt, run_underlying hu, ← ex, Instr.sureAddr, hr, sizeOf, typeInfo, hi']
          | false =>
            have : m ≠ l := fun q => by subst q; simp at hm
            simp [execOp, ho, Instr.sliceAt, run_underlying hu, ← ex, Instr.sureAddr, hr, sizeOf, typeInfo, hi', this, Addr.add_mid]
      · cases hv
    · rename_i n off len m e hx hu
      rw [hx] at h1
      simp only [aAt, Option.map_eq_some_iff] at h1
      obtain ⟨b, hb, ex⟩ := h1
      split at hv
      · rename_i i l h hi' hlo hhi
        cases hc : (Nat.ble l h && Nat.ble h m) with
        | false => rw [hc] at hv; cases hv
        | true =>
          rw [hc] at hv
          simp only [cond_true, Option.some.injEq] at hv
          subst hv
          simp only [Bool.and_eq_true] at hc
          have c1 : l ≤ h := Nat.le_of_ble_eq_true hc.1
          have c2 : h ≤ m := Nat.le_of_ble_eq_true hc.2
          have hr := run_sliceBounds (P := P) (is := true) hM hl m1 m2 hlo hhi c1 c2 w
          refine ⟨.slice (some ⟨b, cond (Nat.beq m l) off (off + l * i.size), none⟩) (h - l) (m - l), by simp [aAt, hb], ?_⟩
          cases hm : Nat.beq m l with
          | true =>
            have : m = l := Nat.eq_of_beq_eq_true hm
            subst this
            simp [execOp, ho, Instr.sliceAt, Instr.slice, run_underlying hu, ← ex, hr, sizeOf, typeInfo, hi']
          | false =>
            have : m ≠ l := fun q => by subst q; simp at hm
            simp [execOp, ho, Instr.sliceAt, Instr.slice, run_underlying hu, ← ex, hr, sizeOf, typeInfo, hi', this, Addr.add_mid]
      · cases hv
    · cases hv
theorem opS_len {c : Call} {v : AV} (ho : o.op = .call c) (hv : lenA P τ c = some v) : OpS P all o τ L v [] [] :=
  opS_val fun ρ a w τ0 hM hl => by
    unfold lenA at hv
    split at hv
    · rename_i x t hc ha ht
      split at hv
      · rename_i n off len cp e hx hu
        simp only [Option.some.injEq] at hv
        subst hv
        have hm : x ∈ o.op.operands := by
          simp only [ho, Op.operands, Call.operands]
          refine Array.mem_append.2 (.inr ?_)
          have : x ∈ c.args.toList := by rw [ha]; simp
          simpa using this
        have h1 := evA_at hM x
        rw [evA_congr hl hm, hx] at h1
        simp only [aAt, Option.map_eq_some_iff] at h1
        obtain ⟨b, hb, ex⟩ := h1
        have ea : c.args = #[x] := by apply Array.toList_inj.1; rw [ha]
        have et : c.argTypes = #[t] := by apply Array.toList_inj.1; rw [ht]
        refine ⟨_, rfl, ?_⟩
        simp [execOp, ho, resolve, hc, ea, et, invoke, builtin, Builtin.len_, run_underlying hu, ← ex, goInt]
      · cases hv
    · cases hv
theorem opS_nil {x : Operand} (ho : o.op = .nilCheck x) (hx : ∀ v, evA τ x ≠ .v v) : OpS P all o τ L (evA τ x) [] [] :=
  opS_val fun ρ a w τ0 hM hl => by
    have h1 := evA_at hM x
    rw [evA_congr hl (by simp [ho, Op.operands])] at h1
    refine ⟨a.eval x, h1, ?_⟩
    cases hq : evA τ x with
    | v v => exact absurd hq (hx v)
    | p n off =>
      rw [hq] at h1
      simp only [aAt, Option.map_eq_some_iff] at h1
      obtain ⟨b, hb, e⟩ := h1
      simp [execOp, ho, ← e]
    | c f b c =>
      rw [hq] at h1
      simp only [aAt, Option.bind_eq_some_iff, Option.map_eq_some_iff] at h1
      obtain ⟨y, h1, z, h2, h3⟩ := h1
      simp [execOp, ho, ← h3]
    | s n off l c =>
      rw [hq] at h1
      simp only [aAt, Option.map_eq_some_iff] at h1
      obtain ⟨b, hb, e⟩ := h1
      simp [execOp, ho, ← e]
theorem opS_div {op : BinOp} {t yt : Nat} {x y : Operand} {q : Bool} {a b : Int} (ho : o.op = .binOp op t x y yt) (hq : divOp op = some q) (hx : evA τ x = .v (.int .i64 a)) (hy : evA τ y = .v (.int .i64 b)) (hb : b ≠ 0) :
    OpS P all o τ L (.v (.int .i64 (cond q (IntKind.i64.wrap (a.tdiv b)) (a.tmod b)))) [] [] :=
  opS_val fun ρ c w τ0 hM hl => by
    refine ⟨_, rfl, ?_⟩
    have h1 := evA_at hM x
    rw [evA_congr hl (by simp [ho, Op.operands]), hx] at h1
    have h1 : c.eval x = .int .i64 a := by simpa [aAt] using h1.symm
    have h2 := evA_at hM y
    rw [evA_congr hl (by simp [ho, Op.operands]), hy] at h2
    have h2 : c.eval y = .int .i64 b := by simpa [aAt] using h2.symm
    cases op <;> simp [divOp] at hq
    all_goals
      subst hq
      simp [execOp, ho, h1, h2, eqGuard, binOp, Op.intDiv, hb]
theorem opS_build {t : Nat} {ps : Array (Nat × Operand)} {cells : Array Value} (ho : o.op = .build t ps) (hv : opVals τ (ps.toList.map (·.2)) = true)
    (hb : P.built t (ps.toList.map fun q => (q.1, evV τ q.2)) = some cells) : OpS P all o τ L (.v (.agg cells)) [] [] :=
  opS_val fun ρ a w τ0 hM hl => by
    refine ⟨_, rfl, ?_⟩
    have e : (ps.map fun (i, x) => (i, a.eval x)).toList = ps.toList.map fun q => (q.1, evV τ q.2) := by
      rw [Array.toList_map]
      refine List.map_congr_left fun q hq => ?_
      obtain ⟨i, x⟩ := q
      simp only
      rw [eval_evV (τ := τ) hM hl (x := x)]
      · rw [ho]
        simp only [Op.operands]
        have : x ∈ ps.toList.map (·.2) := List.mem_map.2 ⟨(i, x), hq, rfl⟩
        simpa using this
      · unfold opVals at hv
        rw [List.all_eq_true] at hv
        exact hv x (List.mem_map.2 ⟨(i, x), hq, rfl⟩)
    have := run_build (P := P) w t (ps.map fun (i, x) => (i, a.eval x)) cells (by rw [e]; exact hb)
    simp [execOp, ho, this]
theorem opS_eq {op : BinOp} {t yt : Nat} {x y : Operand} {xs ys : Array Value} {b r : Bool} (hE : ∀ w, (Op.equalIn 10000 t (.agg xs) (.agg ys)).run P w = .ok r w) (hg : P.eqGuardType P.depth t = false)
    (ho : o.op = .binOp op t x y yt) (hop : isEq op = some b) (hx : evA τ x = .v (.agg xs)) (hy : evA τ y = .v (.agg ys)) : OpS P all o τ L (.v (.bool (cond b r (!r)))) [] [] :=
  opS_val fun ρ a w τ0 hM hl => by
    refine ⟨_, rfl, ?_⟩
    have h1 := evA_at hM x
    rw [evA_congr hl (by simp [ho, Op.operands]), hx] at h1
    have h1 : a.eval x = .agg xs := by simpa [aAt] using h1.symm
    have h2 := evA_at hM y
    rw [evA_congr hl (by simp [ho, Op.operands]), hy] at h2
    have h2 : a.eval y = .agg ys := by simpa [aAt] using h2.symm
    have hge := run_eqGuard_agg (P := P) w op t x y xs ys hg
    cases op <;> simp [isEq] at hop
    all_goals
      subst hop
      simp [execOp, ho, h1, h2, hge, run_eql_struct, run_neq_struct, hE, Result.andThen]

/-! ### Memory -/
theorem ML.alloc {ρ : Rho} {w : World} (h : ML ρ L w) {nm : Nm} (hn : get L nm = none) {cs : List CV} {vs : List Value} (hc : csAt ρ cs = some vs) (t : TypeId) :
    ∃ ρ', ρ' nm = some w.heap.size ∧ Nxt ρ w ρ' (w.alloc (.cells ⟨vs⟩ t)) ∧ ML ρ' ((nm, ⟨cs, t⟩) :: L) (w.alloc (.cells ⟨vs⟩ t)) := by
  have hρ : ρ nm = none := by
    have := h.dom nm
    rw [hn] at this
    cases hq : ρ nm with
    | none => rfl
    | some b => rw [hq] at this; cases this
  have hext : Ext ρ (fun m => if nm = m then some w.heap.size else ρ m) := fun m b q => by
    (try dsimp only)
    rw [if_neg (fun e => by rw [← e, hρ] at q; cases q)]
    exact q
  refine ⟨fun m => if nm = m then some w.heap.size else ρ m, by simp, ⟨hext, rfl, rfl, rfl, by simp, fun k hk _ => heap_alloc_old w _ k hk, ?_⟩, ⟨?_, ?_, ?_⟩⟩
  · intro m b q q2
    (try dsimp only at q)
    split at q
    · cases q; exact Nat.le_refl _
    · rw [q2] at q; cases q
  · intro m
    rw [get_cons]
    (try dsimp only)
    split
    · rfl
    · exact h.dom m
  · intro m b k q hg
    (try dsimp only at q)
    rw [get_cons] at hg
    split at q
    · rename_i e
      rw [if_pos e] at hg
      cases hg
      cases q
      exact ⟨vs, csAt_ext hext hc, heap_alloc_new w _⟩
    · rename_i e
      rw [if_neg e] at hg
      obtain ⟨us, h1, h2⟩ := h.blk m b k q hg
      exact ⟨us, csAt_ext hext h1, by rw [heap_alloc_old w _ b (h.lt q)]; exact h2⟩
  · intro m m' b q q'
    (try dsimp only at q q')
    split at q <;> split at q'
    · rename_i e e'; exact e.symm.trans e'
    · cases q
      exact absurd (h.lt q') (by omega)
    · cases q'
      exact absurd (h.lt q) (by omega)
    · exact h.inj m m' b q q'
theorem ML.set {ρ : Rho} {w : World} (h : ML ρ L w) {n : Nm} {b : Nat} (hn : ρ n = some b) {k : Blk} (hk : get L n = some k) {cs : List CV} {vs : List Value} (hc : csAt ρ cs = some vs) :
    Nxt ρ w ρ (w.setRow b ⟨vs⟩) ∧ ML ρ ((n, ⟨cs, k.ty⟩) :: L) (w.setRow b ⟨vs⟩) := by
  obtain ⟨us, _, h2⟩ := h.blk n b k hn hk
  refine ⟨⟨Ext.refl ρ, rfl, rfl, rfl, by simp, fun j _ hj => setRow_other w b j _ (fun e => hj n (by rw [e]; exact hn)), fun m c q q' => by rw [q] at q'; cases q'⟩, ⟨?_, ?_, h.inj⟩⟩
  · intro m
    rw [get_cons]
    split
    · rename_i e; subst e; rw [hn]; rfl
    · exact h.dom m
  · intro m c l q hg
    rw [get_cons] at hg
    split at hg
    · rename_i e
      subst e
      cases hg
      rw [hn] at q
      cases q
      exact ⟨vs, hc, setRow_heap w b _ _ _ _ h2⟩
    · rename_i e
      obtain ⟨zs, h3, h4⟩ := h.blk m c l q hg
      refine ⟨zs, h3, ?_⟩
      rw [setRow_other w b c _ (fun e2 => e (h.inj n m b hn (by rw [← e2]; exact q)))]
      exact h4
theorem toCells_at {ρ : Rho} {x : AV} {cs : List CV} {v : Value} (h : toCells x = some cs) (hx : aAt ρ x = some v) : csAt ρ cs = some v.cells.toList := by
  cases x with
  | v y =>
    simp only [toCells, Option.some.injEq, aAt] at h hx
    subst h hx
    exact csAt_mapV _
  | p n o =>
    simp only [toCells, Option.some.injEq] at h
    subst h
    simp only [aAt, Option.map_eq_some_iff] at hx
    obtain ⟨b, hb, e⟩ := hx
    subst e
    simp [csAt, cAt, hb, Value.cells]
  | c f b c => cases h
  | s n o l c => cases h
theorem opS_box {t : Nat} {x : Operand} {nm : Nm} {cs : List CV} (ho : o.op = .box t x) (hc : toCells (evA τ x) = some cs) (hn : get L nm = none) :
    OpS P all o τ L (.p nm 0) [(nm, ⟨cs, t⟩)] [] := by
  intro ρ a w τ0 L0 hM hl hL hag next Q hnx
  have h1 := evA_at hM x
  rw [evA_congr hl (by simp [ho, Op.operands])] at h1
  have hcs := toCells_at hc h1
  have hn0 : get L0 nm = none := by rw [hag nm (.inr (by simp [keys]))]; exact hn
  obtain ⟨ρ', h2, h3, h4⟩ := hL.alloc hn0 hcs t
  unfold Oper.wp
  have : (execOp a.eval o).run P w = .ok (.value (.pointer (some ⟨w.heap.size, 0, none⟩))) (w.alloc (.cells ⟨(a.eval x).cells.toList⟩ t)) := by
    simp [execOp, ho, Instr.box, newVar, newRow, newObj, Sem.run]
  rw [this]
  exact hnx ρ' _ _ h3 (by simp [aAt, h2]) h4
theorem opS_alloc {t : Nat} {nm : Nm} {i : TypeInfo} {z : Value} (ho : o.op = .alloc t) (hi : P.info? t = some i) (hz : i.zero = some z) (hn : get L nm = none) :
    OpS P all o τ L (.p nm 0) [(nm, ⟨z.cells.toList.map CV.v, t⟩)] [] := by
  intro ρ a w τ0 L0 hM hl hL hag next Q hnx
  have hn0 : get L0 nm = none := by rw [hag nm (.inr (by simp [keys]))]; exact hn
  obtain ⟨ρ', h2, h3, h4⟩ := hL.alloc hn0 (csAt_mapV (ρ := ρ) z.cells.toList) t
  unfold Oper.wp
  have : (execOp a.eval o).run P w = .ok (.value (.pointer (some ⟨w.heap.size, 0, none⟩))) (w.alloc (.cells ⟨z.cells.toList⟩ t)) := by
    simp [execOp, ho, Instr.alloc, newVar, newRow, newObj, Sem.run, zeroValue, typeInfo, hi, hz]
  rw [this]
  exact hnx ρ' _ _ h3 (by simp [aAt, h2]) h4
theorem opS_buildSlice {t n : Nat} {ps : Array (Nat × Operand)} {nm : Nm} {e : TypeId} {cells : Array Value} (ho : o.op = .buildSlice t n ps) (hv : opVals τ (ps.toList.map (·.2)) = true)
    (hb : sliceLit P t n (ps.toList.map fun q => (q.1, evV τ q.2)) = some (e, cells)) (hn : get L nm = none) : OpS P all o τ L (.s nm 0 n n) [(nm, ⟨cells.toList.map CV.v, e⟩)] [] := by
  intro ρ a w τ0 L0 hM hl hL hag next Q hnx
  have hn0 : get L0 nm = none := by rw [hag nm (.inr (by simp [keys]))]; exact hn
  obtain ⟨ρ', h2, h3, h4⟩ := hL.alloc hn0 (csAt_mapV (ρ := ρ) cells.toList) e
  have ep : (ps.map fun (i, x) => (i, a.eval x)).toList = ps.toList.map fun q => (q.1, evV τ q.2) := by
    rw [Array.toList_map]
    refine List.map_congr_left fun q hq => ?_
    obtain ⟨i, x⟩ := q
    simp only
    rw [eval_evV (τ := τ) hM hl (x := x)]
    · rw [ho]
      simp only [Op.operands]
      have : x ∈ ps.toList.map (·.2) := List.mem_map.2 ⟨(i, x), hq, rfl⟩
      simpa using this
    · unfold opVals at hv
      rw [List.all_eq_true] at hv
      exact hv x (List.mem_map.2 ⟨(i, x), hq, rfl⟩)
  unfold sliceLit at hb
  split at hb
  · rename_i el hu
    split at hb
    · rename_i i hi
      split at hb
      · rename_i z hz
        cases hc : (Nat.beq (n * i.size) 0 || Nat.ble 16777216 (n * i.size)) with
        | true => rw [hc] at hb; cases hb
        | false =>
          rw [hc] at hb
          simp only [cond_false] at hb
          split at hb
          · rename_i cs hf
            simp only [Option.some.injEq, Prod.mk.injEq] at hb
            obtain ⟨rfl, rfl⟩ := hb
            simp only [Bool.or_eq_false_iff] at hc
            have c1 : ¬ n * i.size = 0 := fun q => by rw [q] at hc; simp at hc
            have c2 : ¬ n * i.size > 2 ^ 24 := fun q => by
              have : Nat.ble 16777216 (n * i.size) = true := Nat.ble_eq_true_of_le (by omega)
              rw [this] at hc
              exact absurd hc.2 (by simp)
            refine wp_buildSlice t el n ps ho cs i z hu hi hz c2 c1 (by rw [ep]; exact hf) ?_
            exact hnx ρ' _ _ h3 (by simp [aAt, h2]) h4
          · cases hb
      · cases hb
    · cases hb
  · cases hb
theorem run_loadVar_at {ρ : Rho} {w : World} {b : Nat} {k : Blk} {t : TypeId} {off : Nat} {v : AV} (h : loadA P k t off = some v) {vs : List Value} (hc : csAt ρ k.cells = some vs)
    (hb : w.heap[b]? = some (.cells ⟨vs⟩ k.ty (0, 0))) : ∃ u, aAt ρ v = some u ∧ (loadVar t ⟨b, off, none⟩).run P w = .ok u w := by
  unfold loadA at h
  split at h
  · rename_i d i hu hi
    cases hd : d.isRow with
    | true =>
      rw [hd] at h
      simp only [cond_true] at h
      split at h
      · rename_i us hus
        cases hl : Nat.beq us.length i.size with
        | false => rw [hl] at h; cases h
        | true =>
          rw [hl] at h
          simp only [cond_true, Option.some.injEq] at h
          subst h
          have hlen : us.length = i.size := Nat.eq_of_beq_eq_true hl
          have e : us = (vs.drop off).take i.size := by
            have h1 := allV_at (ρ := ρ) hus
            have h2 : csAt ρ (takeC k.cells off i.size) = some ((vs.drop off).take i.size) := csAt_take _ (csAt_drop _ hc)
            rw [h1] at h2
            exact Option.some.inj h2
          refine ⟨_, rfl, ?_⟩
          refine run_loadVar_mid w b off t us d ?_ hu hd (by rw [hi, hlen]; rfl)
          intro j u hj
          rw [e, List.getElem?_take] at hj
          split at hj
          · rw [List.getElem?_drop] at hj
            simp only [World.cell?, hb]
            simpa using hj
          · cases hj
      · cases h
    | false =>
      rw [hd] at h
      simp only [cond_false] at h
      split at h
      · rename_i c hcell
        simp only [Option.some.injEq] at h
        subst h
        have h1 := csAt_get hc off
        rw [hcell] at h1
        simp only [Option.bind_some] at h1
        have hlt : off < vs.length := by
          have := csAt_length hc
          have := (List.getElem?_eq_some_iff.1 hcell).1
          omega
        rw [List.getElem?_eq_getElem hlt] at h1
        refine ⟨vs[off], by rw [toA_at]; exact h1, ?_⟩
        have hcl : w.cell? ⟨b, off, none⟩ = some vs[off] := by simp [World.cell?, hb, hlt]
        have hagg : (isAgg t).run P w = .ok false w := by
          unfold isAgg
          rw [Sem.run_bind, run_underlying hu w]
          cases d <;> simp_all [TypeDesc.isRow]
        simp [loadVar, Sem.run_bind, hagg, load, Sem.run, hcl]
      · cases h
  · cases h
theorem opS_load {t : Nat} {x : Operand} {n : Nm} {off : Nat} {k : Blk} {v : AV} (ho : o.op = .load t x) (hx : evA τ x = .p n off) (hk : get L n = some k) (hv : loadA P k t off = some v) :
    OpS P all o τ L v [] [n] := by
  intro ρ a w τ0 L0 hM hl hL hag next Q hnx
  have h1 := evA_at hM x
  rw [evA_congr hl (by simp [ho, Op.operands]), hx] at h1
  simp only [aAt, Option.map_eq_some_iff] at h1
  obtain ⟨b, hb, e⟩ := h1
  have hk0 : get L0 n = some k := by rw [hag n (.inl (by simp))]; exact hk
  obtain ⟨vs, h2, h3⟩ := hL.blk n b k hb hk0
  obtain ⟨u, h4, h5⟩ := run_loadVar_at hv h2 h3
  unfold Oper.wp
  have : (execOp a.eval o).run P w = .ok (.value u) w := by
    simp [execOp, ho, Instr.loadAt, ← e, Instr.sureAddr, h5]
  rw [this]
  exact hnx ρ w u (Nxt.refl ρ w) h4 (by simpa using hL)
theorem one_at {ρ : Rho} : ∀ {cs : List CV} {vs : List Value}, csAt ρ cs = some vs → cs.all one = true → ∀ v ∈ vs, v.oneCell' = true
  | [], _, q, _ => by simp [csAt] at q; subst q; simp
  | x :: l, vs, q, h => by
    simp only [csAt, Option.bind_eq_some_iff, Option.map_eq_some_iff] at q
    obtain ⟨y, h1, z, h2, h3⟩ := q
    subst h3
    simp only [List.all_cons, Bool.and_eq_true] at h
    intro v hv
    rw [List.mem_cons] at hv
    rcases hv with rfl | hv
    · cases x with
      | v a => simp only [cAt, Option.some.injEq] at h1; subst h1; exact h.1
      | p n o =>
        simp only [cAt, Option.map_eq_some_iff] at h1
        obtain ⟨b, _, e⟩ := h1
        subst e
        rfl
    · exact one_at h2 h.2 v hv
theorem opS_store {t : Nat} {x y : Operand} {n : Nm} {off : Nat} {k k' : Blk} (ho : o.op = .store t x y) (hx : evA τ x = .p n off) (hk : get L n = some k) (hv : storeA P k t off (evA τ y) = some k') :
    OpS P all o τ L (.v undef) [(n, k')] [] := by
  intro ρ a w τ0 L0 hM hl hL hag next Q hnx
  have h1 := evA_at hM x
  rw [evA_congr hl (by simp [ho, Op.operands]), hx] at h1
  simp only [aAt, Option.map_eq_some_iff] at h1
  obtain ⟨b, hb, e⟩ := h1
  have h2 := evA_at hM y
  rw [evA_congr hl (by simp [ho, Op.operands])] at h2
  have hk0 : get L0 n = some k := by rw [hag n (.inr (by simp [keys]))]; exact hk
  obtain ⟨vs, h3, h4⟩ := hL.blk n b k hb hk0
  unfold storeA at hv
  split at hv
  · rename_i cs i hcs hi
    have hc := toCells_at hcs h2
    cases hq : (Nat.beq cs.length i.size && Nat.ble (off + i.size) k.cells.length && cs.all one) with
    | false => rw [hq] at hv; cases hv
    | true =>
      rw [hq] at hv
      simp only [cond_true, Option.some.injEq] at hv
      subst hv
      simp only [Bool.and_eq_true] at hq
      have q1 : cs.length = i.size := Nat.eq_of_beq_eq_true hq.1.1
      have q2 : off + i.size ≤ k.cells.length := Nat.le_of_ble_eq_true hq.1.2
      have q3 := csAt_length h3
      have q4 := csAt_length hc
      have hst := run_storeCells_at P b off k.ty (a.eval y).cells.toList 0 ⟨vs⟩ w h4 (by simp at q4 ⊢; omega) (one_at hc hq.2)
      have hnew : csAt ρ (k.cells.take off ++ cs ++ k.cells.drop (off + cs.length)) = some (vs.take off ++ (a.eval y).cells.toList ++ vs.drop (off + cs.length)) :=
        csAt_append (csAt_append (csAt_take _ h3) hc) (csAt_drop _ h3)
      obtain ⟨g1, g2⟩ := hL.set hb hk0 hnew
      unfold Oper.wp
      have : (execOp a.eval o).run P w = .ok .skip (w.setRow b ⟨vs.take off ++ (a.eval y).cells.toList ++ vs.drop (off + cs.length)⟩) := by
        have e1 : (a.eval y).cells.size = i.size := by simp at q4; omega
        have e2 : off + (a.eval y).cells.toList.length = off + cs.length := by rw [q4]
        simp only [Nat.add_zero] at hst
        rw [e2] at hst
        simp only [execOp, ho, Instr.storeAt, ← e, Instr.sureAddr, storeVar, sizeOf, typeInfo]
        simp [hi, e1, hst]
      rw [this]
      exact hnx ρ _ _ g1 rfl g2
  · cases hv
end
end Ev
end Go.Proofs.YtfilgpifiboccaaGreat
namespace Go.Proofs.YtfilgpifiboccaaGreat
namespace Ev
open Go.RowKit

def cut (ρ : Rho) (ks : List Nm) : Rho := fun n => cond (has ks n) (ρ n) none
theorem cut_in {ρ : Rho} {ks : List Nm} {n : Nm} (h : has ks n = true) : cut ρ ks n = ρ n := by unfold cut; rw [h]; rfl
theorem cut_some {ρ : Rho} {ks : List Nm} {n : Nm} {b : Nat} (h : cut ρ ks n = some b) : has ks n = true ∧ ρ n = some b := by
  unfold cut at h
  cases hk : has ks n with
  | false => rw [hk] at h; cases h
  | true => rw [hk] at h; exact ⟨rfl, h⟩
theorem csAt_cut {ρ : Rho} {ks : List Nm} : ∀ {l : List CV} {vs : List Value}, (nmsC l).all (has ks) = true → csAt ρ l = some vs → csAt (cut ρ ks) l = some vs
  | [], _, _, q => q
  | .v x :: l, vs, h, q => by
    simp only [csAt, Option.bind_eq_some_iff, Option.map_eq_some_iff] at q ⊢
    obtain ⟨y, h1, z, h2, h3⟩ := q
    exact ⟨y, h1, z, csAt_cut (l := l) h h2, h3⟩
  | .p n o :: l, vs, h, q => by
    simp only [nmsC, List.all_cons, Bool.and_eq_true] at h
    simp only [csAt, Option.bind_eq_some_iff, Option.map_eq_some_iff] at q ⊢
    obtain ⟨y, h1, z, h2, h3⟩ := q
    refine ⟨y, ?_, z, csAt_cut (l := l) h.2 h2, h3⟩
    simpa only [cAt, cut_in h.1] using h1
theorem asAt_cut {ρ : Rho} {ks : List Nm} : ∀ {l : List AV} {vs : List Value}, (nmsA l).all (has ks) = true → asAt ρ l = some vs → asAt (cut ρ ks) l = some vs
  | [], _, _, q => q
  | .v x :: l, vs, h, q => by
    simp only [asAt, Option.bind_eq_some_iff, Option.map_eq_some_iff] at q ⊢
    obtain ⟨y, h1, z, h2, h3⟩ := q
    exact ⟨y, h1, z, asAt_cut (l := l) h h2, h3⟩
  | .p n o :: l, vs, h, q => by
    simp only [nmsA, List.all_cons, Bool.and_eq_true] at h
    simp only [asAt, Option.bind_eq_some_iff, Option.map_eq_some_iff] at q ⊢
    obtain ⟨y, h1, z, h2, h3⟩ := q
    refine ⟨y, ?_, z, asAt_cut (l := l) h.2 h2, h3⟩
    simpa only [aAt, cut_in h.1] using h1
  | .c f b c :: l, vs, h, q => by
    simp only [nmsA, List.all_append, Bool.and_eq_true] at h
    simp only [asAt, Option.bind_eq_some_iff, Option.map_eq_some_iff] at q ⊢
    obtain ⟨y, h1, z, h2, h3⟩ := q
    refine ⟨y, ?_, z, asAt_cut (l := l) h.2 h2, h3⟩
    simp only [aAt, Option.bind_eq_some_iff, Option.map_eq_some_iff] at h1 ⊢
    obtain ⟨s, h4, u, h5, h6⟩ := h1
    exact ⟨s, csAt_cut h.1.1 h4, u, csAt_cut h.1.2 h5, h6⟩
  | .s n o _ _ :: l, vs, h, q => by
    simp only [nmsA, List.all_cons, Bool.and_eq_true] at h
    simp only [asAt, Option.bind_eq_some_iff, Option.map_eq_some_iff] at q ⊢
    obtain ⟨y, h1, z, h2, h3⟩ := q
    refine ⟨y, ?_, z, asAt_cut (l := l) h.2 h2, h3⟩
    simpa only [aAt, cut_in h.1] using h1
theorem get_part (L : Loc) (r : List Nm) (n : Nm) : get (part L r) n = if n ∈ r then get L n else none := by
  induction r with
  | nil => simp [part, get]
  | cons m r ih =>
    unfold part at ih ⊢
    rw [List.filterMap_cons]
    cases hm : get L m with
    | none =>
      rw [ih]
      by_cases e : n = m
      · subst e
        simp [hm]
      · simp [e]
    | some b =>
      rw [get_cons, ih]
      by_cases e : m = n
      · subst e
        simp [hm]
      · rw [if_neg e]
        have e' : ¬ n = m := fun q => e q.symm
        simp [e']
theorem get_mem {L : Loc} {n : Nm} {b : Blk} (h : get L n = some b) : (n, b) ∈ L := by
  induction L with
  | nil => simp [get] at h
  | cons x l ih =>
    obtain ⟨m, c⟩ := x
    rw [get_cons] at h
    split at h
    · rename_i e
      cases h
      subst e
      exact List.mem_cons_self
    · exact List.mem_cons_of_mem _ (ih h)
theorem closed_at {ks : List Nm} : ∀ {L : Loc}, closed ks L = true → ∀ {n : Nm} {b : Blk}, (n, b) ∈ L → (nmsC b.cells).all (has ks) = true
  | (m, c) :: l, h, n, b, hm => by
    simp only [closed, Bool.and_eq_true] at h
    rcases List.mem_cons.1 hm with e | hm
    · cases e; exact h.1
    · exact closed_at h.2 hm
theorem keys_iff {L : Loc} {n : Nm} : n ∈ keys L ↔ (get L n).isSome = true := by
  have h := get_none_iff (l := L) (n := n)
  cases hg : get L n with
  | none => rw [hg] at h; simp only [true_iff] at h; simp [h]
  | some b => rw [hg] at h; simp at h; simp [h]

section
variable {P : Program} {all : List Oper}
/-- A call that only works on the blocks that it is led to, seen from a larger heap. -/
theorem runs_frame {g : FuncId} {args : List AV} {L : Loc} {r : List Nm} {v : AV} {L' : Loc} (hR : Runs P g args (part L r) v L')
    (ha : (nmsA args).all (has (keys (part L r))) = true) (hc : closed (keys (part L r)) (part L r) = true)
    (hnew : newOk (keys (part L r)) L L' = true)
    {ρ : Rho} {w : World} {L0 : Loc} {vs : List Value} (hvs : asAt ρ args = some vs) (hL : ML ρ L0 w) (hag : ∀ n, n ∈ keys (part L r) ∨ n ∈ keys L' → get L0 n = get L n) :
    Calls P g ⟨vs⟩ w fun e w' => ∃ u ρ', e = .returned u ∧ Nxt ρ w ρ' w' ∧ aAt ρ' v = some u ∧ ML ρ' (L' ++ L0) w' := by
  have hget : ∀ n b, get (part L r) n = some b → get L n = some b := fun n b h => by
    rw [get_part] at h
    split at h
    · exact h
    · cases h
  have hML : ML (cut ρ (keys (part L r))) (part L r) w := by
    refine ⟨fun n => ?_, fun n b k q hg => ?_, fun n m b q q' => hL.inj n m b (cut_some q).2 (cut_some q').2⟩
    · cases hk : has (keys (part L r)) n with
      | false =>
        have : n ∉ keys (part L r) := fun h => by rw [has_iff.2 h] at hk; cases hk
        rw [get_none_iff.2 this]
        unfold cut
        rw [hk]
        rfl
      | true =>
        rw [cut_in hk]
        have hm := has_iff.1 hk
        have hs := keys_iff.1 hm
        rw [hs]
        cases hg : get (part L r) n with
        | none => rw [hg] at hs; cases hs
        | some b =>
          have := hL.dom n
          rw [hag n (.inl hm), hget n b hg] at this
          exact this
    · obtain ⟨q1, q2⟩ := cut_some q
      obtain ⟨us, h1, h2⟩ := hL.blk n b k q2 (by rw [hag n (.inl (has_iff.1 q1))]; exact hget n k hg)
      exact ⟨us, csAt_cut (closed_at hc (get_mem hg)) h1, h2⟩
  refine (hR (cut ρ (keys (part L r))) w vs (asAt_cut ha hvs) hML).mono ?_
  rintro e w' ⟨u, ρ', rfl, hN, hv, hM'⟩
  have kin : ∀ n b, ρ' n = some b → n ∈ keys L' := fun n b q => keys_iff.2 (by rw [← hM'.dom n, q]; rfl)
  have out : ∀ n b, ρ' n = some b → cut ρ (keys (part L r)) n = none → ρ n = none := fun n b q q2 => by
    have hk := kin n b q
    have h1 := (List.all_eq_true.1 hnew) n hk
    cases hh : has (keys (part L r)) n with
    | true =>
      rw [cut_in hh] at q2
      exact q2
    | false =>
      rw [hh] at h1
      have h2 : get L n = none := by
        unfold fresh at h1
        cases hg : get L n with
        | none => rfl
        | some x => rw [hg] at h1; cases h1
      have := hL.dom n
      rw [hag n (.inr hk), h2] at this
      cases hr : ρ n with
      | none => rfl
      | some c => rw [hr] at this; cases this
  have old : ∀ n b c, ρ' n = some b → ρ n = some c → b = c := fun n b c q q2 => by
    cases hr : cut ρ (keys (part L r)) n with
    | none => rw [out n b q hr] at q2; cases q2
    | some d =>
      have := hN.ext n d hr
      rw [q] at this
      cases this
      have := (cut_some hr).2
      rw [q2] at this
      cases this
      rfl
  have hext1 : Ext ρ' (fun n => match ρ' n with | some b => some b | none => ρ n) := fun n b q => by
    (try dsimp only)
    rw [q]
  have hext : Ext ρ (fun n => match ρ' n with | some b => some b | none => ρ n) := fun n b q => by
    (try dsimp only)
    cases hr : ρ' n with
    | none => exact q
    | some c => rw [old n c b hr q]
  refine ⟨u, fun n => match ρ' n with | some b => some b | none => ρ n, rfl, ⟨hext, hN.os, hN.tape, hN.output, hN.size, ?_, ?_⟩, aAt_ext hext1 hv, ⟨?_, ?_, ?_⟩⟩
  · intro k hk hn
    exact hN.old k hk fun n q => hn n (cut_some q).2
  · intro n b q q2
    (try dsimp only at q)
    cases hr : ρ' n with
    | none => rw [hr] at q; dsimp only at q; rw [q2] at q; cases q
    | some c =>
      rw [hr] at q
      cases q
      refine hN.new n b hr ?_
      cases hz : cut ρ (keys (part L r)) n with
      | none => rfl
      | some d => rw [(cut_some hz).2] at q2; cases q2
  · intro n
    rw [get_append]
    have h1 := hM'.dom n
    have h2 := hL.dom n
    (try dsimp only)
    cases hr : ρ' n with
    | none =>
      rw [hr] at h1
      cases hg : get L' n with
      | none => simpa using h2
      | some x => rw [hg] at h1; cases h1
    | some c =>
      rw [hr] at h1
      cases hg : get L' n with
      | none => rw [hg] at h1; cases h1
      | some x => rfl
  · intro n b k q hg
    rw [get_append] at hg
    (try dsimp only at q)
    cases hr : ρ' n with
    | some c =>
      rw [hr] at q
      cases q
      have h1 := hM'.dom n
      rw [hr] at h1
      cases hg' : get L' n with
      | none => rw [hg'] at h1; cases h1
      | some x =>
        rw [hg'] at hg
        simp only [Option.some_or, Option.some.injEq] at hg
        subst hg
        obtain ⟨us, h2, h3⟩ := hM'.blk n b x hr hg'
        exact ⟨us, csAt_ext hext1 h2, h3⟩
    | none =>
      rw [hr] at q
      dsimp only at q
      have h1 := hM'.dom n
      rw [hr] at h1
      cases hg' : get L' n with
      | some x => rw [hg'] at h1; cases h1
      | none =>
        rw [hg'] at hg
        simp only [Option.none_or] at hg
        obtain ⟨us, h2, h3⟩ := hL.blk n b k q hg
        refine ⟨us, csAt_ext hext h2, ?_⟩
        rw [hN.old b (hL.lt q) ?_]
        · exact h3
        · intro m qm
          have := hL.inj m n b (cut_some qm).2 q
          subst this
          have := hN.ext m b qm
          rw [hr] at this
          cases this
  · intro n m b q q'
    (try dsimp only at q q')
    have two : ∀ n m, ρ' n = some b → ρ' m = none → ρ m = some b → n = m := fun n m q1 q2 q3 => by
      cases hz : cut ρ (keys (part L r)) n with
      | some d =>
        have := hN.ext n d hz
        rw [q1] at this
        cases this
        exact hL.inj n m b (cut_some hz).2 q3
      | none => exact absurd (hN.new n b q1 hz) (by have := hL.lt q3; omega)
    cases hr : ρ' n with
    | some c =>
      rw [hr] at q
      cases q
      cases hs : ρ' m with
      | some d =>
        rw [hs] at q'
        cases q'
        exact hM'.inj n m b hr hs
      | none =>
        rw [hs] at q'
        exact two n m hr hs q'
    | none =>
      rw [hr] at q
      cases hs : ρ' m with
      | some d =>
        rw [hs] at q'
        cases q'
        exact (two m n hs hr q).symm
      | none =>
        rw [hs] at q'
        exact hL.inj n m b q q'

section
variable {α : Type} {E : List (TypeId × Nat)} {C : List FuncId} {call : FuncId → List AV → Loc → Nm → (AV → Loc → Option α) → Option α}
def Callable (P : Program) (g : FuncId) : Prop := ∀ args w, (callFunc g args).run P w = .ok (.enter g args) w
def EqFit (P : Program) (e : TypeId × Nat) : Prop := P.eqGuardType P.depth e.1 = false ∧ ∀ xs ys r, xs.length = e.2 → ys.length = e.2 → eqInts xs ys = some r → ∀ w, (Op.equalIn 10000 e.1 (.agg ⟨xs⟩) (.agg ⟨ys⟩)).run P w = .ok r w
def CallOk (P : Program) (call : FuncId → List AV → Loc → Nm → (AV → Loc → Option α) → Option α) : Prop :=
  ∀ g args L nm k r, call g args L nm k = some r → ∃ v L', Runs P g args L v L' ∧ k v L' = some r
theorem doCall_sound (hC : ∀ g ∈ C, Callable P g) (hcall : CallOk P call) {args : List AV} {g : FuncId} {L : Loc} {nm : Nm} {k : AV → Loc → List Nm → Option α} {r : α}
    (h : doCall C call args g L nm k = some r) : ∃ v U rd, k v U rd = some r ∧ ∀ o τ,
      (∀ ρ a w τ0, MT ρ τ0 a → (∀ t ∈ looks all o, getA τ0 t = getA τ t) → ∃ vs, asAt ρ args = some vs ∧ (execOp a.eval o).run P w = (callFunc g ⟨vs⟩).run P w) → OpS P all o τ L v U rd := by
  unfold doCall at h
  dsimp only at h
  generalize reach L 4 (addNm [] (nmsA args)) = rr at h
  cases hb : (C.any (Nat.beq g) && (nmsA args).all (has (keys (part L rr))) && closed (keys (part L rr)) (part L rr)) with
  | false => rw [hb] at h; cases h
  | true =>
    rw [hb] at h
    simp only [cond_true] at h
    simp only [Bool.and_eq_true] at hb
    obtain ⟨⟨b1, b2⟩, b3⟩ := hb
    have hg : g ∈ C := by
      rw [List.any_eq_true] at b1
      obtain ⟨x, hx, e⟩ := b1
      have : g = x := Nat.eq_of_beq_eq_true e
      exact this ▸ hx
    obtain ⟨v, L', hR, hk⟩ := hcall _ _ _ _ _ _ h
    cases hn : newOk (keys (part L rr)) L L' with
    | false => rw [hn] at hk; cases hk
    | true =>
      rw [hn] at hk
      simp only [cond_true] at hk
      refine ⟨v, L', _, hk, fun o τ ho => ?_⟩
      intro ρ a w τ0 L0 hM hl hL hag next Q hnx
      obtain ⟨vs, h1, h2⟩ := ho ρ a w τ0 hM hl
      unfold Oper.wp
      rw [h2, hC g hg]
      have := runs_frame hR b2 b3 hn h1 hL hag
      refine this.mono ?_
      rintro e w' ⟨u, ρ', rfl, q1, q2, q3⟩
      exact hnx ρ' w' u q1 q2 q3
theorem binA_sound (hE : ∀ e ∈ E, EqFit P e) {τ : List AV} {L : Loc} {o : Oper} {op : BinOp} {t yt : TypeId} {x y : Operand} {v : AV} (ho : o.op = .binOp op t x y yt) (h : binA P E τ o op t x y = some v) : OpS P all o τ L v [] [] := by
  unfold binA at h
  have hs : ∀ cs b, o.op ≠ .select cs b := fun cs b q => by rw [ho] at q; cases q
  split at h
  · rename_i b xs ys hb hx hy
    cases hc : (eqTy E t xs.toList.length && Nat.beq xs.toList.length ys.toList.length) with
    | false => rw [hc] at h; cases h
    | true =>
      rw [hc] at h
      simp only [cond_true] at h
      split at h
      · rename_i r hr
        simp only [Option.some.injEq] at h
        subst h
        simp only [Bool.and_eq_true] at hc
        have h1 := hc.1
        unfold eqTy at h1
        rw [List.any_eq_true] at h1
        obtain ⟨e, he, h2⟩ := h1
        simp only [Bool.and_eq_true] at h2
        have e1 : e.1 = t := Nat.eq_of_beq_eq_true h2.1
        have e2 : e.2 = xs.toList.length := Nat.eq_of_beq_eq_true h2.2
        have e3 : xs.toList.length = ys.toList.length := Nat.eq_of_beq_eq_true hc.2
        obtain ⟨g1, g2⟩ := hE e he
        rw [e1] at g1 g2
        exact opS_eq (fun w => g2 xs.toList ys.toList r e2.symm (by rw [e2, e3]) hr w) g1 ho hb hx hy
      · cases h
  · exact opS_gen hs h
theorem map_evA_at {ρ : Rho} {τ τ0 : List AV} {a : Act} {o : Oper} (hM : MT ρ τ0 a) (hl : ∀ t ∈ looks all o, getA τ0 t = getA τ t) : ∀ (l : List Operand), (∀ x ∈ l, x ∈ o.op.operands) → asAt ρ (l.map (evA τ)) = some (l.map a.eval)
  | [], _ => rfl
  | x :: l, h => by
    have h1 := evA_at hM x
    rw [evA_congr hl (h x (by simp))] at h1
    simp [asAt, h1, map_evA_at hM hl l (fun y hy => h y (by simp [hy]))]
theorem toCV_at {ρ : Rho} : ∀ {l : List AV} {cs : List CV} {vs : List Value}, toCV l = some cs → asAt ρ l = some vs → csAt ρ cs = some vs
  | [], _, _, h, q => by simp only [toCV, Option.some.injEq] at h; subst h; exact q
  | .v x :: l, cs, vs, h, q => by
    simp only [toCV] at h
    split at h
    · rename_i r hr
      simp only [Option.some.injEq] at h
      subst h
      simp only [asAt, Option.bind_eq_some_iff, Option.map_eq_some_iff] at q
      obtain ⟨y, h1, z, h2, h3⟩ := q
      simp only [csAt, Option.bind_eq_some_iff, Option.map_eq_some_iff]
      exact ⟨y, h1, z, toCV_at hr h2, h3⟩
    · cases h
  | .p n o :: l, cs, vs, h, q => by
    simp only [toCV] at h
    split at h
    · rename_i r hr
      simp only [Option.some.injEq] at h
      subst h
      simp only [asAt, Option.bind_eq_some_iff, Option.map_eq_some_iff] at q
      obtain ⟨y, h1, z, h2, h3⟩ := q
      simp only [csAt, Option.bind_eq_some_iff, Option.map_eq_some_iff]
      exact ⟨y, h1, z, toCV_at hr h2, h3⟩
    · cases h
  | .c _ _ _ :: _, _, _, h, _ => by simp [toCV] at h
  | .s _ _ _ _ :: _, _, _, h, _ => by simp [toCV] at h
theorem opS_makeFunc {τ : List AV} {L : Loc} {o : Oper} {g : FuncId} {bs cs : Array Operand} {b c : List CV} (ho : o.op = .makeFunc (.func g) bs cs) (hb : toCV (bs.toList.map (evA τ)) = some b) (hc : toCV (cs.toList.map (evA τ)) = some c) :
    OpS P all o τ L (.c g b c) [] [] :=
  opS_val fun ρ a w τ0 hM hl => by
    have h1 := map_evA_at hM hl bs.toList fun x hx => by simp only [ho, Op.operands]; exact Array.mem_append.2 (.inl (by simpa using hx))
    have h2 := map_evA_at hM hl cs.toList fun x hx => by simp only [ho, Op.operands]; exact Array.mem_append.2 (.inr (by simpa using hx))
    refine ⟨.func (.func g) (bs.map a.eval) (cs.map a.eval), ?_, by simp [execOp, ho, Instr.makeFunc]⟩
    simp only [aAt, toCV_at hb h1, toCV_at hc h2, Option.bind_some, Option.map_some, Option.some.injEq]
    congr 1
    · apply Array.toList_inj.1; simp
    · apply Array.toList_inj.1; simp
theorem evOp_sound (hE : ∀ e ∈ E, EqFit P e) (hC : ∀ g ∈ C, Callable P g) (hcall : CallOk P call) {o : Oper} {τ : List AV} {L : Loc} {nm : Nm} {k : AV → Loc → List Nm → Option α} {r : α}
    (h : evOp P E C call o τ L nm k = some r) : ∃ v U rd, k v U rd = some r ∧ OpS P all o τ L v U rd := by
  have gen : (∀ cs b, o.op ≠ .select cs b) → (match genA P τ o with | some v => k v [] [] | none => none) = some r → ∃ v U rd, k v U rd = some r ∧ OpS P all o τ L v U rd := fun hs hg => by
    split at hg
    · rename_i v hv
      exact ⟨v, [], [], hg, opS_gen hs hv⟩
    · cases hg
  cases ho : o.op <;> simp only [evOp, ho] at h
  case move x => exact ⟨_, _, _, h, opS_move ho⟩
  case assign x => exact ⟨_, _, _, h, opS_assign ho⟩
  case pick c x y =>
    split at h
    · rename_i t ht
      have := opS_pick (P := P) (all := all) (L := L) ho ht
      cases t
      · exact ⟨_, _, _, h, this⟩
      · exact ⟨_, _, _, h, this⟩
    · cases h
  case alloc t =>
    split at h
    · rename_i i hi
      split at h
      · rename_i z hz
        split at h
        · rename_i hn
          exact ⟨_, _, _, h, opS_alloc ho hi hz hn⟩
        · cases h
      · cases h
    · cases h
  case box t x =>
    split at h
    · rename_i cs hcs
      split at h
      · rename_i hn
        exact ⟨_, _, _, h, opS_box ho hcs hn⟩
      · cases h
    · cases h
  case build t ps =>
    cases hv : opVals τ (ps.toList.map (·.2)) with
    | false => rw [hv] at h; cases h
    | true =>
      rw [hv] at h
      simp only [cond_true] at h
      split at h
      · rename_i cells hb
        exact ⟨_, _, _, h, opS_build ho hv hb⟩
      · cases h
  case load t x =>
    split at h
    · rename_i n off hx
      split at h
      · rename_i b hb
        split at h
        · rename_i v hv
          exact ⟨_, _, _, h, opS_load ho hx hb hv⟩
        · cases h
      · cases h
    · cases h
  case store t x y =>
    split at h
    · rename_i n off hx
      split at h
      · rename_i b hb
        split at h
        · rename_i v hv
          exact ⟨_, _, _, h, opS_store ho hx hb hv⟩
        · cases h
      · cases h
    · cases h
  case fieldAddr s x f =>
    split at h
    · rename_i n off hx
      split at h
      · rename_i d hd
        exact ⟨_, _, _, h, opS_fieldAddr ho hx hd⟩
      · cases h
    · cases h
  case indexAddr t x y =>
    split at h
    · rename_i n off k' ix hx hy
      split at h
      · rename_i d hd
        exact ⟨_, _, _, h, opS_indexAddr ho hx hy hd⟩
      · cases h
    · rename_i n off len cp k' ix hx hy
      split at h
      · rename_i d hd
        exact ⟨_, _, _, h, opS_indexSlice ho hx hy hd⟩
      · cases h
    · cases h
  case buildSlice t n ps =>
    cases hv : opVals τ (ps.toList.map (·.2)) with
    | false => rw [hv] at h; cases h
    | true =>
      rw [hv] at h
      simp only [cond_true] at h
      split at h
      · rename_i e cells hb
        split at h
        · rename_i hn
          exact ⟨_, _, _, h, opS_buildSlice ho hv hb hn⟩
        · cases h
      · cases h
  case slice t x lo hi mx =>
    cases mx with
    | some y => cases h
    | none =>
      dsimp only at h
      split at h
      · rename_i v hv
        exact ⟨_, _, _, h, opS_slice ho hv⟩
      · cases h
  case nilCheck x =>
    split at h
    · rename_i n off hx
      have := opS_nil (P := P) (all := all) (L := L) (τ := τ) ho (fun v => by rw [hx]; simp)
      rw [hx] at this
      exact ⟨_, _, _, h, this⟩
    · rename_i f b c hx
      have := opS_nil (P := P) (all := all) (L := L) (τ := τ) ho (fun v => by rw [hx]; simp)
      rw [hx] at this
      exact ⟨_, _, _, h, this⟩
    · exact gen (fun cs b q => by rw [ho] at q; cases q) h
  case binOp op t x y yt =>
    split at h
    · rename_i q a b hq hx hy
      cases hb : (b == 0) with
      | true => rw [hb] at h; cases h
      | false =>
        rw [hb] at h
        exact ⟨_, _, _, h, opS_div ho hq hx hy (by simpa using hb)⟩
    · split at h
      · rename_i v hv
        exact ⟨_, _, _, h, binA_sound hE ho hv⟩
      · cases h
  case makeFunc f bs cs =>
    split at h
    · rename_i g b c hb hc
      exact ⟨_, _, _, h, opS_makeFunc ho hb hc⟩
    · cases h
  case unOp a b c => exact gen (fun cs b q => by rw [ho] at q; cases q) h
  case convert a b c => exact gen (fun cs b q => by rw [ho] at q; cases q) h
  case field a b c => exact gen (fun cs b q => by rw [ho] at q; cases q) h
  case index a b c => exact gen (fun cs b q => by rw [ho] at q; cases q) h
  case extract a b => exact gen (fun cs b q => by rw [ho] at q; cases q) h
  case call c =>
    split at h
    · split at h
      · rename_i v hv
        exact ⟨_, _, _, h, opS_len ho hv⟩
      · exact gen (fun cs b q => by rw [ho] at q; cases q) h
    · split at h
      · rename_i _ hnb _ g bs cp hcl
        obtain ⟨v, U, rd, h1, h2⟩ := doCall_sound (all := all) hC hcall h
        refine ⟨v, U, rd, h1, h2 o τ ?_⟩
        intro ρ a w τ0 hM hl
        cases hce : c.callee with
        | builtin b => exact absurd hce (hnb b)
        | invoke r m => rw [hce] at hcl; simp [callee] at hcl
        | value f =>
          rw [hce] at hcl
          have hf := evA_at hM f
          rw [evA_congr hl (by simp [ho, Op.operands, Call.operands, hce])] at hf
          have ha : asAt ρ (c.args.toList.map (evA τ)) = some (c.args.toList.map a.eval) := map_evA_at hM hl _ fun x hx => by
            simp only [ho, Op.operands, Call.operands]
            exact Array.mem_append.2 (.inr (by simpa using hx))
          simp only [callee] at hcl
          split at hcl
          · rename_i g' b' c' he
            simp only [Option.some.injEq, Prod.mk.injEq] at hcl
            obtain ⟨e1, e2, e3⟩ := hcl
            subst e1 e2 e3
            rw [he] at hf
            have hf : a.eval f = .func (.func g') b' c' := by simpa [aAt] using hf.symm
            refine ⟨b'.toList ++ c.args.toList.map a.eval ++ c'.toList, asAt_append (asAt_append (asAt_mapV _) ha) (asAt_mapV _), ?_⟩
            simp only [execOp, ho, resolve, hce, hf, Deferred.ofValue, Sem.run_bind, Sem.run_pure, Result.andThen_ok, invoke]
            congr 2
            apply Array.toList_inj.1
            simp
          · rename_i g' b' c' he
            simp only [Option.some.injEq, Prod.mk.injEq] at hcl
            obtain ⟨e1, e2, e3⟩ := hcl
            subst e1 e2 e3
            rw [he] at hf
            simp only [aAt, Option.bind_eq_some_iff, Option.map_eq_some_iff] at hf
            obtain ⟨vb, q1, vc, q2, q3⟩ := hf
            refine ⟨vb ++ c.args.toList.map a.eval ++ vc, asAt_append (asAt_append (by rw [asAt_mapToA]; exact q1) ha) (by rw [asAt_mapToA]; exact q2), ?_⟩
            simp only [execOp, ho, resolve, hce, ← q3, Deferred.ofValue, Sem.run_bind, Sem.run_pure, Result.andThen_ok, invoke]
            congr 2
            apply Array.toList_inj.1
            simp
          · cases hcl
      · cases h
  all_goals cases h
end
end
end Ev
end Go.Proofs.YtfilgpifiboccaaGreat
namespace Go.Proofs.YtfilgpifiboccaaGreat
namespace Ev
open Go.RowKit

def wantedA (all : List Oper) (τ : List AV) (o : Oper) : Bool :=
  match o.guard with
  | none => true
  | some (j, want) => match dstOf all j with
    | none => false
    | some d => match getA τ d with
      | .v (.bool b) => b == want
      | _ => false
theorem dstOf_eq (ops : Array Oper) (j : Nat) : dstOf ops.toList j = (ops[j]?).bind (·.dst) := by
  unfold dstOf
  rw [Array.getElem?_toList]
  cases ops[j]? <;> rfl
theorem wantedA_eq (ops : Array Oper) {ρ : Rho} {τ : List AV} {a : Act} (hM : MT ρ τ a) (o : Oper) : Region.wanted o (yielded ops a.tmps) = wantedA ops.toList τ o := by
  unfold Region.wanted wantedA
  cases hg : o.guard with
  | none => rfl
  | some gw =>
    obtain ⟨j, want⟩ := gw
    simp only [dstOf_eq, yielded]
    cases hd : (ops[j]?).bind (·.dst) with
    | none => rfl
    | some d =>
      simp only [Option.bind_some]
      have h := getA_at hM d
      cases hx : a.tmps[d]? with
      | none =>
        have hu : a.tmps.getD d undef = undef := by simp [hx]
        rw [hu] at h
        cases hq : getA τ d with
        | v x =>
          rw [hq] at h
          simp only [aAt, Option.some.injEq] at h
          subst h
          rfl
        | p n off => rfl
        | c f b c => rfl
        | s n off l c => rfl
      | some x =>
        have hu : a.tmps.getD d undef = x := by simp [hx]
        rw [hu] at h
        cases hq : getA τ d with
        | v y =>
          rw [hq] at h
          simp only [aAt, Option.some.injEq] at h
          subst h
          cases y <;> simp
        | p n off =>
          rw [hq] at h
          simp only [aAt, Option.map_eq_some_iff] at h
          obtain ⟨b, _, e⟩ := h
          subst e
          rfl
        | c f b c =>
          rw [hq] at h
          simp only [aAt, Option.bind_eq_some_iff, Option.map_eq_some_iff] at h
          obtain ⟨y, _, z, _, h3⟩ := h
          subst h3
          rfl
        | s n off l c =>
          rw [hq] at h
          simp only [aAt, Option.map_eq_some_iff] at h
          obtain ⟨b, _, e⟩ := h
          subst e
          rfl
theorem wantedA_congr {all : List Oper} {τ τ' : List AV} {o : Oper} (h : ∀ t ∈ looks all o, getA τ' t = getA τ t) : wantedA all τ' o = wantedA all τ o := by
  unfold wantedA
  cases hg : o.guard with
  | none => rfl
  | some gw =>
    obtain ⟨j, want⟩ := gw
    (try dsimp only)
    cases hd : dstOf all j with
    | none => rfl
    | some d =>
      (try dsimp only)
      rw [h d (by simp [looks, hg, hd])]
section
variable {P : Program}
def StepOK (P : Program) (all : List Oper) (o : Oper) (τ : List AV) (L : Loc) (v : AV) (U : Loc) (rd : List Nm) : Prop :=
  (wantedA all τ o = true ∧ OpS P all o τ L v U rd) ∨ (wantedA all τ o = false ∧ v = .v undef ∧ U = [] ∧ rd = [])
inductive Rec (P : Program) (all : List Oper) : List Oper → List AV → Loc → List (AV × Loc × List Nm) → List AV → Loc → Prop
  | nil (τ : List AV) (L : Loc) : Rec P all [] τ L [] τ L
  | cons {o : Oper} {rest : List Oper} {τ : List AV} {L : Loc} {v : AV} {U : Loc} {rd : List Nm} {ds : List (AV × Loc × List Nm)} {τf : List AV} {Lf : Loc}
      (h : StepOK P all o τ L v U rd) (k : Rec P all rest (putA τ o.dst v) (U ++ L) ds τf Lf) : Rec P all (o :: rest) τ L ((v, U, rd) :: ds) τf Lf
def foot (d : AV × Loc × List Nm) : Foot := ⟨d.2.2, keys d.2.1⟩
theorem set_same {τ : List AV} {d : Nat} {x : AV} (h : τ[d]? = some x) : τ.set d x = τ := by
  apply List.ext_getElem (by simp)
  intro i h1 h2
  rw [List.getElem_set]
  split
  · rename_i e
    subst e
    rw [List.getElem?_eq_getElem h2] at h
    exact (Option.some.inj h).symm
  · rfl
section
variable {α : Type} {E : List (TypeId × Nat)} {C : List FuncId} {call : FuncId → List AV → Loc → Nm → (AV → Loc → Option α) → Option α}
theorem evOps_sound {all : List Oper} (hE : ∀ e ∈ E, EqFit P e) (hC : ∀ g ∈ C, Callable P g) (hcall : CallOk P call) {fin : List Foot → Bool} {base : Nm} {k : List AV → Loc → Option α} {r : α} :
    ∀ (rest : List Oper) (i : Nat) (τ : List AV) (L : Loc) (fs : List Foot), evOps P E C call all fin base rest i τ L fs k = some r →
      ∃ ds τf Lf, Rec P all rest τ L ds τf Lf ∧ fin (fs ++ ds.map foot) = true ∧ k τf Lf = some r
  | [], i, τ, L, fs, h => by
    unfold evOps at h
    cases hf : fin fs with
    | false => rw [hf] at h; cases h
    | true => rw [hf] at h; exact ⟨[], τ, L, .nil τ L, by simpa using hf, h⟩
  | o :: rest, i, τ, L, fs, h => by
    have go : wantedA all τ o = true → (evOp P E C call o τ L (i :: base) fun v U rd => evOps P E C call all fin base rest (i + 1) (putA τ o.dst v) (U ++ L) (fs ++ [⟨rd, keys U⟩]) k) = some r →
        ∃ ds τf Lf, Rec P all (o :: rest) τ L ds τf Lf ∧ fin (fs ++ ds.map foot) = true ∧ k τf Lf = some r := fun hw hg => by
      obtain ⟨v, U, rd, h1, h2⟩ := evOp_sound (all := all) hE hC hcall hg
      obtain ⟨ds, τf, Lf, h3, h4, h5⟩ := evOps_sound hE hC hcall rest _ _ _ _ h1
      exact ⟨(v, U, rd) :: ds, τf, Lf, .cons (.inl ⟨hw, h2⟩) h3, by simpa [foot] using h4, h5⟩
    have no : wantedA all τ o = false → evOps P E C call all fin base rest (i + 1) (putA τ o.dst (.v undef)) L (fs ++ [⟨[], []⟩]) k = some r →
        ∃ ds τf Lf, Rec P all (o :: rest) τ L ds τf Lf ∧ fin (fs ++ ds.map foot) = true ∧ k τf Lf = some r := fun hw hg => by
      obtain ⟨ds, τf, Lf, h3, h4, h5⟩ := evOps_sound hE hC hcall rest _ _ _ _ hg
      exact ⟨(.v undef, [], []) :: ds, τf, Lf, .cons (.inr ⟨hw, rfl, rfl, rfl⟩) h3, by simpa [foot, keys] using h4, h5⟩
    unfold evOps at h
    dsimp only at h
    cases hg : o.guard with
    | none =>
      rw [hg] at h
      exact go (by unfold wantedA; rw [hg]) h
    | some gw =>
      obtain ⟨j, want⟩ := gw
      rw [hg] at h
      dsimp only at h
      cases hd : dstOf all j with
      | none =>
        rw [hd] at h
        exact no (by unfold wantedA; rw [hg]; dsimp only; rw [hd]) h
      | some d =>
        rw [hd] at h
        dsimp only at h
        split at h
        · rename_i b hb
          have hga : getA τ d = .v (.bool b) := by unfold getA; rw [hb]
          have hw : wantedA all τ o = (b == want) := by
            unfold wantedA
            rw [hg]
            dsimp only
            rw [hd]
            dsimp only
            rw [hga]
          cases b <;> cases want <;> simp only [cond_true, cond_false, set_same hb] at h
          · exact go (by rw [hw]; rfl) h
          · exact no (by rw [hw]; rfl) h
          · exact no (by rw [hw]; rfl) h
          · exact go (by rw [hw]; rfl) h
        · rename_i hb
          refine no ?_ h
          unfold wantedA
          rw [hg]
          dsimp only
          rw [hd]
          dsimp only
          unfold getA
          cases hq : τ[d]? with
          | none => rfl
          | some x =>
            cases x with
            | v y => cases y with
              | bool b => exact absurd hq (hb b)
              | _ => rfl
            | _ => rfl
end
/-- One operation in its place, from a state that is like the one that it was reckoned in. -/
theorem wpOp_step {ops : Array Oper} {i : Nat} {o : Oper} (ho : ops[i]? = some o) {τ : List AV} {L : Loc} {v : AV} {U : Loc} {rd : List Nm} (h : StepOK P ops.toList o τ L v U rd)
    {ρ : Rho} {a : Act} {w : World} {τ0 : List AV} {L0 : Loc} (hM : MT ρ τ0 a) (hl : ∀ t ∈ looks ops.toList o, getA τ0 t = getA τ t) (hL : ML ρ L0 w) (hag : ∀ n, n ∈ rd ∨ n ∈ keys U → get L0 n = get L n)
    {K : Act → World → Prop} {Q : Exit → Act → World → Prop} (hK : ∀ ρ' a' w', Nxt ρ w ρ' w' → MT ρ' (putA τ0 o.dst v) a' → ML ρ' (U ++ L0) w' → K a' w') : wpOp P ops Q i K a w := by
  unfold wpOp
  simp only [ho]
  rw [wantedA_eq ops hM o, wantedA_congr hl]
  rcases h with ⟨hw, hs⟩ | ⟨hw, rfl, rfl, rfl⟩
  · rw [hw, if_pos rfl]
    exact .inl (hs ρ a w τ0 L0 hM hl hL hag K Q fun ρ' w' u h1 h2 h3 => hK ρ' _ w' h1 ((hM.ext h1.ext).put o.dst h2) h3)
  · rw [hw, if_neg (by simp)]
    exact hK ρ _ w (Nxt.refl ρ w) (hM.put o.dst (x := .v undef) rfl) (by simpa using hL)
theorem text_sound {ops : Array Oper} {Q : Exit → Act → World → Prop} : ∀ {rest : List Oper} {τ : List AV} {L : Loc} {ds : List (AV × Loc × List Nm)} {τf : List AV} {Lf : Loc}, Rec P ops.toList rest τ L ds τf Lf → ∀ i, ops.toList.drop i = rest →
    ∀ {ρ : Rho} {a : Act} {w : World}, MT ρ τ a → ML ρ L w → (∀ ρ' a' w', Nxt ρ w ρ' w' → MT ρ' τf a' → ML ρ' Lf w' → Q .normal a' w') → wpOps P ops Q (List.range' i rest.length) a w := by
  intro rest τ L ds τf Lf h
  induction h with
  | nil τ L => intro i _ ρ a w hM hL hQ; exact hQ ρ a w (Nxt.refl ρ w) hM hL
  | @cons o rest τ L v U rd ds τf Lf hs _ ih =>
    intro i hi ρ a w hM hL hQ
    rw [List.length_cons, List.range'_succ, wpOps_cons]
    have ho : ops[i]? = some o := by
      have : (ops.toList.drop i)[0]? = some o := by rw [hi]; rfl
      rw [List.getElem?_drop] at this
      simpa using this
    have hr : ops.toList.drop (i + 1) = rest := by
      have : (ops.toList.drop i).drop 1 = rest := by rw [hi]; rfl
      rw [List.drop_drop] at this
      exact this
    exact wpOp_step ho hs hM (fun _ _ => rfl) hL (fun _ _ => rfl) fun ρ' a' w' h1 h2 h3 => ih (i + 1) hr h2 h3 fun ρ₂ a₂ w₂ k1 k2 k3 => hQ ρ₂ a₂ w₂ (h1.trans k1) k2 k3

/-! ### Drawn orders -/
def fo {X : Type} (D : Nat → Bool) : Nat → List (Option X) → X → X
  | _, [], b => b
  | i, u :: us, b => fo D (i + 1) us (cond (D i) (u.getD b) b)
theorem fo_congr {X : Type} {D D' : Nat → Bool} : ∀ (us : List (Option X)) (i : Nat) (b : X), (∀ j, j < us.length → D (i + j) ≠ D' (i + j) → us[j]? = some none) → fo D i us b = fo D' i us b
  | [], _, _, _ => rfl
  | u :: us, i, b, h => by
    unfold fo
    have h0 := h 0 (by simp)
    simp only [Nat.add_zero, List.getElem?_cons_zero, Option.some.injEq] at h0
    have e : cond (D i) (u.getD b) b = cond (D' i) (u.getD b) b := by
      by_cases hd : D i = D' i
      · rw [hd]
      · rw [h0 hd]
        cases D i <;> cases D' i <;> rfl
    rw [e]
    refine fo_congr us (i + 1) _ fun j hj hne => ?_
    have := h (j + 1) (by simp; omega) (by rw [show i + (j + 1) = i + 1 + j by omega]; exact hne)
    simpa using this
theorem fo_dead {X : Type} {D : Nat → Bool} : ∀ (us : List (Option X)) (i : Nat) (b : X), (∀ j, j < us.length → D (i + j) = true → us[j]? = some none) → fo D i us b = b
  | [], _, _, _ => rfl
  | u :: us, i, b, h => by
    unfold fo
    have h0 := h 0 (by simp)
    simp only [Nat.add_zero, List.getElem?_cons_zero, Option.some.injEq] at h0
    have e : cond (D i) (u.getD b) b = b := by
      cases hd : D i with
      | false => rfl
      | true => rw [h0 hd]; rfl
    rw [e]
    refine fo_dead us (i + 1) _ fun j hj hne => ?_
    have := h (j + 1) (by simp; omega) (by rw [show i + (j + 1) = i + 1 + j by omega]; exact hne)
    simpa using this
theorem fo_shift {X : Type} {D : Nat → Bool} : ∀ (us : List (Option X)) (i : Nat) (b : X), fo D (i + 1) us b = fo (fun x => D (x + 1)) i us b
  | [], _, _ => rfl
  | u :: us, i, b => by
    unfold fo
    exact fo_shift us (i + 1) _
theorem fo_add {X : Type} {D D' : Nat → Bool} {p : Nat} (h1 : ∀ j, j ≠ p → D' j = D j) (h2 : D' p = true) (h3 : D p = false) : ∀ (us : List (Option X)) (i : Nat) (b : X) (u : Option X), i ≤ p → us[p - i]? = some u →
    (∀ j, p < j → j - i < us.length → D j = true → u.isSome = true → us[j - i]? = some none) → fo D' i us b = u.getD (fo D i us b)
  | [], i, b, u, _, hu, _ => by simp at hu
  | x :: us, i, b, u, hi, hu, hd => by
    by_cases e : i = p
    · subst e
      simp only [Nat.sub_self, List.getElem?_cons_zero, Option.some.injEq] at hu
      subst hu
      unfold fo
      rw [h2, h3]
      simp only [cond_true, cond_false]
      have hc : ∀ c, fo D' (i + 1) us c = fo D (i + 1) us c := fun c => fo_congr us (i + 1) c fun j _ hne => absurd (h1 (i + 1 + j) (by omega)) hne
      rw [hc]
      cases x with
      | none => rfl
      | some y =>
        simp only [Option.getD_some]
        refine fo_dead us (i + 1) y fun j hj hD => ?_
        have := hd (i + 1 + j) (by omega) (by simp; omega) hD rfl
        rw [show i + 1 + j - i = j + 1 by omega] at this
        simpa using this
    · unfold fo
      rw [h1 i e]
      refine fo_add h1 h2 h3 us (i + 1) _ u (by omega) ?_ ?_
      · rw [show p - i = (p - (i + 1)) + 1 by omega] at hu
        simpa using hu
      · intro j hj hlt hD hs
        have := hd j hj (by simp; omega) hD hs
        rw [show j - i = (j - (i + 1)) + 1 by omega] at this
        simpa using this
def usT (len t : Nat) (ops : List Oper) (ds : List (AV × Loc × List Nm)) : List (Option AV) := (ops.zip ds).map fun q => if q.1.dst = some t ∧ t < len then some q.2.1 else none
def usL (n : Nm) (ds : List (AV × Loc × List Nm)) : List (Option (Option Blk)) := ds.map fun d => (get d.2.1 n).map some
theorem getA_put (τ : List AV) (d : Option Tmp) (v : AV) (t : Nat) : getA (putA τ d v) t = (if d = some t ∧ t < τ.length then some v else none).getD (getA τ t) := by
  cases d with
  | none => simp [putA]
  | some d =>
    simp only [putA, getA, List.getElem?_set, Option.some.injEq]
    by_cases h : d = t
    · subst h
      by_cases hl : d < τ.length
      · simp [hl]
      · simp [hl]
    · simp [h]
theorem putA_length (τ : List AV) (d : Option Tmp) (v : AV) : (putA τ d v).length = τ.length := by cases d <;> simp [putA]
theorem get_put (U L : Loc) (n : Nm) : get (U ++ L) n = ((get U n).map some).getD (get L n) := by
  rw [get_append]
  cases get U n <;> rfl
theorem Rec.facts {all ops : List Oper} {τ : List AV} {L : Loc} {ds : List (AV × Loc × List Nm)} {τf : List AV} {Lf : Loc} (h : Rec P all ops τ L ds τf Lf) :
    ds.length = ops.length ∧ τf.length = τ.length ∧
    (∀ j o, ops[j]? = some o → ∃ v U rd τj Lj, ds[j]? = some (v, U, rd) ∧ StepOK P all o τj Lj v U rd ∧
      (∀ t, getA τj t = fo (fun x => decide (x < j)) 0 (usT τ.length t ops ds) (getA τ t)) ∧ (∀ n, get Lj n = fo (fun x => decide (x < j)) 0 (usL n ds) (get L n))) ∧
    (∀ t, getA τf t = fo (fun _ => true) 0 (usT τ.length t ops ds) (getA τ t)) ∧ (∀ n, get Lf n = fo (fun _ => true) 0 (usL n ds) (get L n)) := by
  induction h with
  | nil τ L => exact ⟨rfl, rfl, fun j o hj => by simp at hj, fun t => rfl, fun n => rfl⟩
  | @cons o rest τ L v U rd ds τf Lf hs _ ih =>
    obtain ⟨i1, i2, i3, i4, i5⟩ := ih
    refine ⟨by simp [i1], by rw [i2, putA_length], ?_, ?_, ?_⟩
    · intro j o' hj
      cases j with
      | zero =>
        simp only [List.getElem?_cons_zero, Option.some.injEq] at hj
        subst hj
        refine ⟨v, U, rd, τ, L, rfl, hs, fun t => ?_, fun n => ?_⟩
        · exact (fo_dead _ _ _ fun j _ h => by simp at h).symm
        · exact (fo_dead _ _ _ fun j _ h => by simp at h).symm
      | succ j =>
        simp only [List.getElem?_cons_succ] at hj
        obtain ⟨v', U', rd', τj, Lj, k1, k2, k3, k4⟩ := i3 j o' hj
        refine ⟨v', U', rd', τj, Lj, by simpa using k1, k2, fun t => ?_, fun n => ?_⟩
        · rw [k3 t, getA_put, putA_length]
          simp only [usT, List.zip_cons_cons, List.map_cons, fo]
          rw [fo_shift]
          simp
        · rw [k4 n, get_put]
          simp only [usL, List.map_cons, fo]
          rw [fo_shift]
          simp
    · intro t
      rw [i4 t, getA_put, putA_length]
      simp only [usT, List.zip_cons_cons, List.map_cons, fo]
      rw [fo_shift]
      simp
    · intro n
      rw [i5 n, get_put]
      simp only [usL, List.map_cons, fo]
      rw [fo_shift]
      simp
theorem rowOk_at {all : List Oper} {i : Nat} {x : Oper} {fx : Foot} : ∀ {l : List Oper} {fl : List Foot} {j : Nat}, rowOk all i x fx j l fl = true → ∀ {k : Nat} {y : Oper} {f : Foot}, l[k]? = some y → fl[k]? = some f → pairOk all i (j + k) x y fx f = true
  | [], _, _, _, k, y, f, h1, _ => by simp at h1
  | _ :: _, [], _, _, k, y, f, _, h2 => by simp at h2
  | y' :: l, f' :: fl, j, h, k, y, f, h1, h2 => by
    simp only [rowOk, Bool.and_eq_true] at h
    cases k with
    | zero =>
      simp only [List.getElem?_cons_zero, Option.some.injEq] at h1 h2
      subst h1 h2
      exact h.1
    | succ k =>
      simp only [List.getElem?_cons_succ] at h1 h2
      have := rowOk_at h.2 h1 h2
      rw [show j + 1 + k = j + (k + 1) by omega] at this
      exact this
theorem allOk_at {all : List Oper} : ∀ {l : List Oper} {fl : List Foot} {i : Nat}, allOk all i l fl = true → ∀ {k : Nat} {x : Oper} {f : Foot}, l[k]? = some x → fl[k]? = some f →
    (∀ e ∈ x.after, Region.binds .any e = true → e.on < i + k) ∧ ∀ {m : Nat} {y : Oper} {g : Foot}, k < m → l[m]? = some y → fl[m]? = some g → pairOk all (i + k) (i + m) x y f g = true
  | [], _, _, _, k, x, f, h1, _ => by simp at h1
  | _ :: _, [], _, _, k, x, f, _, h2 => by simp at h2
  | x' :: l, f' :: fl, i, h, k, x, f, h1, h2 => by
    simp only [allOk, Bool.and_eq_true] at h
    obtain ⟨⟨ha, hb⟩, hc⟩ := h
    cases k with
    | zero =>
      simp only [List.getElem?_cons_zero, Option.some.injEq] at h1 h2
      subst h1 h2
      refine ⟨fun e he hbind => ?_, fun {m y g} hm h3 h4 => ?_⟩
      · rw [List.all_eq_true] at ha
        have := ha e (by simpa using he)
        rw [hbind] at this
        simp only [Bool.not_true, Bool.false_or] at this
        exact Nat.le_of_ble_eq_true this
      · cases m with
        | zero => omega
        | succ m =>
          simp only [List.getElem?_cons_succ] at h3 h4
          have := rowOk_at hb h3 h4
          rw [show i + 1 + m = i + (m + 1) by omega] at this
          exact this
    | succ k =>
      simp only [List.getElem?_cons_succ] at h1 h2
      obtain ⟨q1, q2⟩ := allOk_at hc h1 h2
      refine ⟨fun e he hbind => by have := q1 e he hbind; omega, fun {m y g} hm h3 h4 => ?_⟩
      cases m with
      | zero => omega
      | succ m =>
        simp only [List.getElem?_cons_succ] at h3 h4
        have := q2 (by omega) h3 h4
        rw [show i + 1 + k = i + (k + 1) by omega, show i + 1 + m = i + (m + 1) by omega] at this
        exact this
theorem noneIn_iff {a b : List Nm} : noneIn a b = true ↔ ∀ n ∈ a, n ∉ b := by
  unfold noneIn
  rw [List.all_eq_true]
  constructor
  · intro h n hn hb
    have := h n hn
    rw [has_iff.2 hb] at this
    cases this
  · intro h n hn
    cases hb : has b n with
    | false => rfl
    | true => exact absurd (has_iff.1 hb) (h n hn)
theorem hasN_iff {l : List Nat} {n : Nat} : hasN l n = true ↔ n ∈ l := by
  unfold hasN
  rw [List.any_eq_true]
  constructor
  · rintro ⟨x, hx, h⟩
    have : n = x := Nat.eq_of_beq_eq_true h
    exact this ▸ hx
  · intro h
    exact ⟨n, h, Nat.beq_refl n⟩
theorem waits_closed {all : List Oper} {D : Nat → Prop} {i : Nat} (hD : ∀ j o, all[j]? = some o → D j → ∀ e ∈ o.after, Region.binds .any e = true → D e.on) : ∀ (n j : Nat), waits all n i j = true → D j → D i
  | 0, _, h, _ => by simp [waits] at h
  | n + 1, j, h, hj => by
    unfold waits at h
    split at h
    · rename_i o ho
      rw [List.any_eq_true] at h
      obtain ⟨e, he, h2⟩ := h
      simp only [Bool.and_eq_true, Bool.or_eq_true] at h2
      have hd := hD j o ho hj e (by simpa using he) h2.1
      rcases h2.2 with h3 | h3
      · have : e.on = i := Nat.eq_of_beq_eq_true h3
        exact this ▸ hd
      · exact waits_closed hD n e.on h3 hd
    · cases h
theorem waits_ready {all : List Oper} {D : Nat → Prop} {i j : Nat} {o : Oper} (ho : all[j]? = some o) (hD : ∀ j o, all[j]? = some o → D j → ∀ e ∈ o.after, Region.binds .any e = true → D e.on)
    (hr : ∀ e ∈ o.after, Region.binds .any e = true → D e.on) : ∀ n, waits all n i j = true → D i
  | 0, h => by simp [waits] at h
  | n + 1, h => by
    unfold waits at h
    rw [ho] at h
    simp only [List.any_eq_true] at h
    obtain ⟨e, he, h2⟩ := h
    simp only [Bool.and_eq_true, Bool.or_eq_true] at h2
    have hd := hr e (by simpa using he) h2.1
    rcases h2.2 with h3 | h3
    · have : e.on = i := Nat.eq_of_beq_eq_true h3
      exact this ▸ hd
    · exact waits_closed hD n e.on h3 hd
end
end Ev
end Go.Proofs.YtfilgpifiboccaaGreat
namespace Go.Proofs.YtfilgpifiboccaaGreat
namespace Ev
open Go.RowKit
section
variable {P : Program}
theorem ready_none {ops : Array Oper} {listed : Array Bool} (hsz : listed.size = ops.size) (hdown : ∀ k x, ops[k]? = some x → ∀ e ∈ x.after, Region.binds .any e = true → e.on < k)
    (h : Region.ready .any ops listed = []) : ∀ k, k < ops.size → listed.getD k false = true := by
  intro k
  induction k using Nat.strongRecOn with
  | _ k ih =>
    intro hk
    have ho : ops[k]? = some ops[k] := Array.getElem?_eq_getElem hk
    cases hd : listed.getD k true with
    | false =>
      exfalso
      have : k ∈ Region.ready .any ops listed := mem_ready.2 ⟨hd, ops[k], ho, fun e he hb => by
        have hlt := hdown k _ ho e he hb
        exact ih e.on hlt (by omega)⟩
      rw [h] at this
      cases this
    | true =>
      have hk' : k < listed.size := by omega
      simp [hk'] at hd ⊢
      exact hd
theorem drawn_sound {ops : Array Oper} {τ : List AV} {L : Loc} {ds : List (AV × Loc × List Nm)} {τf : List AV} {Lf : Loc} (hrec : Rec P ops.toList ops.toList τ L ds τf Lf)
    (hok : allOk ops.toList 0 ops.toList (ds.map foot) = true) {ρ : Rho} {a : Act} {w : World} (hM : MT ρ τ a) (hL : ML ρ L w) {Q : Exit → Act → World → Prop}
    (hQ : ∀ ρ' a' w', Nxt ρ w ρ' w' → MT ρ' τf a' → ML ρ' Lf w' → Q .normal a' w') : wpAny P .any ops Q ops.size (Array.replicate ops.size false) a w := by
  obtain ⟨f1, f2, f3, f4, f5⟩ := hrec.facts
  have hlen : ds.length = ops.size := by simpa using f1
  have hfoot : ∀ {k : Nat} {d : AV × Loc × List Nm}, ds[k]? = some d → (ds.map foot)[k]? = some (foot d) := fun h => by simp [h]
  have hdown : ∀ k x, ops[k]? = some x → ∀ e ∈ x.after, Region.binds .any e = true → e.on < k := fun k x hx e he hb => by
    have hx' : ops.toList[k]? = some x := by simpa using hx
    obtain ⟨v, U, rd, τj, Lj, k1, _⟩ := f3 k x hx'
    have := (allOk_at hok hx' (hfoot k1)).1 e he hb
    omega
  have hpair : ∀ i j x y dx dy, i < j → ops[i]? = some x → ops[j]? = some y → ds[i]? = some dx → ds[j]? = some dy → pairOk ops.toList i j x y (foot dx) (foot dy) = true := fun i j x y dx dy hij hx hy h1 h2 => by
    have hx' : ops.toList[i]? = some x := by simpa using hx
    have hy' : ops.toList[j]? = some y := by simpa using hy
    have := (allOk_at hok hx' (hfoot h1)).2 hij hy' (hfoot h2)
    simpa using this
  -- the state when 'listed' have come up
  have key : ∀ (fuel : Nat) (listed : Array Bool) (a₁ : Act) (w₁ : World), listed.size = ops.size → ((List.range ops.size).filter fun i => !listed.getD i false).length ≤ fuel →
      (∀ j o, ops.toList[j]? = some o → listed.getD j false = true → ∀ e ∈ o.after, Region.binds .any e = true → listed.getD e.on false = true) →
      (∃ ρ₁ τ₁ L₁, Nxt ρ w ρ₁ w₁ ∧ MT ρ₁ τ₁ a₁ ∧ τ₁.length = τ.length ∧ (∀ t, getA τ₁ t = fo (fun j => listed.getD j false) 0 (usT τ.length t ops.toList ds) (getA τ t)) ∧
        ML ρ₁ L₁ w₁ ∧ (∀ n, get L₁ n = fo (fun j => listed.getD j false) 0 (usL n ds) (get L n))) → wpAny P .any ops Q fuel listed a₁ w₁ := by
    intro fuel
    induction fuel with
    | zero =>
      intro listed a₁ w₁ hsz hfu hcl hst
      have hall : ∀ k, k < ops.size → listed.getD k false = true := fun k hk => by
        cases hd : listed.getD k false with
        | true => rfl
        | false =>
          have : k ∈ (List.range ops.size).filter fun i => !listed.getD i false := List.mem_filter.2 ⟨List.mem_range.2 hk, by simp only [hd]; rfl⟩
          have h0 : ((List.range ops.size).filter fun i => !listed.getD i false) = [] := List.length_eq_zero_iff.1 (by omega)
          rw [h0] at this
          cases this
      have hrd : Region.ready .any ops listed = [] := by
        cases hq : Region.ready .any ops listed with
        | nil => rfl
        | cons x xs =>
          have : x ∈ Region.ready .any ops listed := by rw [hq]; exact List.mem_cons_self
          obtain ⟨h1, o, ho, _⟩ := mem_ready.1 this
          have hx : x < ops.size := (Array.getElem?_eq_some_iff.1 ho).1
          have := hall x hx
          have hx' : x < listed.size := by omega
          simp [hx'] at h1 this
          rw [h1] at this
          cases this
      refine ⟨hrd, ?_⟩
      obtain ⟨ρ₁, τ₁, L₁, g1, g2, g3, g4, g5, g6⟩ := hst
      refine hQ ρ₁ a₁ w₁ g1 (g2.of_get (by rw [f2, g3]) fun t => ?_) (g5.congr fun n => ?_)
      · rw [f4 t, g4 t]
        refine fo_congr _ _ _ fun j hj hne => absurd ?_ hne
        simp only [usT, List.length_map, List.length_zip] at hj
        have := hall j (by simp at hj; omega)
        simp only [Nat.zero_add]
        exact this.symm
      · rw [f5 n, g6 n]
        refine fo_congr _ _ _ fun j hj hne => absurd ?_ hne
        simp only [usL, List.length_map] at hj
        have := hall j (by omega)
        simp only [Nat.zero_add]
        exact this.symm
    | succ fuel ih =>
      intro listed a₁ w₁ hsz hfu hcl hst
      refine ⟨fun hrd => ?_, fun i hi => ?_⟩
      · have hall := ready_none hsz hdown hrd
        obtain ⟨ρ₁, τ₁, L₁, g1, g2, g3, g4, g5, g6⟩ := hst
        refine hQ ρ₁ a₁ w₁ g1 (g2.of_get (by rw [f2, g3]) fun t => ?_) (g5.congr fun n => ?_)
        · rw [f4 t, g4 t]
          refine fo_congr _ _ _ fun j hj hne => absurd ?_ hne
          simp only [usT, List.length_map, List.length_zip] at hj
          have := hall j (by simp at hj; omega)
          simp only [Nat.zero_add]
          exact this.symm
        · rw [f5 n, g6 n]
          refine fo_congr _ _ _ fun j hj hne => absurd ?_ hne
          simp only [usL, List.length_map] at hj
          have := hall j (by omega)
          simp only [Nat.zero_add]
          exact this.symm
      · obtain ⟨hun, o, ho, hpre⟩ := mem_ready.1 hi
        have hi' : i < ops.size := (Array.getElem?_eq_some_iff.1 ho).1
        have hil : i < listed.size := by omega
        have hun' : listed.getD i false = false := by simp [hil] at hun ⊢; exact hun
        have ho' : ops.toList[i]? = some o := by simpa using ho
        obtain ⟨v, U, rd, τi, Li, k1, k2, k3, k4⟩ := f3 i o ho'
        obtain ⟨ρ₁, τ₁, L₁, g1, g2, g3, g4, g5, g6⟩ := hst
        -- what has come up beside the text's order is apart from i
        have hcl' : ∀ j o, ops.toList[j]? = some o → (fun j => listed.getD j false = true) j → ∀ e ∈ o.after, Region.binds .any e = true → (fun j => listed.getD j false = true) e.on := hcl
        have hnw : ∀ j n, listed.getD j false = false → waits ops.toList n j i = true → False := fun j n hj hw => by
          have := waits_ready (D := fun j => listed.getD j false = true) ho' hcl' hpre n hw
          rw [hj] at this
          cases this
        have hnw2 : ∀ j n, listed.getD j false = true → waits ops.toList n i j = true → False := fun j n hj hw => by
          have := waits_closed (D := fun j => listed.getD j false = true) hcl' n j hw hj
          rw [hun'] at this
          cases this
        have hap : ∀ j y dy, ops[j]? = some y → ds[j]? = some dy → listed.getD j false ≠ decide (j < i) →
            (∀ d, y.dst = some d → d ∉ looks ops.toList o) ∧ (∀ n, n ∈ rd ∨ n ∈ keys U → n ∉ keys dy.2.1) := by
          intro j y dy hy hdy hne
          have hji : j ≠ i := fun e => by rw [e, hun'] at hne; simp at hne
          have conc : ∀ (p q : Nat) (x z : Oper) (dx dz : AV × Loc × List Nm), pairOk ops.toList p q x z (foot dx) (foot dz) = true → waits ops.toList 8 p q = false →
              (∀ d, x.dst = some d → d ∉ looks ops.toList z) ∧ (∀ d, z.dst = some d → d ∉ looks ops.toList x) ∧ footApart (foot dx) (foot dz) = true := by
            intro p q x z dx dz hp hw
            unfold pairOk at hp
            cases hs : sameDst x.dst z.dst with
            | true => rw [hs] at hp; cases hp
            | false =>
              rw [hs, hw] at hp
              simp only [cond_false] at hp
              cases hc : (!dstIn x.dst (looks ops.toList z) && !dstIn z.dst (looks ops.toList x) && footApart (foot dx) (foot dz)) with
              | false => rw [hc] at hp; cases hp
              | true =>
                simp only [Bool.and_eq_true, Bool.not_eq_true'] at hc
                refine ⟨fun d hd hm => ?_, fun d hd hm => ?_, hc.2⟩
                · have := hc.1.1
                  rw [hd] at this
                  simp only [dstIn] at this
                  rw [hasN_iff.2 hm] at this
                  cases this
                · have := hc.1.2
                  rw [hd] at this
                  simp only [dstIn] at this
                  rw [hasN_iff.2 hm] at this
                  cases this
          rcases Nat.lt_or_gt_of_ne hji with hlt | hgt
          · have hjf : listed.getD j false = false := by
              cases hq : listed.getD j false with
              | false => rfl
              | true => rw [hq] at hne; simp [hlt] at hne
            have hp := hpair j i y o dy (v, U, rd) hlt hy ho hdy k1
            have hw : waits ops.toList 8 j i = false := by
              cases hq : waits ops.toList 8 j i with
              | false => rfl
              | true => exact (hnw j 8 hjf hq).elim
            obtain ⟨c1, c2, c3⟩ := conc j i y o dy (v, U, rd) hp hw
            refine ⟨c1, fun n hn hm => ?_⟩
            simp only [footApart, Bool.and_eq_true, foot] at c3
            obtain ⟨⟨d1, d2⟩, d3⟩ := c3
            rcases hn with hn | hn
            · exact noneIn_iff.1 d1 n hm hn
            · exact noneIn_iff.1 d2 n hm hn
          · have hjt : listed.getD j false = true := by
              cases hq : listed.getD j false with
              | true => rfl
              | false => rw [hq] at hne; simp [show ¬ j < i by omega] at hne
            have hp := hpair i j o y (v, U, rd) dy hgt ho hy k1 hdy
            have hw : waits ops.toList 8 i j = false := by
              cases hq : waits ops.toList 8 i j with
              | false => rfl
              | true => exact (hnw2 j 8 hjt hq).elim
            obtain ⟨c1, c2, c3⟩ := conc i j o y (v, U, rd) dy hp hw
            refine ⟨c2, fun n hn hm => ?_⟩
            simp only [footApart, Bool.and_eq_true, foot] at c3
            obtain ⟨⟨d1, d2⟩, d3⟩ := c3
            rcases hn with hn | hn
            · exact noneIn_iff.1 d3 n hm hn
            · exact noneIn_iff.1 d2 n hn hm
        have atT : ∀ t j, j < (usT τ.length t ops.toList ds).length → ∃ y dy, ops[j]? = some y ∧ ds[j]? = some dy ∧ (usT τ.length t ops.toList ds)[j]? = some (if y.dst = some t ∧ t < τ.length then some dy.1 else none) := by
          intro t j hj
          simp only [usT, List.length_map, List.length_zip] at hj
          have h1 : j < ops.size := by simp at hj; omega
          have h2 : j < ds.length := by omega
          refine ⟨ops[j], ds[j], Array.getElem?_eq_getElem h1, List.getElem?_eq_getElem h2, ?_⟩
          have hz : (ops.toList.zip ds)[j]? = some (ops[j], ds[j]) := by
            rw [List.getElem?_zip_eq_some]
            exact ⟨by simp [h1], by simp [h2]⟩
          unfold usT
          rw [List.getElem?_map, hz]
          rfl
        have atL : ∀ n j, j < (usL n ds).length → ∃ y dy, ops[j]? = some y ∧ ds[j]? = some dy ∧ (usL n ds)[j]? = some ((get dy.2.1 n).map some) := by
          intro n j hj
          simp only [usL, List.length_map] at hj
          have h1 : j < ops.size := by omega
          refine ⟨ops[j], ds[j], Array.getElem?_eq_getElem h1, List.getElem?_eq_getElem hj, ?_⟩
          simp [usL, hj]
        have hagT : ∀ t ∈ looks ops.toList o, getA τ₁ t = getA τi t := fun t ht => by
          rw [g4 t, k3 t]
          refine fo_congr _ _ _ fun j hj hne => ?_
          simp only [Nat.zero_add] at hne
          obtain ⟨y, dy, q1, q2, q3⟩ := atT t j hj
          rw [q3, if_neg]
          rintro ⟨e, _⟩
          exact (hap j y dy q1 q2 hne).1 t e ht
        have hagL : ∀ n, n ∈ rd ∨ n ∈ keys U → get L₁ n = get Li n := fun n hn => by
          rw [g6 n, k4 n]
          refine fo_congr _ _ _ fun j hj hne => ?_
          simp only [Nat.zero_add] at hne
          obtain ⟨y, dy, q1, q2, q3⟩ := atL n j hj
          rw [q3]
          have := (hap j y dy q1 q2 hne).2 n hn
          rw [get_none_iff.2 this]
          rfl
        refine wpOp_step ho k2 g2 hagT g5 hagL fun ρ' a' w' h1 h2 h3 => ?_
        have hset : ∀ j, j ≠ i → (listed.setIfInBounds i true).getD j false = listed.getD j false := fun j hj => getD_set_ne false (Ne.symm hj)
        have hseti : (listed.setIfInBounds i true).getD i false = true := by simp [hil]
        refine ih _ a' w' (by simpa using hsz) ?_ ?_ ?_
        · have hsub : ((List.range ops.size).filter fun k => !(listed.setIfInBounds i true).getD k false).length < ((List.range ops.size).filter fun k => !listed.getD k false).length := by
            have e : ((List.range ops.size).filter fun k => !(listed.setIfInBounds i true).getD k false) = ((List.range ops.size).filter fun k => !listed.getD k false).filter (fun k => k != i) := by
              rw [List.filter_filter]
              refine List.filter_congr fun k hk => ?_
              by_cases e : k = i
              · subst e
                rw [hseti]
                simp
              · rw [hset k e]
                simp [e]
            rw [e]
            have hmem : i ∈ (List.range ops.size).filter fun k => !listed.getD k false := List.mem_filter.2 ⟨List.mem_range.2 hi', by simp only [hun']; rfl⟩
            exact List.length_filter_lt_length_iff_exists.2 ⟨i, hmem, by simp⟩
          omega
        · intro j y hy hj e he hb
          by_cases q : j = i
          · subst q
            have : y = o := by rw [ho'] at hy; exact (Option.some.inj hy).symm
            subst this
            exact getD_set_true (hpre e he hb)
          · rw [hset j q] at hj
            exact getD_set_true (hcl j y hy hj e he hb)
        · refine ⟨ρ', _, _, g1.trans h1, h2, by rw [putA_length]; exact g3, fun t => ?_, h3, fun n => ?_⟩
          · rw [getA_put, g4 t, g3]
            have hd : i < (usT τ.length t ops.toList ds).length := by
              simp only [usT, List.length_map, List.length_zip]
              simp
              omega
            obtain ⟨y, dy, q1, q2, q3⟩ := atT t i hd
            have e1 : y = o := by rw [ho] at q1; exact (Option.some.inj q1).symm
            have e2 : dy = (v, U, rd) := by rw [k1] at q2; exact (Option.some.inj q2).symm
            subst e1 e2
            symm
            refine fo_add (p := i) (fun j hj => hset j hj) hseti hun' _ 0 _ _ (Nat.zero_le _) (by simpa using q3) fun j hj hlt hD hs => ?_
            simp only [Nat.sub_zero] at hlt ⊢
            obtain ⟨z, dz, p1, p2, p3⟩ := atT t j hlt
            rw [p3]
            split at hs
            · rename_i hc
              rw [if_neg]
              rintro ⟨e, _⟩
              have hp := hpair i j y z (v, U, rd) dz hj ho p1 k1 p2
              unfold pairOk at hp
              rw [hc.1, e] at hp
              simp [sameDst] at hp
            · cases hs
          · rw [get_put, g6 n]
            have hd : i < (usL n ds).length := by
              simp only [usL, List.length_map]
              omega
            obtain ⟨y, dy, q1, q2, q3⟩ := atL n i hd
            have e2 : dy = (v, U, rd) := by rw [k1] at q2; exact (Option.some.inj q2).symm
            subst e2
            symm
            refine fo_add (p := i) (fun j hj => hset j hj) hseti hun' _ 0 _ _ (Nat.zero_le _) (by simpa using q3) fun j hj hlt hD hs => ?_
            simp only [Nat.sub_zero] at hlt ⊢
            obtain ⟨z, dz, p1, p2, p3⟩ := atL n j hlt
            rw [p3]
            have hin : n ∈ keys U := keys_iff.2 (by simpa using hs)
            have hne : listed.getD j false ≠ decide (j < i) := by rw [hD]; simp [show ¬ j < i by omega]
            have := (hap j z dz p1 p2 hne).2 n (.inr hin)
            rw [get_none_iff.2 this]
            rfl
  have allF : ∀ j, (Array.replicate ops.size false).getD j false = false := fun j => by
    rw [Array.getD_eq_getD_getElem?, Array.getElem?_replicate]
    split <;> rfl
  refine key ops.size (Array.replicate ops.size false) a w (by simp) ?_ ?_ ⟨ρ, τ, L, Nxt.refl ρ w, hM, rfl, fun t => ?_, hL, fun n => ?_⟩
  · refine Nat.le_trans (List.length_filter_le _ _) ?_
    simp
  · intro j o hj hl
    rw [allF j] at hl
    cases hl
  · refine (fo_dead _ _ _ fun j hj h => ?_).symm
    rw [allF] at h
    cases h
  · refine (fo_dead _ _ _ fun j hj h => ?_).symm
    rw [allF] at h
    cases h
end
end Ev
end Go.Proofs.YtfilgpifiboccaaGreat
namespace Go.Proofs.YtfilgpifiboccaaGreat
namespace Ev
open Go.RowKit
section
variable {P : Program}
def Post (σ' : St) (e : Ex) (ρ : Rho) (w : World) : Exit → Act → World → Prop := fun e' a' w' => e' = e.cv ∧ ∃ ρ', Nxt ρ w ρ' w' ∧ MT ρ' σ'.τ a' ∧ ML ρ' σ'.L w'
def Does (P : Program) (c : Code) (σ : St) (e : Ex) (σ' : St) : Prop := ∀ ρ a w, MT ρ σ.τ a → ML ρ σ.L w → c.wp P (Post σ' e ρ w) a w
theorem Post.trans {σ' : St} {e : Ex} {ρ ρ₁ : Rho} {w w₁ : World} (h : Nxt ρ w ρ₁ w₁) {e' : Exit} {a' : Act} {w' : World} (k : Post σ' e ρ₁ w₁ e' a' w') : Post σ' e ρ w e' a' w' := by
  obtain ⟨h1, ρ', h2, h3⟩ := k
  exact ⟨h1, ρ', h.trans h2, h3⟩
theorem fix_same {τ : List AV} {x : Operand} {b : Bool} (h : evA τ x = .v (.bool b)) : fix τ x b = τ := by
  cases x with
  | tmp t =>
    simp only [evA, getA] at h
    cases hx : τ[t]? with
    | none => simp only [fix]; exact List.set_eq_of_length_le (List.getElem?_eq_none_iff.1 hx)
    | some y =>
      rw [hx] at h
      simp only at h
      subst h
      exact set_same hx
  | _ => rfl
section
variable {α : Type} {E : List (TypeId × Nat)} {C : List FuncId} {call : FuncId → List AV → Loc → Nm → (AV → Loc → Option α) → Option α}
theorem iter_sound {b : Code} {F : (Ex → St → Option α) → St → Option α} (hF : ∀ k σ r, F k σ = some r → ∃ e σ', k e σ' = some r ∧ Does P b σ e σ') :
    ∀ (n : Nat) (k : Ex → St → Option α) (σ : St) (r : α), iter F n k σ = some r → ∃ e σ', k e σ' = some r ∧ ∀ ρ a w, MT ρ σ.τ a → ML ρ σ.L w → Code.rounds P b (Post σ' e ρ w) n a w
  | 0, _, _, _, h => by simp [iter] at h
  | n + 1, k, σ, r, h => by
    unfold iter at h
    obtain ⟨e1, σ1, h1, h2⟩ := hF _ _ _ h
    cases e1 with
    | norm =>
      obtain ⟨e, σ', h3, h4⟩ := iter_sound hF n k σ1 r h1
      refine ⟨e, σ', h3, fun ρ a w hM hL => ?_⟩
      rw [rounds_succ]
      refine wp_mono (h2 ρ a w hM hL) fun e' a' w' hp => ?_
      obtain ⟨rfl, ρ', g1, g2, g3⟩ := hp
      show Code.rounds P b (Post σ' e ρ w) n a' w'
      have := h4 ρ' a' w' g2 g3
      exact rounds_mono n (fun e' a' w' hq => Post.trans g1 hq) a' w' this
    | ex i =>
      refine ⟨_, _, h1, fun ρ a w hM hL => ?_⟩
      rw [rounds_succ]
      refine wp_mono (h2 ρ a w hM hL) fun e' a' w' hp => ?_
      have h5 := hp.1
      subst h5
      exact hp
    | ret =>
      refine ⟨_, _, h1, fun ρ a w hM hL => ?_⟩
      rw [rounds_succ]
      refine wp_mono (h2 ρ a w hM hL) fun e' a' w' hp => ?_
      have h5 := hp.1
      subst h5
      exact hp
where
  rounds_mono {b : Code} {Q Q' : Exit → Act → World → Prop} : ∀ (n : Nat), (∀ e a w, Q e a w → Q' e a w) → ∀ a w, Code.rounds P b Q n a w → Code.rounds P b Q' n a w
    | 0, _, _, _, h => h.elim
    | n + 1, hq, a, w, h => by
      rw [rounds_succ] at h ⊢
      refine wp_mono h fun e' a' w' hp => ?_
      cases e' with
      | normal => exact rounds_mono n hq a' w' hp
      | _ => exact hq _ _ _ hp
theorem evC_sound (hm : P.follows .mixedOrders = true) (hE : ∀ e ∈ E, EqFit P e) (hC : ∀ g ∈ C, Callable P g) (hcall : CallOk P call) (lim : Nat) :
    ∀ (c : Code) (k : Ex → St → Option α) (σ : St) (r : α), evC P E C call lim c k σ = some r → ∃ e σ', k e σ' = some r ∧ Does P c σ e σ' := by
  intro c
  induction c with
  | skip => intro k σ r h; exact ⟨.norm, σ, h, fun ρ a w hM hL => wp_skip ⟨rfl, ρ, Nxt.refl ρ w, hM, hL⟩⟩
  | ret => intro k σ r h; exact ⟨.ret, σ, h, fun ρ a w hM hL => wp_ret ⟨rfl, ρ, Nxt.refl ρ w, hM, hL⟩⟩
  | exit i => intro k σ r h; exact ⟨.ex i, σ, h, fun ρ a w hM hL => wp_exit ⟨rfl, ρ, Nxt.refl ρ w, hM, hL⟩⟩
  | seq x y ihx ihy =>
    intro k σ r h
    unfold evC at h
    obtain ⟨e1, σ1, h1, h2⟩ := ihx _ _ _ h
    cases e1 with
    | norm =>
      obtain ⟨e, σ', h3, h4⟩ := ihy _ _ _ h1
      refine ⟨e, σ', h3, fun ρ a w hM hL => wp_seq (wp_mono (h2 ρ a w hM hL) fun e' a' w' hp => ?_)⟩
      obtain ⟨rfl, ρ', g1, g2, g3⟩ := hp
      exact wp_mono (h4 ρ' a' w' g2 g3) fun _ _ _ hq => Post.trans g1 hq
    | ex i =>
      refine ⟨_, _, h1, fun ρ a w hM hL => wp_seq (wp_mono (h2 ρ a w hM hL) fun e' a' w' hp => ?_)⟩
      have h5 := hp.1
      subst h5
      exact hp
    | ret =>
      refine ⟨_, _, h1, fun ρ a w hM hL => wp_seq (wp_mono (h2 ρ a w hM hL) fun e' a' w' hp => ?_)⟩
      have h5 := hp.1
      subst h5
      exact hp
  | region id ops draw =>
    intro k σ r h
    unfold evC at h
    obtain ⟨ds, τf, Lf, h1, h2, h3⟩ := evOps_sound hE hC hcall _ _ _ _ _ h
    refine ⟨.norm, _, h3, fun ρ a w hM hL => ?_⟩
    cases draw with
    | false =>
      refine wp_region ?_
      have := text_sound (Q := Post ⟨τf, Lf, σ.c + 1, σ.pre⟩ .norm ρ w) h1 0 (by simp) hM hL fun ρ' a' w' g1 g2 g3 => ⟨rfl, ρ', g1, g2, g3⟩
      rw [List.range_eq_range']
      simpa using this
    | true =>
      refine wp_region_any hm ?_
      refine drawn_sound h1 (by simpa using h2) hM hL.drew fun ρ' a' w' g1 g2 g3 => ⟨rfl, ρ', Nxt.drew.trans g1, g2, g3⟩
  | cond x a b iha ihb =>
    intro k σ r h
    unfold evC at h
    split at h
    · rename_i t ht
      cases t with
      | true =>
        rw [fix_same ht] at h
        simp only [cond_true] at h
        obtain ⟨e, σ', h3, h4⟩ := iha _ _ _ h
        refine ⟨e, σ', h3, fun ρ a' w hM hL => ?_⟩
        have hx := evA_at hM x
        rw [ht] at hx
        exact wp_cond_true (by simpa [aAt] using hx.symm) (h4 ρ a' w hM hL)
      | false =>
        rw [fix_same ht] at h
        simp only [cond_false] at h
        obtain ⟨e, σ', h3, h4⟩ := ihb _ _ _ h
        refine ⟨e, σ', h3, fun ρ a' w hM hL => ?_⟩
        have hx := evA_at hM x
        rw [ht] at hx
        exact wp_cond_false (by simpa [aAt] using hx.symm) (h4 ρ a' w hM hL)
    · cases h
  | block i b ih =>
    intro k σ r h
    unfold evC at h
    obtain ⟨e1, σ1, h1, h2⟩ := ih _ _ _ h
    cases e1 with
    | norm =>
      refine ⟨_, _, h1, fun ρ a w hM hL => wp_block (wp_mono (h2 ρ a w hM hL) fun e' a' w' hp => ?_)⟩
      have h5 := hp.1
      subst h5
      exact hp
    | ret =>
      refine ⟨_, _, h1, fun ρ a w hM hL => wp_block (wp_mono (h2 ρ a w hM hL) fun e' a' w' hp => ?_)⟩
      have h5 := hp.1
      subst h5
      exact hp
    | ex j =>
      cases hj : Nat.beq j i with
      | true =>
        simp only [hj, cond_true] at h1
        refine ⟨_, _, h1, fun ρ a w hM hL => wp_block (wp_mono (h2 ρ a w hM hL) fun e' a' w' hp => ?_)⟩
        obtain ⟨h5, h6⟩ := hp
        subst h5
        have e : j = i := Nat.eq_of_beq_eq_true hj
        show Exit.inBlock i _ (.exit j) a' w'
        simp only [Exit.inBlock, e, if_true]
        exact ⟨rfl, h6⟩
      | false =>
        simp only [hj, cond_false] at h1
        refine ⟨_, _, h1, fun ρ a w hM hL => wp_block (wp_mono (h2 ρ a w hM hL) fun e' a' w' hp => ?_)⟩
        obtain ⟨h5, h6⟩ := hp
        subst h5
        have e : j ≠ i := fun q => by subst q; simp at hj
        show Exit.inBlock i _ (.exit j) a' w'
        simp only [Exit.inBlock, e, if_false]
        exact ⟨rfl, h6⟩
  | loop b ih =>
    intro k σ r h
    unfold evC at h
    obtain ⟨e, σ', h1, h2⟩ := iter_sound ih lim k σ r h
    exact ⟨e, σ', h1, fun ρ a w hM hL => wp_loop_rounds lim (h2 ρ a w hM hL)⟩
  | rangeFunc f ps a b iha ihb => intro k σ r h; simp [evC] at h
  | scope b ih => intro k σ r h; simp [evC] at h
  | label l => intro k σ r h; simp [evC] at h
  | goto l => intro k σ r h; simp [evC] at h
  | refuse s => intro k σ r h; simp [evC] at h
end
def resF (tmps : Array Value) : ResultVar → Sem Value
  | .tmp t => pure (tmps.getD t undef)
  | .cell a t => do loadVar t (← asAddr (tmps.getD a undef))
theorem resOne_run {σ : St} {rv : ResultVar} {x : AV} (h : resOne P σ rv = some x) {ρ : Rho} {a : Act} {w : World} (hM : MT ρ σ.τ a) (hL : ML ρ σ.L w) : ∃ u, aAt ρ x = some u ∧ (resF a.tmps rv).run P w = .ok u w := by
  cases rv with
  | tmp t =>
    simp only [resOne, Option.some.injEq] at h
    subst h
    exact ⟨_, getA_at hM t, rfl⟩
  | cell p t =>
    simp only [resOne] at h
    split at h
    · rename_i n off hp
      split at h
      · rename_i b hb
        have h1 := getA_at hM p
        rw [hp] at h1
        simp only [aAt, Option.map_eq_some_iff] at h1
        obtain ⟨c, hc, e⟩ := h1
        obtain ⟨vs, h2, h3⟩ := hL.blk n c b hc hb
        obtain ⟨u, h4, h5⟩ := run_loadVar_at h h2 h3
        refine ⟨u, h4, ?_⟩
        simp only [resF, ← e, asAddr, Sem.run_bind, Sem.run_pure, Result.andThen_ok, h5]
      · cases h
    · cases h
theorem resVals_run {σ : St} {ρ : Rho} {a : Act} {w : World} (hM : MT ρ σ.τ a) (hL : ML ρ σ.L w) : ∀ (l : List ResultVar) (vs : List Value), resVals P σ l = some vs → (l.mapM (resF a.tmps)).run P w = .ok vs w
  | [], vs, h => by simp [resVals] at h; subst h; simp
  | r :: l, vs, h => by
    unfold resVals at h
    split at h
    · rename_i x hx
      split at h
      · rename_i m hm
        simp only [Option.some.injEq] at h
        subst h
        obtain ⟨u, h1, h2⟩ := resOne_run hx hM hL
        simp only [aAt, Option.some.injEq] at h1
        subst h1
        have h3 := resVals_run hM hL l m hm
        simp [List.mapM_cons, h2, h3]
      · cases h
    · cases h
theorem resVals_length {σ : St} : ∀ (l : List ResultVar) (vs : List Value), resVals P σ l = some vs → vs.length = l.length
  | [], vs, h => by simp [resVals] at h; subst h; rfl
  | r :: l, vs, h => by
    unfold resVals at h
    split at h
    · split at h
      · rename_i m hm
        simp only [Option.some.injEq] at h
        subst h
        simp [resVals_length l m hm]
      · cases h
    · cases h
theorem results_run {fn : Func} {σ : St} {x : AV} (h : resA P σ fn.results.toList = some x) {ρ : Rho} {a : Act} {w : World} (hM : MT ρ σ.τ a) (hL : ML ρ σ.L w) : ∃ u, aAt ρ x = some u ∧ (results fn a.tmps).run P w = .ok u w := by
  have e : results fn a.tmps = (do
      let vs ← fn.results.mapM (resF a.tmps)
      pure (if h : vs.size = 1 then vs[0] else .tuple vs)) := by
    unfold results
    congr 1
  rw [e, Array.mapM_eq_mapM_toList]
  cases hl : fn.results.toList with
  | nil =>
    rw [hl] at h
    simp only [resA, resVals, Option.some.injEq] at h
    subst h
    exact ⟨_, rfl, by simp⟩
  | cons r l =>
    rw [hl] at h
    cases l with
    | nil =>
      simp only [resA] at h
      obtain ⟨u, h1, h2⟩ := resOne_run h hM hL
      exact ⟨u, h1, by simp [h2]⟩
    | cons r' l =>
      simp only [resA] at h
      split at h
      · rename_i vs hvs
        simp only [Option.some.injEq] at h
        subst h
        have h3 := resVals_run hM hL _ vs hvs
        have h4 := resVals_length _ vs hvs
        refine ⟨_, rfl, ?_⟩
        simp only [Sem.run_bind, Sem.run_map, h3, Sem.run_pure]
        simp [Result.andThen, h4]
      · cases h
def BookOk (P : Program) (O : Book) : Prop := ∀ g h, look O g = some h → ∀ args L b r L', h args L = some (b, r, L') → b = true → Runs P g args L r L'
theorem evF_sound {α : Type} {E : List (TypeId × Nat)} {C : List FuncId} {O : Book} (hm : P.follows .mixedOrders = true) (hE : ∀ e ∈ E, EqFit P e) (hC : ∀ g ∈ C, Callable P g) (hO : BookOk P O) (lim : Nat) : ∀ d, CallOk (α := α) P (evF P E C O lim d)
  | 0 => fun g args L nm k r h => by simp [evF] at h
  | d + 1 => fun g args L nm k r h => by
    unfold evF at h
    split at h
    · rename_i f hf
      split at h
      · rename_i b v L' hv
        cases b with
        | false => cases h
        | true => exact ⟨v, L', hO g f hf args L true v L' hv rfl, h⟩
      · cases h
    · split at h
      · rename_i fn hfn
        split at h
        · rename_i c hc
          obtain ⟨e, σ', h1, h2⟩ := evC_sound hm hE hC (evF_sound hm hE hC hO lim d) lim _ _ _ _ h
          have fin : (∀ i, e ≠ .ex i) → (match resA P σ' fn.results.toList with | some r => k r σ'.L | none => none) = some r → ∃ v L', Runs P g args L v L' ∧ k v L' = some r := fun hne hk => by
            split at hk
            · rename_i v hv
              refine ⟨v, σ'.L, ?_, hk⟩
              intro ρ w vs hvs hL
              refine calls_of_wp hfn hc ?_
              have hM : MT ρ (args ++ List.replicate (fn.ntmps - args.length) (.v undef)) { tmps := (⟨vs⟩ : Array Value) ++ Array.replicate (fn.ntmps - (⟨vs⟩ : Array Value).size) undef, defers := [] } := by
                refine ⟨rfl, ?_⟩
                have hl := asAt_length hvs
                have : ((⟨vs⟩ : Array Value) ++ Array.replicate (fn.ntmps - (⟨vs⟩ : Array Value).size) undef).toList = vs ++ List.replicate (fn.ntmps - args.length) undef := by
                  simp [hl]
                rw [this]
                exact asAt_append hvs (asAt_replicate _ _)
              refine wp_mono (h2 ρ _ w hM hL) fun e' a' w' hp => ?_
              obtain ⟨h5, ρ', g1, g2, g3⟩ := hp
              obtain ⟨u, h6, h7⟩ := results_run hv g2 g3
              subst h5
              cases e with
              | norm => exact ⟨g2.1, u, h7, u, ρ', rfl, g1, h6, g3⟩
              | ret => exact ⟨g2.1, u, h7, u, ρ', rfl, g1, h6, g3⟩
              | ex i => exact absurd rfl (hne i)
            · cases hk
          cases e with
          | norm => exact fin (by simp) h1
          | ret => exact fin (by simp) h1
          | ex i => simp at h1
        · cases h
      · cases h
end
end Ev
end Go.Proofs.YtfilgpifiboccaaGreat
namespace Go.Proofs.YtfilgpifiboccaaGreat
namespace Ev
open Go.RowKit
section
variable {P : Program}
/-- Whatever the memory, the call returns V and leaves all that was there. -/
def Gives (P : Program) (g : FuncId) (vs : List Value) (V : Value) : Prop := ∀ w, Calls P g ⟨vs⟩ w fun e w' => e = .returned V ∧ Below w.heap.size w w'
def last (r : AV) (_ : Loc) : Option AV := some r
theorem ML_empty (w : World) : ML (fun _ => none) [] w := ⟨fun n => rfl, fun n b k q => (by cases q), fun n m b q => (by cases q)⟩
theorem runs_gives {g : FuncId} {vs : List Value} {V : Value} {L' : Loc} (h : Runs P g (vs.map AV.v) [] (.v V) L') : Gives P g vs V := by
  intro w
  refine (h (fun _ => none) w vs (asAt_mapV vs) (ML_empty w)).mono ?_
  rintro e w' ⟨v, ρ', rfl, hN, hv, _⟩
  simp only [aAt, Option.some.injEq] at hv
  subst hv
  exact ⟨rfl, hN.os, hN.tape, hN.output, hN.size, fun k hk => hN.old k hk fun n q => by cases q⟩
theorem gives_runs {g : FuncId} {vs : List Value} {V : Value} (h : Gives P g vs V) : Runs P g (vs.map AV.v) [] (.v V) [] := by
  intro ρ w us hu hL
  rw [asAt_mapV] at hu
  cases hu
  refine (h w).mono ?_
  rintro e w' ⟨rfl, hb⟩
  have hn : ∀ n, ρ n = none := fun n => by
    have := hL.dom n
    simp only [get, Option.isSome_none] at this
    cases hq : ρ n with
    | none => rfl
    | some b => rw [hq] at this; cases this
  exact ⟨V, ρ, rfl, ⟨Ext.refl ρ, hb.os, hb.tape, hb.output, hb.size, fun k hk _ => hb.block k hk, fun n b q q' => by rw [q'] at q; cases q⟩, rfl,
    ⟨hL.dom, fun n b k q => (by rw [hn n] at q; cases q), fun n m b q => (by rw [hn n] at q; cases q)⟩⟩
theorem evF_gives {E : List (TypeId × Nat)} {C : List FuncId} {O : Book} (hm : P.follows .mixedOrders = true) (hE : ∀ e ∈ E, EqFit P e) (hC : ∀ g ∈ C, Callable P g) (hO : BookOk P O) {lim d : Nat} {g : FuncId} {vs : List Value} {nm : Nm} {V : Value}
    (h : evF P E C O lim d g (vs.map AV.v) [] nm last = some (.v V)) : Gives P g vs V := by
  obtain ⟨v, L', h1, h2⟩ := evF_sound hm hE hC hO lim d g _ _ _ _ _ h
  simp only [last, Option.some.injEq] at h2
  subst h2
  exact runs_gives h1
theorem runs_one {g : FuncId} {us vs : List Value} {off : Nat} {k : Blk} {V : Value} {L' : Loc} {cs : List Value} {k' : Blk} (h : Runs P g (us.map AV.v ++ .p [] off :: vs.map AV.v) [([], k)] (.v V) L') (hk : nmsC k.cells = [])
    (hg : get L' [] = some k') (hc : allV k'.cells = some cs) (n : Nm) : Runs P g (us.map AV.v ++ .p n off :: vs.map AV.v) [(n, k)] (.v V) [(n, ⟨cs.map CV.v, k'.ty⟩)] := by
  intro ρ w zs hz hL
  have hρn : ∃ b, ρ n = some b := by
    have := hL.dom n
    rw [get_cons, if_pos rfl] at this
    cases hq : ρ n with
    | none => rw [hq] at this; cases this
    | some b => exact ⟨b, rfl⟩
  obtain ⟨b, hb⟩ := hρn
  obtain ⟨xs, q1, q2⟩ := hL.blk n b k hb (by rw [get_cons, if_pos rfl])
  have hML : ML (fun m => if m = [] then some b else none) [([], k)] w := by
    refine ⟨fun m => ?_, fun m c l q hg => ?_, fun m m' c q q' => ?_⟩
    · rw [get_cons]
      by_cases e : m = []
      · subst e; simp
      · have e' : ¬ [] = m := fun q => e q.symm
        simp [e, e', get]
    · (try dsimp only at q)
      split at q
      · rename_i e
        subst e
        cases q
        rw [get_cons, if_pos rfl] at hg
        cases hg
        refine ⟨xs, ?_, q2⟩
        have := csAt_cut (ρ := ρ) (ks := []) (l := k.cells) (vs := xs) (by rw [hk]; rfl) q1
        exact csAt_ext (fun m c q => by have := (cut_some q).1; simp [has] at this) this
      · cases q
    · (try dsimp only at q q')
      split at q <;> split at q'
      · rename_i e e'; rw [e, e']
      · cases q'
      · cases q
      · cases q
  have hz' : asAt (fun m : Nm => if m = [] then some b else none) (us.map AV.v ++ .p [] off :: vs.map AV.v) = some zs := by
    have h1 : asAt ρ (us.map AV.v ++ .p n off :: vs.map AV.v) = some (us ++ .pointer (some ⟨b, off, none⟩) :: vs) :=
      asAt_append (asAt_mapV us) (by simp [asAt, aAt, hb, asAt_mapV])
    rw [h1] at hz
    cases hz
    exact asAt_append (asAt_mapV us) (by simp [asAt, aAt, asAt_mapV])
  refine (h _ w zs hz' hML).mono ?_
  rintro e w' ⟨v, ρ', rfl, hN, hv, hM'⟩
  have hr : ρ' [] = some b := hN.ext [] b (by simp)
  obtain ⟨ys, p1, p2⟩ := hM'.blk [] b k' hr hg
  have hys : ys = cs := by
    have := allV_at (ρ := ρ') hc
    rw [p1] at this
    exact Option.some.inj this
  subst hys
  refine ⟨v, ρ, rfl, ⟨Ext.refl ρ, hN.os, hN.tape, hN.output, hN.size, fun j hj hn => hN.old j hj fun m q => ?_, fun m c q q' => by rw [q'] at q; cases q⟩, hv, ⟨fun m => ?_, fun m c l q hg' => ?_, hL.inj⟩⟩
  · (try dsimp only at q)
    split at q
    · cases q
      exact hn n hb
    · cases q
  · have := hL.dom m
    rw [get_cons] at this ⊢
    by_cases e : n = m
    · rw [if_pos e] at this ⊢; exact this
    · rw [if_neg e] at this ⊢; exact this
  · rw [get_cons] at hg'
    split at hg'
    · rename_i e
      cases hg'
      subst e
      rw [hb] at q
      cases q
      exact ⟨ys, csAt_mapV ys, p2⟩
    · cases hg'
theorem bookOk_nil : BookOk P [] := fun g h q => by simp [look] at q
theorem bookOk_cons {g : FuncId} {h : Ent} {O : Book} (h1 : ∀ args L b r L', h args L = some (b, r, L') → b = true → Runs P g args L r L') (h2 : BookOk P O) : BookOk P ((g, h) :: O) := fun f h' q => by
  unfold look at q
  cases e : Nat.beq g f with
  | true =>
    rw [e] at q
    simp only [cond_true, Option.some.injEq] at q
    subst q
    have : g = f := Nat.eq_of_beq_eq_true e
    subst this
    exact h1
  | false =>
    rw [e] at q
    exact h2 f h' q
theorem callable_of {g : FuncId} {fn : Func} (hf : P.funcs[g]? = some fn) (hn : (fn.name == "runtime.NumGoroutine") = false) (hb : fn.body.isNone = false) : Callable P g := by
  intro args w
  have hb' : ¬ fn.body = none := fun e => by rw [e] at hb; cases hb
  have hn' : ¬ fn.name = "runtime.NumGoroutine" := fun e => by rw [e] at hn; simp at hn
  simp [callFunc, hf, hn', hb']
end
def lt {α β : Type} (a : α) (f : α → β) : β := f a
theorem case_cond {α β : Type} {b : Bool} {X Y : Option α} {x y : β} (g : β → α) (h1 : X = some (g x)) (h2 : Y = some (g y)) : cond b X Y = some (g (cond b x y)) := by cases b <;> assumption
theorem case_lt {α β γ : Type} {a : γ} {X : γ → Option α} {x : γ → β} (g : β → α) (h : ∀ c, X c = some (g (x c))) : lt a X = some (g (lt a x)) := h a
/-- What a call does that is handed one variable of one integer (a chain's first error), and values. -/
def Mods (P : Program) (g : FuncId) (ty : TypeId) (c : Int) (vs : List Value) (V : Value) (c' : Int) : Prop :=
  ∀ n, Runs P g (.p n 0 :: vs.map AV.v) [(n, ⟨[.v (.int .i64 c)], ty⟩)] (.v V) [(n, ⟨[.v (.int .i64 c')], ty⟩)]
def lastC (r : AV) (L : Loc) : Option (AV × Blk) :=
  match get L [] with
  | some b => some (r, b)
  | none => none
theorem evF_mods {P : Program} {E : List (TypeId × Nat)} {C : List FuncId} {O : Book} (hm : P.follows .mixedOrders = true) (hE : ∀ e ∈ E, EqFit P e) (hC : ∀ g ∈ C, Callable P g) (hO : BookOk P O) {lim d : Nat} {g : FuncId} {vs : List Value} {nm : Nm} {V : Value} {ty : TypeId} {c c' : Int}
    (h : evF P E C O lim d g (.p [] 0 :: vs.map AV.v) [([], ⟨[.v (.int .i64 c)], ty⟩)] nm lastC = some (.v V, ⟨[.v (.int .i64 c')], ty⟩)) : Mods P g ty c vs V c' := by
  intro n
  obtain ⟨v, L', h1, h2⟩ := evF_sound hm hE hC hO lim d g _ _ _ _ _ h
  unfold lastC at h2
  split at h2
  · rename_i b hb
    simp only [Option.some.injEq, Prod.mk.injEq] at h2
    obtain ⟨rfl, rfl⟩ := h2
    exact runs_one (us := []) (vs := vs) (cs := [.int .i64 c']) h1 rfl hb rfl n
  · cases h2
/-- The first error that is not 0. -/
def keepE (c e : Int) : Int := if c = 0 then e else c
/-! What stands already, as entries. Named after what the arguments are: p (a pair of integers), i (an integer). -/
section
variable {P : Program} {g : FuncId}
def e0 (F : Value) : Ent
  | [], [] => some (true, .v F, [])
  | _, _ => none
theorem e0_ok {F : Value} (h : Gives P g [] F) (args : List AV) (L : Loc) (z : Bool) (r : AV) (L' : Loc) (q : e0 F args L = some (z, r, L')) (_ : z = true) : Runs P g args L r L' := by
  unfold e0 at q
  split at q
  · cases q
    exact gives_runs h
  · cases q
def eP (F : Int → Int → Value) : Ent
  | [.v (.agg ⟨[.int .i64 a, .int .i64 b]⟩)], [] => some (true, .v (F a b), [])
  | _, _ => none
theorem eP_ok {F : Int → Int → Value} (h : ∀ a b, Gives P g [.agg ⟨[.int .i64 a, .int .i64 b]⟩] (F a b)) (args : List AV) (L : Loc) (z : Bool) (r : AV) (L' : Loc) (q : eP F args L = some (z, r, L')) (_ : z = true) : Runs P g args L r L' := by
  unfold eP at q
  split at q
  · cases q
    exact gives_runs (h _ _)
  · cases q
def ePif (p : Int → Int → Bool) (F : Int → Int → Value) : Ent
  | [.v (.agg ⟨[.int .i64 a, .int .i64 b]⟩)], [] => some (p a b, .v (F a b), [])
  | _, _ => none
theorem ePif_ok {p : Int → Int → Bool} {F : Int → Int → Value} (h : ∀ a b, p a b = true → Gives P g [.agg ⟨[.int .i64 a, .int .i64 b]⟩] (F a b)) (args : List AV) (L : Loc) (z : Bool) (r : AV) (L' : Loc) (q : ePif p F args L = some (z, r, L')) (hz : z = true) : Runs P g args L r L' := by
  unfold ePif at q
  split at q
  · cases q
    exact gives_runs (h _ _ hz)
  · cases q
def ePP (F : Int → Int → Int → Int → Value) : Ent
  | [.v (.agg ⟨[.int .i64 a, .int .i64 b]⟩), .v (.agg ⟨[.int .i64 c, .int .i64 d]⟩)], [] => some (true, .v (F a b c d), [])
  | _, _ => none
theorem ePP_ok {F : Int → Int → Int → Int → Value} (h : ∀ a b c d, Gives P g [.agg ⟨[.int .i64 a, .int .i64 b]⟩, .agg ⟨[.int .i64 c, .int .i64 d]⟩] (F a b c d)) (args : List AV) (L : Loc) (z : Bool) (r : AV) (L' : Loc) (q : ePP F args L = some (z, r, L')) (_ : z = true) : Runs P g args L r L' := by
  unfold ePP at q
  split at q
  · cases q
    exact gives_runs (h _ _ _ _)
  · cases q
def ePPif (p : Int → Int → Int → Int → Bool) (F : Int → Int → Int → Int → Value) : Ent
  | [.v (.agg ⟨[.int .i64 a, .int .i64 b]⟩), .v (.agg ⟨[.int .i64 c, .int .i64 d]⟩)], [] => some (p a b c d, .v (F a b c d), [])
  | _, _ => none
theorem ePPif_ok {p : Int → Int → Int → Int → Bool} {F : Int → Int → Int → Int → Value} (h : ∀ a b c d, p a b c d = true → Gives P g [.agg ⟨[.int .i64 a, .int .i64 b]⟩, .agg ⟨[.int .i64 c, .int .i64 d]⟩] (F a b c d)) (args : List AV) (L : Loc) (z : Bool) (r : AV) (L' : Loc) (q : ePPif p F args L = some (z, r, L')) (hz : z = true) : Runs P g args L r L' := by
  unfold ePPif at q
  split at q
  · cases q
    exact gives_runs (h _ _ _ _ hz)
  · cases q
def eI (F : Int → Value) : Ent
  | [.v (.int .i64 a)], [] => some (true, .v (F a), [])
  | _, _ => none
theorem eI_ok {F : Int → Value} (h : ∀ a, Gives P g [.int .i64 a] (F a)) (args : List AV) (L : Loc) (z : Bool) (r : AV) (L' : Loc) (q : eI F args L = some (z, r, L')) (_ : z = true) : Runs P g args L r L' := by
  unfold eI at q
  split at q
  · cases q
    exact gives_runs (h _)
  · cases q
def eII (F : Int → Int → Value) : Ent
  | [.v (.int .i64 a), .v (.int .i64 b)], [] => some (true, .v (F a b), [])
  | _, _ => none
theorem eII_ok {F : Int → Int → Value} (h : ∀ a b, Gives P g [.int .i64 a, .int .i64 b] (F a b)) (args : List AV) (L : Loc) (z : Bool) (r : AV) (L' : Loc) (q : eII F args L = some (z, r, L')) (_ : z = true) : Runs P g args L r L' := by
  unfold eII at q
  split at q
  · cases q
    exact gives_runs (h _ _)
  · cases q
def eIIif (p : Int → Int → Bool) (F : Int → Int → Value) : Ent
  | [.v (.int .i64 a), .v (.int .i64 b)], [] => some (p a b, .v (F a b), [])
  | _, _ => none
theorem eIIif_ok {p : Int → Int → Bool} {F : Int → Int → Value} (h : ∀ a b, p a b = true → Gives P g [.int .i64 a, .int .i64 b] (F a b)) (args : List AV) (L : Loc) (z : Bool) (r : AV) (L' : Loc) (q : eIIif p F args L = some (z, r, L')) (hz : z = true) : Runs P g args L r L' := by
  unfold eIIif at q
  split at q
  · cases q
    exact gives_runs (h _ _ hz)
  · cases q
def ePI (F : Int → Int → Int → Value) : Ent
  | [.v (.agg ⟨[.int .i64 a, .int .i64 b]⟩), .v (.int .i64 c)], [] => some (true, .v (F a b c), [])
  | _, _ => none
theorem ePI_ok {F : Int → Int → Int → Value} (h : ∀ a b c, Gives P g [.agg ⟨[.int .i64 a, .int .i64 b]⟩, .int .i64 c] (F a b c)) (args : List AV) (L : Loc) (z : Bool) (r : AV) (L' : Loc) (q : ePI F args L = some (z, r, L')) (_ : z = true) : Runs P g args L r L' := by
  unfold ePI at q
  split at q
  · cases q
    exact gives_runs (h _ _ _)
  · cases q
def ePII (F : Int → Int → Int → Int → Value) : Ent
  | [.v (.agg ⟨[.int .i64 a, .int .i64 b]⟩), .v (.int .i64 c), .v (.int .i64 d)], [] => some (true, .v (F a b c d), [])
  | _, _ => none
theorem ePII_ok {F : Int → Int → Int → Int → Value} (h : ∀ a b c d, Gives P g [.agg ⟨[.int .i64 a, .int .i64 b]⟩, .int .i64 c, .int .i64 d] (F a b c d)) (args : List AV) (L : Loc) (z : Bool) (r : AV) (L' : Loc) (q : ePII F args L = some (z, r, L')) (_ : z = true) : Runs P g args L r L' := by
  unfold ePII at q
  split at q
  · cases q
    exact gives_runs (h _ _ _ _)
  · cases q
def ePIIif (p : Int → Int → Int → Int → Bool) (F : Int → Int → Int → Int → Value) : Ent
  | [.v (.agg ⟨[.int .i64 a, .int .i64 b]⟩), .v (.int .i64 c), .v (.int .i64 d)], [] => some (p a b c d, .v (F a b c d), [])
  | _, _ => none
theorem ePIIif_ok {p : Int → Int → Int → Int → Bool} {F : Int → Int → Int → Int → Value} (h : ∀ a b c d, p a b c d = true → Gives P g [.agg ⟨[.int .i64 a, .int .i64 b]⟩, .int .i64 c, .int .i64 d] (F a b c d)) (args : List AV) (L : Loc) (z : Bool) (r : AV) (L' : Loc) (q : ePIIif p F args L = some (z, r, L')) (hz : z = true) : Runs P g args L r L' := by
  unfold ePIIif at q
  split at q
  · cases q
    exact gives_runs (h _ _ _ _ hz)
  · cases q
def eT (F : Int → Int → Int → Int → Int → Int → Value) : Ent
  | [.v (.agg ⟨[.int .i64 a, .int .i64 b, .int .i64 c, .int .i64 d, .int .i64 e, .int .i64 f]⟩)], [] => some (true, .v (F a b c d e f), [])
  | _, _ => none
theorem eT_ok {F : Int → Int → Int → Int → Int → Int → Value} (h : ∀ a b c d e f, Gives P g [.agg ⟨[.int .i64 a, .int .i64 b, .int .i64 c, .int .i64 d, .int .i64 e, .int .i64 f]⟩] (F a b c d e f)) (args : List AV) (L : Loc) (z : Bool) (r : AV) (L' : Loc) (q : eT F args L = some (z, r, L')) (_ : z = true) : Runs P g args L r L' := by
  unfold eT at q
  split at q
  · cases q
    exact gives_runs (h _ _ _ _ _ _)
  · cases q
def eTP (F : Int → Int → Int → Int → Int → Int → Int → Int → Value) : Ent
  | [.v (.agg ⟨[.int .i64 a, .int .i64 b, .int .i64 c, .int .i64 d, .int .i64 e, .int .i64 f]⟩), .v (.agg ⟨[.int .i64 u, .int .i64 v]⟩)], [] => some (true, .v (F a b c d e f u v), [])
  | _, _ => none
theorem eTP_ok {F : Int → Int → Int → Int → Int → Int → Int → Int → Value} (h : ∀ a b c d e f u v, Gives P g [.agg ⟨[.int .i64 a, .int .i64 b, .int .i64 c, .int .i64 d, .int .i64 e, .int .i64 f]⟩, .agg ⟨[.int .i64 u, .int .i64 v]⟩] (F a b c d e f u v)) (args : List AV) (L : Loc) (z : Bool) (r : AV) (L' : Loc) (q : eTP F args L = some (z, r, L')) (_ : z = true) : Runs P g args L r L' := by
  unfold eTP at q
  split at q
  · cases q
    exact gives_runs (h _ _ _ _ _ _ _ _)
  · cases q
def ePPP (F : Int → Int → Int → Int → Int → Int → Value) : Ent
  | [.v (.agg ⟨[.int .i64 a, .int .i64 b]⟩), .v (.agg ⟨[.int .i64 c, .int .i64 d]⟩), .v (.agg ⟨[.int .i64 e, .int .i64 f]⟩)], [] => some (true, .v (F a b c d e f), [])
  | _, _ => none
theorem ePPP_ok {F : Int → Int → Int → Int → Int → Int → Value} (h : ∀ a b c d e f, Gives P g [.agg ⟨[.int .i64 a, .int .i64 b]⟩, .agg ⟨[.int .i64 c, .int .i64 d]⟩, .agg ⟨[.int .i64 e, .int .i64 f]⟩] (F a b c d e f)) (args : List AV) (L : Loc) (z : Bool) (r : AV) (L' : Loc) (q : ePPP F args L = some (z, r, L')) (_ : z = true) : Runs P g args L r L' := by
  unfold ePPP at q
  split at q
  · cases q
    exact gives_runs (h _ _ _ _ _ _)
  · cases q
def ePPPif (p : Int → Int → Int → Int → Int → Int → Bool) (F : Int → Int → Int → Int → Int → Int → Value) : Ent
  | [.v (.agg ⟨[.int .i64 a, .int .i64 b]⟩), .v (.agg ⟨[.int .i64 c, .int .i64 d]⟩), .v (.agg ⟨[.int .i64 e, .int .i64 f]⟩)], [] => some (p a b c d e f, .v (F a b c d e f), [])
  | _, _ => none
theorem ePPPif_ok {p : Int → Int → Int → Int → Int → Int → Bool} {F : Int → Int → Int → Int → Int → Int → Value} (h : ∀ a b c d e f, p a b c d e f = true → Gives P g [.agg ⟨[.int .i64 a, .int .i64 b]⟩, .agg ⟨[.int .i64 c, .int .i64 d]⟩, .agg ⟨[.int .i64 e, .int .i64 f]⟩] (F a b c d e f)) (args : List AV) (L : Loc) (z : Bool) (r : AV) (L' : Loc) (q : ePPPif p F args L = some (z, r, L')) (hz : z = true) : Runs P g args L r L' := by
  unfold ePPPif at q
  split at q
  · cases q
    exact gives_runs (h _ _ _ _ _ _ hz)
  · cases q
def cP (ty : TypeId) (F : Int → Int → Value) (G : Int → Int → Int → Int) : Ent
  | [.p n 0, .v (.agg ⟨[.int .i64 a, .int .i64 b]⟩)], [(m, ⟨[.v (.int .i64 k)], t⟩)] => cond (nmEq n m && Nat.beq t ty) (some (true, .v (F a b), [(m, ⟨[.v (.int .i64 (G k a b))], t⟩)])) none
  | _, _ => none
theorem cP_ok {ty : TypeId} {F : Int → Int → Value} {G : Int → Int → Int → Int} (h : ∀ k a b, Mods P g ty k [.agg ⟨[.int .i64 a, .int .i64 b]⟩] (F a b) (G k a b)) (args : List AV) (L : Loc) (z : Bool) (r : AV) (L' : Loc) (q : cP ty F G args L = some (z, r, L')) (_ : z = true) : Runs P g args L r L' := by
  unfold cP at q
  split at q
  · rename_i n a b m k t
    cases hc : (nmEq n m && Nat.beq t ty) with
    | false => rw [hc] at q; cases q
    | true =>
      rw [hc] at q
      simp only [cond_true, Option.some.injEq, Prod.mk.injEq] at q
      obtain ⟨_, rfl, rfl⟩ := q
      simp only [Bool.and_eq_true] at hc
      have e1 := nmEq_iff.1 hc.1
      have e2 : t = ty := Nat.eq_of_beq_eq_true hc.2
      subst e1 e2
      exact h k a b n
  · cases q
def cPP (ty : TypeId) (F : Int → Int → Int → Int → Value) (G : Int → Int → Int → Int → Int → Int) : Ent
  | [.p n 0, .v (.agg ⟨[.int .i64 a, .int .i64 b]⟩), .v (.agg ⟨[.int .i64 c, .int .i64 d]⟩)], [(m, ⟨[.v (.int .i64 k)], t⟩)] => cond (nmEq n m && Nat.beq t ty) (some (true, .v (F a b c d), [(m, ⟨[.v (.int .i64 (G k a b c d))], t⟩)])) none
  | _, _ => none
theorem cPP_ok {ty : TypeId} {F : Int → Int → Int → Int → Value} {G : Int → Int → Int → Int → Int → Int} (h : ∀ k a b c d, Mods P g ty k [.agg ⟨[.int .i64 a, .int .i64 b]⟩, .agg ⟨[.int .i64 c, .int .i64 d]⟩] (F a b c d) (G k a b c d)) (args : List AV) (L : Loc) (z : Bool) (r : AV) (L' : Loc) (q : cPP ty F G args L = some (z, r, L')) (_ : z = true) : Runs P g args L r L' := by
  unfold cPP at q
  split at q
  · rename_i n a b c d m k t
    cases hc : (nmEq n m && Nat.beq t ty) with
    | false => rw [hc] at q; cases q
    | true =>
      rw [hc] at q
      simp only [cond_true, Option.some.injEq, Prod.mk.injEq] at q
      obtain ⟨_, rfl, rfl⟩ := q
      simp only [Bool.and_eq_true] at hc
      have e1 := nmEq_iff.1 hc.1
      have e2 : t = ty := Nat.eq_of_beq_eq_true hc.2
      subst e1 e2
      exact h k a b c d n
  · cases q
def cPI (ty : TypeId) (F : Int → Int → Int → Value) (G : Int → Int → Int → Int → Int) : Ent
  | [.p n 0, .v (.agg ⟨[.int .i64 a, .int .i64 b]⟩), .v (.int .i64 e)], [(m, ⟨[.v (.int .i64 k)], t⟩)] => cond (nmEq n m && Nat.beq t ty) (some (true, .v (F a b e), [(m, ⟨[.v (.int .i64 (G k a b e))], t⟩)])) none
  | _, _ => none
theorem cPI_ok {ty : TypeId} {F : Int → Int → Int → Value} {G : Int → Int → Int → Int → Int} (h : ∀ k a b e, Mods P g ty k [.agg ⟨[.int .i64 a, .int .i64 b]⟩, .int .i64 e] (F a b e) (G k a b e)) (args : List AV) (L : Loc) (z : Bool) (r : AV) (L' : Loc) (q : cPI ty F G args L = some (z, r, L')) (_ : z = true) : Runs P g args L r L' := by
  unfold cPI at q
  split at q
  · rename_i n a b e m k t
    cases hc : (nmEq n m && Nat.beq t ty) with
    | false => rw [hc] at q; cases q
    | true =>
      rw [hc] at q
      simp only [cond_true, Option.some.injEq, Prod.mk.injEq] at q
      obtain ⟨_, rfl, rfl⟩ := q
      simp only [Bool.and_eq_true] at hc
      have e1 := nmEq_iff.1 hc.1
      have e2 : t = ty := Nat.eq_of_beq_eq_true hc.2
      subst e1 e2
      exact h k a b e n
  · cases q
def cPII (ty : TypeId) (F : Int → Int → Int → Int → Value) (G : Int → Int → Int → Int → Int → Int) : Ent
  | [.p n 0, .v (.agg ⟨[.int .i64 a, .int .i64 b]⟩), .v (.int .i64 e), .v (.int .i64 f)], [(m, ⟨[.v (.int .i64 k)], t⟩)] => cond (nmEq n m && Nat.beq t ty) (some (true, .v (F a b e f), [(m, ⟨[.v (.int .i64 (G k a b e f))], t⟩)])) none
  | _, _ => none
theorem cPII_ok {ty : TypeId} {F : Int → Int → Int → Int → Value} {G : Int → Int → Int → Int → Int → Int} (h : ∀ k a b e f, Mods P g ty k [.agg ⟨[.int .i64 a, .int .i64 b]⟩, .int .i64 e, .int .i64 f] (F a b e f) (G k a b e f)) (args : List AV) (L : Loc) (z : Bool) (r : AV) (L' : Loc) (q : cPII ty F G args L = some (z, r, L')) (_ : z = true) : Runs P g args L r L' := by
  unfold cPII at q
  split at q
  · rename_i n a b e f m k t
    cases hc : (nmEq n m && Nat.beq t ty) with
    | false => rw [hc] at q; cases q
    | true =>
      rw [hc] at q
      simp only [cond_true, Option.some.injEq, Prod.mk.injEq] at q
      obtain ⟨_, rfl, rfl⟩ := q
      simp only [Bool.and_eq_true] at hc
      have e1 := nmEq_iff.1 hc.1
      have e2 : t = ty := Nat.eq_of_beq_eq_true hc.2
      subst e1 e2
      exact h k a b e f n
  · cases q
end
end Ev
end Go.Proofs.YtfilgpifiboccaaGreat
