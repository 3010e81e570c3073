/-
  The run of cells.cover at the example's region. The run of cells.cellOf at the example's numbers. The run of cells.tidy at the example's spans. The run of cells.ValidRegion at the example's region..
-/
import Derived.Test.YtajpgkpdhcbngaaGreatDoorU19
import Derived.Test.YtajpgkpdhcbngaaGreatDoorYf
import Derived.RangeFuncNested
import Derived.RangeFuncBound
import Derived.RangeFuncCalls
import Derived.RangeFuncLeaves
import Derived.Shelf.Abstract
import Derived.Shelf.RegionOpen
import Derived.WalkKit
import Derived.OwnWalkIn
import Derived.TacticsInMore
import Derived.LoopNIn
import Derived.LoopIn
import Derived.Lib.Hide
import Derived.Test.YtajpgkpdhcbngaaGreatDoorW30
import Derived.Test.YtajpgkpdhcbngaaGreatDoorU18
set_option maxRecDepth 100000
set_option maxHeartbeats 4000000
open Go.RowKit.Below renaming heap_alloc→ahX,refl→aeX
open Go.Lib renaming hid→aaX
open _root_.List renaming cons_append→auJ
open _root_.Nat renaming le_refl→aaJ,le_trans→ahJ
open _root_.Option renaming bind_some→awQ,some→afZ
open Go.Proofs.Tryz renaming prog→aaZ
open Go.World renaming alloc_heap_new→amZ,putObj_heap_other→anQ,size_alloc→agZ
namespace Go.Proofs.YtajpgkpdhcbngaaGreatDoor
noncomputable section
section
open Ev
theorem cov30:fI aaZ 241 [.o [] 3 0 30] [([],⟨gR mN,1000197⟩)] (.o [3,305] 2 0 20) [([3,305],⟨gR OP,270⟩),([],⟨gR mN,1000197⟩)]:=nC (d:=30) (lim:=100) yC rN (by kernel_rfl)
end
section
open Ev
def cofT:List (Int×Int×Int×Int):=[(127,4,7,15),(213,4,8,15),(215,4,9,15),(221,4,10,15),(223,4,11,15),(245,4,12,15),(298,4,7,16),(299,4,7,17),(302,4,7,18),(303,4,7,19),(314,4,7,20),(315,4,7,21),(318,4,7,22),(319,4,7,23),(362,4,7,24),(24,2,2,4),(25,2,2,5),(416,4,12,16),(417,4,12,17),(420,4,12,18),(421,4,12,19),(432,4,12,20),(433,4,12,21),(436,4,12,22),(437,4,12,23),(448,4,8,24),(450,4,9,24),(456,4,10,24),(458,4,11,24),(480,4,12,24)]
def cofP (a b:Int):Bool:=cofT.any fun e=>e.1==a&&e.2.1==b
def cofG:List (Int×Int×Int×Int)→Int→Int→Int×Int×Int
 | [],_,_=>(0,0,0)
 | e::l,a,b=>cond (e.1==a&&e.2.1==b) (e.2.1,e.2.2.1,e.2.2.2) (cofG l a b)
def cofR (e:Int×Int×Int×Int):Option AV:=evF aaZ [] Cs [] 20 6 259 [.v (.int .i64 e.1),.v (.int .i64 e.2.1)] [] [] YF
theorem cof_run:∀e∈cofT,cofR e=some (.v (celV (e.2.1,e.2.2.1,e.2.2.2))):=by
 intro e he;simp only [cofT,List.mem_cons,List.not_mem_nil,or_false] at he;rcases he with rfl | rfl | rfl | rfl | rfl | rfl | rfl | rfl | rfl | rfl | rfl | rfl | rfl | rfl | rfl | rfl | rfl | rfl | rfl | rfl | rfl | rfl | rfl | rfl | rfl | rfl | rfl | rfl | rfl | rfl
 ·kernel_rfl
 ·kernel_rfl
 ·kernel_rfl
 ·kernel_rfl
 ·kernel_rfl
 ·kernel_rfl
 ·kernel_rfl
 ·kernel_rfl
 ·kernel_rfl
 ·kernel_rfl
 ·kernel_rfl
 ·kernel_rfl
 ·kernel_rfl
 ·kernel_rfl
 ·kernel_rfl
 ·kernel_rfl
 ·kernel_rfl
 ·kernel_rfl
 ·kernel_rfl
 ·kernel_rfl
 ·kernel_rfl
 ·kernel_rfl
 ·kernel_rfl
 ·kernel_rfl
 ·kernel_rfl
 ·kernel_rfl
 ·kernel_rfl
 ·kernel_rfl
 ·kernel_rfl
 ·kernel_rfl
theorem cofG_at:∀(l:List (Int×Int×Int×Int)) (a b:Int),(l.any fun e=>e.1==a&&e.2.1==b)=true→∃e∈l,e.1=a∧e.2.1=b∧cofG l a b=(e.2.1,e.2.2.1,e.2.2.2)
 | [],_,_,h=>by simp at h
 | e::l,a,b,h=>by
  unfold cofG;cases hb:(e.1==a&&e.2.1==b) with
  | true=>
   have:=hb;rw [Bool.and_eq_true] at this;exact ⟨e,List.mem_cons_self,eq_of_beq this.1,eq_of_beq this.2,rfl⟩
  | false=>
   rw [List.any_cons,hb] at h;obtain ⟨e',h1,h2,h3,h4⟩:=cofG_at l a b h;exact ⟨e',List.mem_cons_of_mem _ h1,h2,h3,h4⟩
theorem cof_gives (a b:Int) (h:cofP a b=true):aH aaZ 259 [.int .i64 a,.int .i64 b] (celV (cofG cofT a b)):=by
 obtain ⟨e,h1,rfl,rfl,h4⟩:=cofG_at cofT a b h;rw [h4];exact BR (vs:=[.int .i64 e.1,.int .i64 e.2.1]) mixed bK GF fE (cof_run e h1)
def bkT:bJ:=(259,tE cofP fun a b=>celV (cofG cofT a b))::bkA
theorem bkT_ok:aJ aaZ bkT:=aA (kM cof_gives) rN
end
section
open Ev
theorem tid30:fI aaZ 240 [.o [] 2 0 20] [([],⟨gR OP,270⟩)] (.t [.o [8,1804] 3 0 30,.v (.bool true)]) [([8,1804],⟨gR mN,197⟩),([],⟨gR OP,270⟩)]:=nC (d:=30) (lim:=100) yC bkT_ok (by kernel_rfl)
end
section
open Ev
def ch4:xI:=[(241,litE 3 30 mN 1000197 (.o [3,305] 2 0 20) [([3,305],⟨gR OP,270⟩),([],⟨gR mN,1000197⟩)]),(240,litE 2 20 OP 270 (.t [.o [8,1804] 3 0 30,.v (.bool true)]) [([8,1804],⟨gR mN,197⟩),([],⟨gR OP,270⟩)])]
theorem ch4_ok:oA aaZ ch4:=oQ (FV cov30) (oQ (FV tid30) BH)
theorem val30:fI aaZ 210 [.o [] 3 0 30] [([],⟨gR mN,1000197⟩)] (.v (.bool true)) [([],⟨gR mN,1000197⟩)]:=nC (d:=30) (lim:=100) ch4_ok rN (by kernel_rfl)
def ch5:xI:=(210,litE 3 30 mN 1000197 (.v (.bool true)) [([],⟨gR mN,1000197⟩)])::ch2
theorem ch5_ok:oA aaZ ch5:=oQ (FV val30) yC
end
section
open Ev
theorem of30:fI aaZ 144 [.s [7] 0 1 1,.o [] 3 0 30,intA 4] [([7],⟨gR uB,1000050⟩),([],⟨gR mN,1000197⟩)] (.t [.o [3,50,4,124,3,3] 3 0 10,.v (.int .i64 0)]) [([3,50,4,124,3,3],⟨gR tH,197⟩),([7],⟨gR uB,1000050⟩),([],⟨gR mN,1000197⟩)]:=nC (d:=30) (lim:=100) ch5_ok rN (by kernel_rfl)
end
section
open Ev
theorem val10:fI aaZ 210 [.o [] 3 0 10] [([],⟨gR tH,1000197⟩)] (.v (.bool true)) [([],⟨gR tH,1000197⟩)]:=nC (d:=30) (lim:=100) yC rN (by kernel_rfl)
def ch6:xI:=(210,litE 3 10 tH 1000197 (.v (.bool true)) [([],⟨gR tH,1000197⟩)])::ch2
theorem ch6_ok:oA aaZ ch6:=oQ (FV val10) yC
theorem of10:fI aaZ 144 [.s [7] 0 1 1,.o [] 3 0 10,intA 4] [([7],⟨gR uC,1000050⟩),([],⟨gR tH,1000197⟩)] (.t [.o [3,20,4,44,3,3] 3 0 4,.v (.int .i64 0)]) [([3,20,4,44,3,3],⟨gR reg4,197⟩),([7],⟨gR uC,1000050⟩),([],⟨gR tH,1000197⟩)]:=nC (d:=30) (lim:=100) ch6_ok rN (by kernel_rfl)
end
section
open Go.RowKit
open Ev (gZ ML Nxt fD fP dF RO rwB AV)
noncomputable section
def iv (l:List Int):List Value:=l.map fun x=>.int .i64 x
theorem zY (ρ:gZ):∀l:List Int,dF ρ (gR l)=some (iv l)
 | []=>rfl
 | x::l=>by
  have:=zY ρ l;simp only [gR,iv,List.map_cons,dF,Ev.FH,awQ] at this ⊢;rw [this];rfl
def TZ (w:World) (v:Value) (l:List Int):Prop:=
 ∃b zs,v=.slice (some ⟨b,0,none⟩) (l.length/3) ((iv l++zs).length/3)∧w.heap[b]? =some (.cells ⟨iv l++zs⟩ 197 (0,0))
theorem TZ.below {w w':World} {v:Value} {l:List Int} (h:TZ w v l) (hb:Below w.heap.size w w'):TZ w' v l:=by
 obtain ⟨b,zs,h1,h2⟩:=h;exact ⟨b,zs,h1,(hb.block b (Array.getElem?_eq_some_iff.1 h2).1).trans h2⟩
def FE (l:List Int) (w:World) (e:Ending) (w':World):Prop:=∃v,e=.returned (.tuple #[v,.int .i64 0])∧TZ w' v l∧Below w.heap.size w w'
theorem OJ {ρ:gZ} {w:World} {L:Ev.cF} (hM:ML ρ L w) {n:Ev.Nm} {k:Nat} {l:List Int} (hk:3*k=l.length) (hl:l≠[]) (hg:Ev.eR L n=some ⟨gR l,197⟩) {v:Value} (hv:fP ρ (.t [.o n 3 0 k,.v (.int .i64 0)])=some v):
  ∃u,v=.tuple #[u,.int .i64 0]∧TZ w u l:=by
 obtain ⟨b,hb⟩:=hM.has hg;obtain ⟨vs,us,ty,h1,h2,h3,h4⟩:=hM.blk n b _ hb hg (by intro e;apply hl;simpa [gR] using e);rw [zY] at h1;cases h1;have ht:ty=197:=h4 rfl;subst ht;simp only [fP,dF,Ev.FH,hb,Option.map_some,awQ,afZ.injEq] at hv;refine ⟨_,hv.symm,b.1,us,?_,h2⟩;rw [h3];congr 1;omega
theorem aro_calls (w:World) (hg:Ev.eJ w):Calls aaZ 142 #[.agg ⟨[.int .i64 0,.int .i64 3000000,.int .i64 0,.int .i64 5400000]⟩,.int .i64 4] w (FE mN w):=by
 refine (aro30 (fun _=>none) w [.agg ⟨[.int .i64 0,.int .i64 3000000,.int .i64 0,.int .i64 5400000]⟩,.int .i64 4] rfl (Ev.UE hg)).mono ?_;rintro e w' ⟨v,ρ',rfl,hN,hv,hM⟩;obtain ⟨u,rfl,h⟩:=OJ (k:=30) (l:=mN) hM rfl (by decide) (by rfl) hv;exact ⟨u,rfl,h,hN.os,hN.tape,hN.output,hN.size,fun k hk=>hN.old k hk fun n b q=>by cases q⟩
def MF (b7 b:Nat) (o7 o:Obj) (c7 c:Nat):gZ:=fun n=>if n=[7] then some (b7,c7,some o7) else if n=[] then some (b,c,some o) else none
theorem ml2 {c l:List Ev.CV} {vc vl zs:List Value} {tc tl Tc Tl:Nat} (hc:∀ρ,dF ρ c=some vc) (hl:∀ρ,dF ρ l=some vl) (hc0:c≠[]) (hl0:l≠[]) (r1:rwB ⟨c,Tc⟩=false) (r2:rwB ⟨l,Tl⟩=false) {w:World} (hg:Ev.eJ w) {b7 b:Nat}
  (h7:w.heap[b7]? =some (.cells ⟨vc⟩ tc (0,0))) (h2:w.heap[b]? =some (.cells ⟨vl++zs⟩ tl (0,0))) (hne:b7≠b) (f7:∀e∈Ev.GS,b7≠e.1) (f2:∀e∈Ev.GS,b≠e.1):
  ML (MF b7 b (.cells ⟨vc⟩ tc (0,0)) (.cells ⟨vl++zs⟩ tl (0,0)) vc.length (vl++zs).length) [([7],⟨c,Tc⟩),([],⟨l,Tl⟩)] w:=by
 have gt:∀m,Ev.eR [([7],(⟨c,Tc⟩:Ev.kJ)),([],⟨l,Tl⟩)] m=if m=[7] then some ⟨c,Tc⟩ else if m=[] then some ⟨l,Tl⟩ else none:=fun m=>by
  rw [Ev.bN,Ev.bN];by_cases e:m=[7]
  ·subst e;simp
  ·by_cases e2:m=[]
   ·subst e2;simp
   ·rw [if_neg (fun q=>e q.symm),if_neg (fun q=>e2 q.symm),if_neg e,if_neg e2];rfl
 refine ⟨fun m=>?_,fun m c q=>?_,fun m q k hq hg hk=>?_,fun m q k hq hg hz=>?_,fun m q o hq ho=>?_,fun m m' q q' k k' hq hq' he hg hg' _ _=>?_,hg,fun e he m q hq=>?_⟩
 ·rw [gt];unfold MF;by_cases e:m=[7]
  ·simp [e]
  ·by_cases e2:m=[]<;>simp [e,e2]
 ·unfold MF at q;split at q
  ·cases q;exact (Array.getElem?_eq_some_iff.1 h7).1
  ·split at q
   ·cases q;exact (Array.getElem?_eq_some_iff.1 h2).1
   ·cases q
 ·rw [gt] at hg;unfold MF at hq;split at hq
  ·rename_i e;rw [if_pos e] at hg;cases hq;cases hg;exact ⟨vc,[],tc,hc _,by rw [List.append_nil];exact h7,by simp,fun h=>by rw [r1] at h;cases h⟩
  ·rename_i e;rw [if_neg e] at hg;split at hq
   ·rename_i e2;rw [if_pos e2] at hg;cases hq;cases hg;exact ⟨vl,zs,tl,hl _,h2,rfl,fun h=>by rw [r2] at h;cases h⟩
   ·cases hq
 ·rw [gt] at hg;split at hg
  ·cases hg;exact ⟨r1,hc0⟩
  ·split at hg
   ·cases hg;exact ⟨r2,hl0⟩
   ·cases hg
 ·unfold MF at hq;split at hq
  ·cases hq;cases ho;exact h7
  ·split at hq
   ·cases hq;cases ho;exact h2
   ·cases hq
 ·unfold MF at hq hq';split at hq<;>split at hq'
  ·rename_i e e';rw [e,e']
  ·rename_i e e';split at hq'
   ·cases hq;cases hq';exact absurd he hne
   ·cases hq'
  ·rename_i e e';split at hq
   ·cases hq;cases hq';exact absurd he.symm hne
   ·cases hq
  ·split at hq<;>split at hq'
   ·rename_i e e';rw [e,e']
   ·cases hq'
   ·cases hq
   ·cases hq
 ·unfold MF at hq;split at hq
  ·cases hq;exact f7 e he
  ·split at hq
   ·cases hq;exact f2 e he
   ·cases hq
theorem below2 {b7 b:Nat} {o7 o:Obj} {c7 c:Nat} {w w':World} {ρ':gZ} {L':Ev.cF} (hN:Nxt (MF b7 b o7 o c7 c) w ρ' w') (hM:ML ρ' L' w') (h7:w.heap[b7]? =some o7) (h2:w.heap[b]? =some o):Below w.heap.size w w':=by
 refine ⟨hN.os,hN.tape,hN.output,hN.size,fun i hi=>?_⟩;by_cases e7:i=b7
 ·subst e7;exact (hM.ro [7] _ _ (hN.ext [7] (i,c7,some o7) rfl) rfl).trans h7.symm
 ·by_cases e0:i=b
  ·subst e0;exact (hM.ro [] _ _ (hN.ext [] (i,c,some o) rfl) rfl).trans h2.symm
  ·refine hN.old i hi fun n c q qe=>?_;unfold MF at q;split at q
   ·cases q;exact e7 qe.symm
   ·split at q
    ·cases q;exact e0 qe.symm
    ·cases q
theorem uI {w:World} (hg:Ev.eJ w) {b t:Nat} {x:Value} {xs:List Value} (h:w.heap[b]? =some (.cells ⟨x::xs⟩ t (0,0))) (hx:x≠.int .i64 5400000):∀e∈Ev.GS,b≠e.1:=fun e he hq=>by
 obtain ⟨ty,fz,h5⟩:=hg e he;have hge:e=(0,[.int .i64 5400000,.int .i64 5400000]):=by simpa [Ev.GS] using he
 subst hge
 (try dsimp only at hq h5)
 subst hq;rw [h] at h5;simp at h5;exact hx h5.1.1
theorem YS {c l r:List Int} {k kr:Nat} {n:Ev.Nm} {L':Ev.cF} (hR:Ev.fI aaZ 144 [.s [7] 0 1 1,.o [] 3 0 k,intA 4] [([7],⟨gR c,1000050⟩),([],⟨gR l,1000197⟩)] (.t [.o n 3 0 kr,.v (.int .i64 0)]) L')
  (hk:l.length=3*k) (hr:3*kr=r.length) (hr0:r≠[]) (hn:Ev.eR L' n=some ⟨gR r,197⟩) (hl:l.head? =some 4) (hc:c.head? =some 0)
  (w:World) (hg:Ev.eJ w) {v:Value} (hv:TZ w v l) {b7:Nat} (h7:w.heap[b7]? =some (.cells ⟨iv c⟩ 50 (0,0))):Calls aaZ 144 #[.slice (some ⟨b7,0,none⟩) 1 1,v,.int .i64 4] w (FE r w):=by
 obtain ⟨b,zs,rfl,h2⟩:=hv;have hne:b7≠b:=fun e=>by
  subst e;rw [h7] at h2;simp only [afZ.injEq,Obj.cells.injEq,Array.mk.injEq] at h2;have:=h2.2.1;cases this
 have f7:∀e∈Ev.GS,b7≠e.1:=by
  cases c with
  | nil=>cases hc
  | cons x c=>simp only [List.head?_cons,afZ.injEq] at hc;subst hc;exact uI hg (x:=.int .i64 0) h7 (by simp)
 have f2:∀e∈Ev.GS,b≠e.1:=by
  cases l with
  | nil=>cases hl
  | cons x l=>simp only [List.head?_cons,afZ.injEq] at hl;subst hl;exact uI hg (x:=.int .i64 4) h2 (by simp)
 have hM:=ml2 (c:=gR c) (l:=gR l) (Tc:=1000050) (Tl:=1000197) (fun ρ=>zY ρ c) (fun ρ=>zY ρ l) (fun e=>by cases c with | nil=>cases hc | cons x c=>cases e) (fun e=>by cases l with | nil=>cases hl | cons x c=>cases e) rfl rfl hg h7 h2 hne f7 f2;have hvs:fD (MF b7 b (.cells ⟨iv c⟩ 50 (0,0)) (.cells ⟨iv l++zs⟩ 197 (0,0)) (iv c).length (iv l++zs).length) [.s [7] 0 1 1,.o [] 3 0 k,intA 4]=some [.slice (some ⟨b7,0,none⟩) 1 1,.slice (some ⟨b,0,none⟩) (l.length/3) ((iv l++zs).length/3),.int .i64 4]:=by
  have:l.length/3=k:=by omega
  rw [this];rfl
 refine (hR _ w _ hvs hM).mono ?_;rintro e w' ⟨v,ρ',rfl,hN,hv,hM'⟩;obtain ⟨u,rfl,h⟩:=OJ (k:=kr) (l:=r) hM' hr hr0 hn hv;exact ⟨u,rfl,h,below2 hN hM' h7 h2⟩
def isL:Option AV→AV→Bool
 | some r,r'=>eqAV r r'
 | none,_=>false
theorem chk_run:isL (Ev.evG aaZ Et Cs ch2 bkA 100 30 91 [.s [7] 0 2 2,.s [] 0 1 1,plaA 0 3000000 0 5400000,intA 4] [([7],⟨gR (uB++uC),1000050⟩),([],⟨[.v (.slice none 0 0)],1000157⟩)] [] Ev.YF) (.v (.int .i64 0))=true:=by kernel_rfl
theorem chk_calls (w:World) (hg:Ev.eJ w) {bc br:Nat} (h7:w.heap[bc]? =some (.cells ⟨iv (uB++uC)⟩ 50 (0,0))) (h2:w.heap[br]? =some (.cells #[.slice none 0 0] 157 (0,0))):
  Calls aaZ 91 #[.slice (some ⟨bc,0,none⟩) 2 2,.slice (some ⟨br,0,none⟩) 1 1,.agg ⟨[.int .i64 0,.int .i64 3000000,.int .i64 0,.int .i64 5400000]⟩,.int .i64 4] w fun e w'=>e=.returned (.int .i64 0)∧Below w.heap.size w w':=by
 have hrun:=chk_run;generalize hq:Ev.evG aaZ Et Cs ch2 bkA 100 30 91 [.s [7] 0 2 2,.s [] 0 1 1,plaA 0 3000000 0 5400000,intA 4] [([7],⟨gR (uB++uC),1000050⟩),([],⟨[.v (.slice none 0 0)],1000157⟩)] [] Ev.YF=o at hrun;cases o with
 | none=>cases hrun
 | some r=>
  have hr:=eqAV_eq (x:=r) hrun;subst hr;obtain ⟨v,L',hR,hv⟩:=Ev.wM mixed Et_ok GF yC rN 100 30 91 _ _ _ _ _ hq;simp only [Ev.YF,afZ.injEq] at hv;subst hv;have h2':w.heap[br]? =some (.cells ⟨[.slice none 0 0]++[]⟩ 157 (0,0)):=h2;have hne:bc≠br:=fun e=>by subst e;rw [h7] at h2;cases h2
  have hM:=ml2 (c:=gR (uB++uC)) (l:=[.v (.slice none 0 0)]) (Tc:=1000050) (Tl:=1000157) (fun ρ=>zY ρ _) (fun ρ=>rfl) (by decide) (by simp) rfl rfl hg h7 h2' hne (uI hg (x:=.int .i64 0) h7 (by simp)) (uI hg (x:=.slice none 0 0) h2' (by simp));refine (hR _ w _ rfl hM).mono ?_;rintro e w' ⟨v,ρ',rfl,hN,hv,hM'⟩;cases hv;exact ⟨rfl,below2 hN hM' h7 h2'⟩
theorem of30_calls (w:World) (hg:Ev.eJ w) {v:Value} (hv:TZ w v mN) {b7:Nat} (h7:w.heap[b7]? =some (.cells ⟨iv uB⟩ 50 (0,0))):Calls aaZ 144 #[.slice (some ⟨b7,0,none⟩) 1 1,v,.int .i64 4] w (FE tH w):=
 YS (c:=uB) (l:=mN) (r:=tH) of30 (by decide) (by decide) (by decide) (by rfl) rfl rfl w hg hv h7
theorem of10_calls (w:World) (hg:Ev.eJ w) {v:Value} (hv:TZ w v tH) {b7:Nat} (h7:w.heap[b7]? =some (.cells ⟨iv uC⟩ 50 (0,0))):Calls aaZ 144 #[.slice (some ⟨b7,0,none⟩) 1 1,v,.int .i64 4] w (FE reg4 w):=
 YS (c:=uC) (l:=tH) (r:=reg4) of10 (by decide) (by decide) (by decide) (by rfl) rfl rfl w hg hv h7
end
end
section
open Go.RowKit
attribute [local go_sem] Oper.semAt_some
noncomputable section
theorem fR {W:World} {a:Addr} {v:Value} (o:Obj) (h:W.cell? a=some v):(W.alloc o).cell? a=some v:=cell_kept h (World.grownBy_alloc W o none) (fun r e=>by cases e)
structure Env (B bc br:Nat) (W:World):Prop where
 c:W.heap[B]? =some (.cells #[.slice (some ⟨bc,0,none⟩) 2 2] 56 (0,0))
 r:W.heap[B+ 1]? =some (.cells #[.slice (some ⟨br,0,none⟩) 1 1] 57 (0,0))
 p:W.heap[B+2]? =some (.cells ⟨[.int .i64 0,.int .i64 3000000,.int .i64 0,.int .i64 5400000]⟩ 52 (0,0))
 l:W.heap[B+3]? =some (.cells #[.int .i64 4] 3 (0,0))
 cs:W.heap[bc]? =some (.cells ⟨iv (uB++uC)⟩ 50 (0,0))
 rs:W.heap[br]? =some (.cells #[.slice none 0 0] 157 (0,0))
theorem Env.below {B bc br:Nat} {W W':World} (h:Env B bc br W) (hb:Below W.heap.size W W'):Env B bc br W':=by
 have k:∀{b:Nat} {o:Obj},W.heap[b]? =some o→W'.heap[b]? =some o:=fun {b o} q=>(hb.block b (Array.getElem?_eq_some_iff.1 q).1).trans q;exact ⟨k h.c,k h.r,k h.p,k h.l,k h.cs,k h.rs⟩
theorem Env.cells {B bc br:Nat} {W:World} (h:Env B bc br W):W.cell? ⟨B,0,none⟩=some (.slice (some ⟨bc,0,none⟩) 2 2)∧W.cell? ⟨B+1,0,none⟩=some (.slice (some ⟨br,0,none⟩) 1 1)∧
  W.cell? ⟨B+2,0,none⟩=some (.int .i64 0)∧W.cell? ⟨B+2,1,none⟩=some (.int .i64 3000000)∧W.cell? ⟨B+2,2,none⟩=some (.int .i64 0)∧W.cell? ⟨B+2,3,none⟩=some (.int .i64 5400000)∧W.cell? ⟨B+3,0,none⟩=some (.int .i64 4)∧W.cell? ⟨br,0,none⟩=some (.slice none 0 0):=by
 obtain ⟨h1,h2,h3,h4,h5,h6⟩:=h;refine ⟨?_,?_,?_,?_,?_,?_,?_,?_⟩<;>simp [World.cell?, *]
theorem Env.cir {B bc br:Nat} {W:World} (h:Env B bc br W) (k:Nat) (hk:k<12):W.cell? ⟨bc,k,none⟩=some (.int .i64 ((uB++uC).getD k 0)):=by
 have h5:=h.cs;simp only [World.cell?,h5];have:k=0∨k=1∨k=2∨k=3∨k=4∨k=5∨k=6∨k=7∨k=8∨k=9∨k=10∨k=11:=by omega
 rcases this with rfl | rfl | rfl | rfl | rfl | rfl | rfl | rfl | rfl | rfl | rfl | rfl<;>rfl
def tI:Nat→List Int
 | 0=>mN
 | 1=>tH
 | _=>reg4
structure StRel (B bc br:Nat) (J:Nat→World→Prop) (v6 v7 v21:Value) (wr:World) (i:Nat):Prop where
 le:i≤2
 ix:v21=.int .i64 (i:Int)
 er:v7=.int .i64 0
 rg:TZ wr v6 (tI i)
 j:J i wr
 env:Env B bc br wr
 gl:Ev.eJ wr
theorem steps_in (m l B bc br:Nat) (J:Nat→World→Prop) (hst:∀i A C,J i A→Below A.heap.size A C→J i C)
  (hY:∀i W v,i<2→J i W→Env B bc br W→TZ W v (tI (i+1))→Ev.eJ W→YieldAt Fence.wide (m-1) aaZ l #[v,.int .i64 0] W fun e W'=>e=.returned (.bool true)∧J (i+1) W'∧Env B bc br W'∧TZ W' v (tI (i+1))∧Ev.eJ W')
  (W:World) (h0:J 0 W) (hE:Env B bc br W) (hG:Ev.eJ W):
  CallsIn Fence.wide m aaZ 141 #[.func (.yield l) #[] #[],.pointer (some ⟨B+2,0,none⟩),.pointer (some ⟨B+3,0,none⟩),.pointer (some ⟨B,0,none⟩),.pointer (some ⟨B+1,0,none⟩)] W fun e W'=>(∃v,e=.returned v)∧J 2 W'∧Ev.eJ W':=by
 refine callsIn_of_wp Tryz.func141 rfl trivial ?_ rfl;simp only [Tryz.ntmps141,List.size_toArray,List.length_cons,List.length_nil,Nat.reduceAdd,Nat.reduceSub,Array.replicate_succ,Array.replicate_zero,List.push_toArray,List.append_toArray,List.nil_append,auJ];obtain ⟨c1,c2,c3,c4,c5,c6,c7,c8⟩:=hE.cells;have HA:=aaX (aro_calls W hG);have HE:=aaX hE;have HJ:=aaX h0;have HG:=aaX hG;clear hE h0 hG c8;gi_wp2
 refine ⟨trivial,fun h=>(by cases h),(callsIn_wide.2 HA.out).mono ?_⟩;rintro e W1 ⟨v,rfl,hr,hb⟩;have hE1:=HE.out.below hb;have hJ1:=hst _ _ _ HJ.out hb;have hG1:=HG.out.of fun g hg _=>hb.block g hg;clear c1 c2 c3 c4 c5 c6 c7;obtain ⟨c1,c2,c3,c4,c5,c6,c7,c8⟩:=hE1.cells;have HST:=aaX (show StRel B bc br J v (.int .i64 0) (.int .i64 0) W1 0 from ⟨by omega,rfl,rfl,hr,hJ1,hE1,hG1⟩);clear hE1 hJ1 hG1 hr hb;gi_wp2
 gi_loopw [6,7,21] (fun v6 v7 v21 wr=>∃i,StRel B bc br J v6 v7 v21 wr i) (fun _ _ v21 _=>2-(intOf v21).toNat)
 case atStart=>exact ⟨0,HST.out⟩
 case round=>
  clear HST HA HJ HG HE c1 c2 c3 c4 c5 c6 c7 c8;obtain ⟨i,hi,rfl,rfl,hreg,hj,hE,hG⟩:=hrel;obtain ⟨c1,c2,c3,c4,c5,c6,c7,c8⟩:=hE.cells;have h3:i=0∨i=1∨i=2:=by omega
  rcases h3 with rfl | rfl | rfl
  ·
   have d0:=hE.cir 0 (by omega);have d1:=hE.cir 1 (by omega);have d2:=hE.cir 2 (by omega);have d3:=hE.cir 3 (by omega);have d4:=hE.cir 4 (by omega);have d5:=hE.cir 5 (by omega);simp only [uB,uC,auJ,List.nil_append,List.getD_cons_zero,List.getD_cons_succ] at d0 d1 d2 d3 d4 d5;have HJ:=aaX hj;have HE:=aaX hE;have HG:=aaX hG;have HR:=aaX hreg;have e7:=fR (.cells #[.int .i64 0,.int .i64 0,.int .i64 0,.int .i64 0,.int .i64 3600000,.int .i64 3600000] 50) (fR (.cells #[.int .i64 0,.int .i64 0,.int .i64 0,.int .i64 0,.int .i64 3600000,.int .i64 3600000] 50) c7);clear hj hE hG hreg c3 c4 c5 c6 hi;gi_wp2
   have hb0:Below wr.heap.size wr ((wr.alloc (.cells #[.int .i64 0,.int .i64 0,.int .i64 0,.int .i64 0,.int .i64 3600000,.int .i64 3600000] 50)).alloc (.cells #[.int .i64 0,.int .i64 0,.int .i64 0,.int .i64 0,.int .i64 3600000,.int .i64 3600000] 50)):=((aeX _ wr).alloc (aaJ _) _).alloc (by simp) _;have h7:((wr.alloc (.cells #[.int .i64 0,.int .i64 0,.int .i64 0,.int .i64 0,.int .i64 3600000,.int .i64 3600000] 50)).alloc (.cells #[.int .i64 0,.int .i64 0,.int .i64 0,.int .i64 0,.int .i64 3600000,.int .i64 3600000] 50)).heap[wr.heap.size+ 1]? =some (.cells ⟨iv uB⟩ 50 (0,0)):=by
    have:=heap_alloc_new (wr.alloc (.cells #[.int .i64 0,.int .i64 0,.int .i64 0,.int .i64 0,.int .i64 3600000,.int .i64 3600000] 50)) (.cells #[.int .i64 0,.int .i64 0,.int .i64 0,.int .i64 0,.int .i64 3600000,.int .i64 3600000] 50);rwa [agZ] at this
   refine ⟨trivial,fun h=>(by cases h),(callsIn_wide.2 (of30_calls _ (HG.out.of fun g hg _=>hb0.block g hg) (HR.out.below hb0) h7)).mono ?_⟩;rintro e W2 ⟨v2,rfl,hr2,hb2⟩;have hB:=hb0.trans (hb2.mono hb0.size);have hE2:=HE.out.below hB;have hJ2:=hst _ _ _ HJ.out hB;have hG2:=HG.out.of fun g hg _=>hB.block g hg;obtain ⟨b2,cap2,hv2⟩:∃b cap,v2=.slice (some ⟨b,0,none⟩) 10 cap:=by obtain ⟨b,zs,h,_⟩:=hr2;exact ⟨b,_,h⟩
   subst hv2;obtain ⟨fn,tmps,assign,body,hy,hR⟩:=hY 0 W2 _ (by omega) hJ2 hE2 hr2 hG2;clear hb0 h7 hB hb2 c1 c2 c7 c8 d0 d1 d2 d3 d4 d5 e7 HR HE HJ HG hr2 hJ2 hE2 hG2;gi_wp2
   refine ⟨fun h=>(by cases h),hR.mono ?_⟩;rintro e W3 ⟨rfl,hJ3,hE3,hr3,hG3⟩;gi_wp2
   go_roundw
   case rel=>exact ⟨1,by omega,rfl,rfl,hr3,hJ3,hE3,hG3⟩
   case measure=>decide
  ·
   have d0:=hE.cir 6 (by omega);have d1:=hE.cir 7 (by omega);have d2:=hE.cir 8 (by omega);have d3:=hE.cir 9 (by omega);have d4:=hE.cir 10 (by omega);have d5:=hE.cir 11 (by omega);simp only [uB,uC,auJ,List.nil_append,List.getD_cons_zero,List.getD_cons_succ] at d0 d1 d2 d3 d4 d5;have HJ:=aaX hj;have HE:=aaX hE;have HG:=aaX hG;have HR:=aaX hreg;have e2:=fR (.cells #[.int .i64 0,.int .i64 0,.int .i64 5400000,.int .i64 5400000,.int .i64 3600000,.int .i64 3600000] 50) c2;have e8:=fR (.cells #[.int .i64 0,.int .i64 0,.int .i64 5400000,.int .i64 5400000,.int .i64 3600000,.int .i64 3600000] 50) c8;have e7:=fR (.cells #[.int .i64 0,.int .i64 0,.int .i64 5400000,.int .i64 5400000,.int .i64 3600000,.int .i64 3600000] 50) (fR (.cells #[.int .i64 0,.int .i64 0,.int .i64 5400000,.int .i64 5400000,.int .i64 3600000,.int .i64 3600000] 50) c7);clear hj hE hG hreg c3 c4 c5 c6 hi;gi_wp2
   gi_loopw [6,7,34] (fun w6 w7 v34 wq=>w6=u6∧w7=.int .i64 0∧v34=.int .i64 0∧wq=wr.alloc (.cells #[.int .i64 0,.int .i64 0,.int .i64 5400000,.int .i64 5400000,.int .i64 3600000,.int .i64 3600000] 50)) (fun _ _ _ _=>0)
   case atStart=>exact ⟨rfl,rfl,rfl,rfl⟩
   case round=>
    obtain ⟨rfl,rfl,rfl,rfl⟩:=hrel;gi_wp2
    have hb0:Below wr.heap.size wr ((wr.alloc (.cells #[.int .i64 0,.int .i64 0,.int .i64 5400000,.int .i64 5400000,.int .i64 3600000,.int .i64 3600000] 50)).alloc (.cells #[.int .i64 0,.int .i64 0,.int .i64 5400000,.int .i64 5400000,.int .i64 3600000,.int .i64 3600000] 50)):=((aeX _ wr).alloc (aaJ _) _).alloc (by simp) _;have h7:((wr.alloc (.cells #[.int .i64 0,.int .i64 0,.int .i64 5400000,.int .i64 5400000,.int .i64 3600000,.int .i64 3600000] 50)).alloc (.cells #[.int .i64 0,.int .i64 0,.int .i64 5400000,.int .i64 5400000,.int .i64 3600000,.int .i64 3600000] 50)).heap[wr.heap.size+ 1]? =some (.cells ⟨iv uC⟩ 50 (0,0)):=by
     have:=heap_alloc_new (wr.alloc (.cells #[.int .i64 0,.int .i64 0,.int .i64 5400000,.int .i64 5400000,.int .i64 3600000,.int .i64 3600000] 50)) (.cells #[.int .i64 0,.int .i64 0,.int .i64 5400000,.int .i64 5400000,.int .i64 3600000,.int .i64 3600000] 50);rwa [agZ] at this
    refine ⟨trivial,fun h=>(by cases h),(callsIn_wide.2 (of10_calls _ (HG.out.of fun g hg _=>hb0.block g hg) (HR.out.below hb0) h7)).mono ?_⟩;rintro e W2 ⟨v2,rfl,hr2,hb2⟩;have hB:=hb0.trans (hb2.mono hb0.size);have hE2:=HE.out.below hB;have hJ2:=hst _ _ _ HJ.out hB;have hG2:=HG.out.of fun g hg _=>hB.block g hg;obtain ⟨b2,cap2,hv2⟩:∃b cap,v2=.slice (some ⟨b,0,none⟩) 4 cap:=by obtain ⟨b,zs,h,_⟩:=hr2;exact ⟨b,_,h⟩
    subst hv2;obtain ⟨fn,tmps,assign,body,hy,hR⟩:=hY 1 W2 _ (by omega) hJ2 hE2 hr2 hG2;clear hb0 h7 hB hb2 c1 c2 c7 c8 d0 d1 d2 d3 d4 d5 e7 e2 e8 HR HE HJ HG hr2 hJ2 hE2 hG2;gi_wp2
    refine ⟨fun h=>(by cases h),hR.mono ?_⟩;rintro e W3 ⟨rfl,hJ3,hE3,hr3,hG3⟩;gi_wp2
    go_roundw
    case rel=>exact ⟨2,by omega,rfl,rfl,hr3,hJ3,hE3,hG3⟩
    case measure=>decide
  ·
   clear c1 c2 c3 c4 c5 c6 c7 c8 hi hE hreg;gi_wp2
   go_end0
   exact ⟨⟨_,rfl⟩,hj,hG⟩
end
end
section
open Go.RowKit
noncomputable section
theorem Env.put {B bc br:Nat} {W:World} (h:Env B bc br W) {l:Nat} {o:Obj} (hl:W.heap[l]? =some o) (ho:o.isCells=false) (o':Obj):Env B bc br (W.putObj l o'):=by
 have k:∀{b:Nat} {c:Array Value} {t:TypeId} {f:Nat×Nat},W.heap[b]? =some (.cells c t f)→(W.putObj l o').heap[b]? =some (.cells c t f):=fun {b c t f} q=>by
  rw [anQ (by intro e;subst e;rw [hl] at q;cases q;cases ho)];exact q
 exact ⟨k h.c,k h.r,k h.p,k h.l,k h.cs,k h.rs⟩
theorem TZ.put {W:World} {v:Value} {r:List Int} (h:TZ W v r) {l:Nat} {o:Obj} (hl:W.heap[l]? =some o) (ho:o.isCells=false) (o':Obj):TZ (W.putObj l o') v r:=by
 obtain ⟨b,zs,h1,h2⟩:=h;refine ⟨b,zs,h1,?_⟩;rw [anQ (by intro e;subst e;rw [hl] at h2;cases h2;cases ho)];exact h2
theorem JD {W:World} (h:Ev.eJ W) {l:Nat} {o:Obj} (hl:W.heap[l]? =some o) (ho:o.isCells=false) (o':Obj):Ev.eJ (W.putObj l o'):=fun e he=>by
 obtain ⟨ty,fz,h1⟩:=h e he;refine ⟨ty,fz,?_⟩;rw [anQ (by intro q;subst q;rw [hl] at h1;cases h1;cases ho)];exact h1
theorem ZD {n:Nat} {ps:Array Tmp} {assign body:Code} {Q:Exit→Act→World→Prop} {a:Act} {w:World} {B bc br:Nat}
  (hg:a.eval (.tmp 27)=.func (.func 141) #[] #[.pointer (some ⟨B+2,0,none⟩),.pointer (some ⟨B+3,0,none⟩),.pointer (some ⟨B,0,none⟩),.pointer (some ⟨B+1,0,none⟩)]) (hps:ps.size=2)
  (hE:Env B bc br w) (hG:Ev.eJ w) (K:Nat→World→Prop)
  (hK0:∀C,Below w.heap.size w C→w.heap.size+2≤C.heap.size→K 0 C)
  (hKb:∀i A C,K i A→Below A.heap.size A C→K i C)
  (hKp:∀i A o o',K i A→A.heap[w.heap.size+ 1]? =some o→o.isCells=false→K i (A.putObj (w.heap.size+1) o'))
  (hround:∀i A v,i<2→K i A→TZ A v (tI (i+1))→Env B bc br A→Ev.eJ A→w.heap.size+2≤A.heap.size→
   assign.wpIn (Fence.wide.inRound (w.heap.size+1)) (n-1-1) aaZ (Exit.then (fun a₁ A₁=>A₁=A∧∀A2,K i A2→TZ A2 v (tI (i+1))→Env B bc br A2→Ev.eJ A2→w.heap.size+2≤A2.heap.size→
    body.wpIn (Fence.wide.inRound (w.heap.size+1)) (n-1-1) aaZ (fun e _ A3=>e=.normal∧KeepsOthers A2 A3∧K (i+1) A3∧TZ A3 v (tI (i+1))∧Env B bc br A3∧Ev.eJ A3) a₁ A2) (fun _ _ _=>False))
    {tmps:=(ps.zip #[v,.int .i64 0]).foldl (fun t (p,v)=>t.setIfInBounds p v) a.tmps,defers:=[]} A)
  (hdone:∀A,K 2 A→A.heap[w.heap.size]? =some (.deferred (some []))→Ev.eJ A→Q .normal {a with defers:={target:=.collected w.heap.size,args:= #[]}::a.defers} A):
  (Code.rangeFunc (.tmp 27) ps assign body).wpIn Fence.wide n aaZ Q a w:=by
 refine wpIn_rangeFunc ?_;intro fn hfn;obtain ⟨rec,hrec⟩:∃rec:LoopState→Option Code→Loop,rec=fun st pe=>{state:=st,pending:=pe,fn,tmps:=a.tmps,params:=ps,assign,body,defers:=w.heap.size}:=⟨_,rfl⟩;obtain ⟨W1,hW1⟩:∃W1,(w.alloc (.deferred (some []))).alloc (.loop (rec .ready none))=W1:=⟨_,rfl⟩;have hL1:W1.heap[w.heap.size+ 1]? =some (.loop (rec .ready none)):=by
  rw [←hW1];have:=amZ (w.alloc (.deferred (some []))) (.loop (rec .ready none));rwa [agZ] at this
 have hK1:W1.heap[w.heap.size]? =some (.deferred (some [])):=by
  rw [←hW1];exact (ahX _ _ _ (by simp)).trans (amZ w _)
 have hb1:Below w.heap.size w W1:=by
  rw [←hW1];exact ((aeX _ w).alloc (aaJ _) _).alloc (by simp) _
 have hs1:w.heap.size+2≤W1.heap.size:=by rw [←hW1];simp
 refine ⟨w.heap.size+1,[{target:=.collected w.heap.size,args:= #[]}],W1,{target:=.fn (.func 141) #[.pointer (some ⟨B+2,0,none⟩),.pointer (some ⟨B+3,0,none⟩),.pointer (some ⟨B,0,none⟩),.pointer (some ⟨B+1,0,none⟩)],args:= #[.func (.yield (w.heap.size+1)) #[] #[]]},W1,141,
  #[.func (.yield (w.heap.size+1)) #[] #[]]++ #[.pointer (some ⟨B+2,0,none⟩),.pointer (some ⟨B+3,0,none⟩),.pointer (some ⟨B,0,none⟩),.pointer (some ⟨B+1,0,none⟩)],W1,?_,?_,fun _ _=>trivial,?_,fun h=>(by cases h),?_⟩
 ·rw [←hW1,hrec];exact run_enterLoop_outer _ _ _ _ _
 ·simp only [resolve,hg];simp [go_sem]
 ·have eg:∀args w,(callFunc 141 args).run aaZ w=.ok (.enter 141 args) w:=enters_of Tryz.func141 (by kernel_rfl) rfl;simp [invoke,go_sem,eg]
 ·refine (steps_in (n-1) (w.heap.size+1) B bc br (fun i W=>K i W∧W.heap[w.heap.size+ 1]? =some (.loop (rec .ready none))∧W.heap[w.heap.size]? =some (.deferred (some []))∧w.heap.size+2≤W.heap.size)
   (fun i A C h hb=>⟨hKb i A C h.1 hb,(hb.block _ (Array.getElem?_eq_some_iff.1 h.2.1).1).trans h.2.1,(hb.block _ (Array.getElem?_eq_some_iff.1 h.2.2.1).1).trans h.2.2.1,ahJ h.2.2.2 hb.size⟩) ?_ W1 ⟨hK0 W1 hb1 hs1,hL1,hK1,hs1⟩ (hE.below hb1) (hG.of fun g hg _=>hb1.block g hg)).mono ?_
  ·
   intro i W v hi hJ hEW hR hGW;obtain ⟨hKi,hl,hd,hsz⟩:=hJ;have hlt:w.heap.size+1<W.heap.size:=(Array.getElem?_eq_some_iff.1 hl).1;have hy:=run_yield (P:=aaZ) (args:= #[v,.int .i64 0]) hl (by rw [hrec];exact hps.symm);rw [hrec] at hy;refine ⟨fn,_,assign,body,hy,roundIn_of_wpIn hfn ?_⟩;refine Code.wpIn_mono ?_ (hround i W v hi hKi hR hEW hGW hsz);intro e a1 A1 h1;cases e with
   | normal=>
    obtain ⟨rfl,h2⟩:=h1;have hl2:(A1.putObj (w.heap.size+1) (.loop {rec .ready none with state:=.busy})).heap[w.heap.size+ 1]? =some (.loop {rec .ready none with state:=.busy}):=World.putObj_heap_same hlt;have hd2:(A1.putObj (w.heap.size+1) (.loop {rec .ready none with state:=.busy})).heap[w.heap.size]? =some (.deferred (some [])):=(anQ (by omega)).trans hd;refine ⟨_,run_beginRound hl (by rw [hrec]),?_⟩;refine Code.wpIn_mono ?_ (h2 _ (hKp i A1 _ _ hKi hl rfl) (hR.put hl rfl _) (hEW.put hl rfl _) (JD hGW hl rfl _) (by simpa using hsz));rintro e a3 W3 ⟨rfl,hk3,hK3,hR3,hE3,hG3⟩;have hl3:=hk3.same _ _ hl2 rfl;have hd3:=hk3.same _ _ hd2 rfl;have hr:=run_endRound (P:=aaZ) none hl3;refine ⟨_,_,hr,rfl,⟨hKp _ _ _ _ hK3 hl3 rfl,?_,(anQ (by omega)).trans hd3,?_⟩,hE3.put hl3 rfl _,hR3.put hl3 rfl _,JD hG3 hl3 rfl _⟩
    ·rw [hrec];rw [hrec] at hl3;exact World.putObj_heap_same (Array.getElem?_eq_some_iff.1 hl3).1
    ·have:=hk3.1;simp at this ⊢;omega
   | _=>exact h1.elim
  ·
   rintro e W2 ⟨⟨v,rfl⟩,⟨hK2,hl,hd,_⟩,hG2⟩;have h9:=run_endLoop (P:=aaZ) hl (by rw [hrec];simp);rw [hrec] at h9;exact ⟨none,_,h9,hdone _ (hKp _ _ _ _ hK2 hl rfl) ((anQ (by omega)).trans hd) (JD hG2 hl rfl _)⟩
end
end
section
open Go.RowKit
attribute [local go_sem] Oper.semAt_some
noncomputable section
def qQ (bc:Nat):Value:=.slice (some ⟨bc,0,none⟩) 2 2
def rC (br:Nat):Value:=.slice (some ⟨br,0,none⟩) 1 1
def SV:Value:=.agg #[.int .i64 0,.int .i64 3000000,.int .i64 0,.int .i64 5400000]
def wMk (c r:Value) (w:World):World:=(((w.alloc (.cells #[c] 56)).alloc (.cells #[r] 57)).alloc (.cells #[.int .i64 0,.int .i64 3000000,.int .i64 0,.int .i64 5400000] 52)).alloc (.cells #[.int .i64 4] 3)
theorem mk_calls (bc br:Nat) (w:World):Calls aaZ 92 #[qQ bc,rC br,SV,.int .i64 4] w fun e w'=>e=.returned (.func (.func 141) #[] #[.pointer (some ⟨w.heap.size+2,0,none⟩),.pointer (some ⟨w.heap.size+3,0,none⟩),.pointer (some ⟨w.heap.size,0,none⟩),.pointer (some ⟨w.heap.size+1,0,none⟩)])∧w'=wMk (qQ bc) (rC br) w:=by
 unfold qQ rC SV wMk;go_enter Tryz.func92,Tryz.ntmps92;go_wp2;go_ret;exact ⟨rfl,rfl⟩
theorem xT {F:Fence} {n:Nat} {P:Program} {w w':World} {ops:Array Oper} {rest:List Oper} {o:Oper} {a:Act} {Q:Exit→Act→World→Prop} {v:Value} (hg:o.guard=none) (hd:∀c,o.op≠.defer c)
  (ha:o.about P w a.eval=none) (hr:(execOp a.eval o).run P w=.ok (.value v) w') (hK:wpListIn F n P ops Q rest (a.put o.dst v) w'):wpListIn F n P ops Q (o::rest) a w:=by
 refine wpListIn_plain hg fun K hK'=>?_;unfold Oper.wpIn;refine ⟨fun f hf=>(by rw [ha] at hf;cases hf),?_⟩;rw [Oper.semAt_plain F _ _ hd,hr];exact hK' _ _ hK
theorem VS:(aaZ.info? 197).map (fun i=>(i.zero,i.size,i.bytes))=some (some (.agg #[.int .i64 0,.int .i64 0,.int .i64 0]),3,24):=by kernel_rfl
theorem sl_info:(aaZ.info? 53).map (fun i=>(i.zero,i.size,i.bytes))=some (some (.slice none 0 0),1,24):=by kernel_rfl
theorem make_run (w:World) (k:Nat) (hk:k≤1000):∃X,(Instr.makeSlice 53 (.int .i64 (k:Int)) (.int .i64 (k:Int))).run aaZ w=.ok (.slice (some ⟨w.heap.size,0,none⟩) k k) (w.alloc (.cells X 197))∧X.size=k*3:=by
 obtain ⟨i,hi,hz,hs,hb⟩:=mW VS;have h:=run_make (P:=aaZ) w 53 197 i _ Tryz.underlying53 hi hz .i64 .i64 (k:Int) (k:Int) (by omega) (by omega) (by rw [hb];omega) (by omega);simp only [Int.toNat_natCast,hs] at h;exact ⟨_,h,size_madeCells _ _⟩
theorem copy_run (w:World) (g k:Nat) (X:Array Value) (hX:X.size=k*3) (hg:w.heap[g]? =some (.cells X 197 (0,0))) {v:Value} {l:List Int} (hl:l.length=k*3) (hv:TZ w v l):
  (Builtin.copy_ #[53,53] 3 #[.slice (some ⟨g,0,none⟩) k k,v]).run aaZ w=.ok (.int .i64 (k:Int)) (w.setRow g ⟨iv l⟩):=by
 obtain ⟨b,zs,rfl,h2⟩:=hv;obtain ⟨i,hi,hz,hs,hb⟩:=mW VS;have hkl:l.length/3=k:=by omega
 have hlen:(iv l).length=k*i.size:=by rw [hs];simp [iv,hl]
 have hsrc:∀j u,(iv l)[j]? =some u→w.cell? ((⟨b,0,none⟩:Addr).add j)=some u:=fun j u hj=>by
  have hlt:=(List.getElem?_eq_some_iff.1 hj).1;rw [Addr.add_lit];simp only [World.cell?,h2];simpa [List.getElem?_append_left hlt] using hj
 have h1:∀u∈iv l,u.oneCell'=true:=fun u hu=>by
  simp only [iv,List.mem_map] at hu;obtain ⟨x,_,rfl⟩:=hu;rfl
 generalize (iv l++zs).length/3=cap;have hf:=run_firstCells_some (P:=aaZ) w i.size k ⟨b,0,none⟩ k cap (iv l) hlen hsrc;have hst:=run_storeCells_at aaZ g 0 197 (iv l) 0 X w hg (by rw [hX];simp [iv,hl]) h1;have e1:(X.toList.take (0+0)++iv l++X.toList.drop (0+0+(iv l).length)).toArray=(⟨iv l⟩:Array Value):=by
  have:X.toList.drop (0+0+(iv l).length)=[]:=List.drop_eq_nil_of_le (by simp [iv,hl,hX]);rw [this];simp
 rw [e1] at hst;rw [hkl];simp [Builtin.copy_,run_underlying Tryz.underlying53,Builtin.lenOf,sizeOf,typeInfo,hi,hf,hst,goInt]
theorem MM {F:Fence} {n:Nat} {P:Program} {w w':World} {ops:Array Oper} {rest:List Oper} {o:Oper} {a:Act} {Q:Exit→Act→World→Prop} {v vl vc:Value} {t:TypeId} {l c:Operand} (hg:o.guard=none) (hop:o.op=.makeSlice t l c) (h1:a.eval l=vl) (h2:a.eval c=vc)
  (hr:(Instr.makeSlice t vl vc).run P w=.ok v w') (hK:wpListIn F n P ops Q rest (a.put o.dst v) w'):wpListIn F n P ops Q (o::rest) a w:=by
 refine xT hg (fun c h=>by rw [hop] at h;cases h) (by simp [Oper.about,hop]) ?_ hK;simp [execOp,hop,h1,h2,hr]
theorem MK {F:Fence} {n:Nat} {P:Program} {w w':World} {ops:Array Oper} {rest:List Oper} {o:Oper} {a:Act} {Q:Exit→Act→World→Prop} {v vx vy:Value} {t t':TypeId} {x y:Operand} (hg:o.guard=none) (hop:o.op=.call {callee:=.builtin .copy,args:= #[x,y],argTypes:= #[t,t']}) (h1:a.eval x=vx) (h2:a.eval y=vy)
  (hr:(Builtin.copy_ #[t,t'] o.type #[vx,vy]).run P w=.ok v w') (hK:wpListIn F n P ops Q rest (a.put o.dst v) w'):wpListIn F n P ops Q (o::rest) a w:=by
 refine xT hg (fun c h=>by rw [hop] at h;cases h) (by simp [Oper.about,hop,resolve,Target.leads,Sem.run_pure]) ?_ hK;simp [execOp,hop,resolve,invoke,builtin,h1,h2,hr]
theorem size_mk (c r:Value) (w:World):(wMk c r w).heap.size=w.heap.size+4:=by unfold wMk;simp
theorem VH (c r:Value) (w:World):Below w.heap.size w (wMk c r w):=by
 unfold wMk;exact ((((aeX _ w).alloc (aaJ _) _).alloc (by simp) _).alloc (by simp;omega) _).alloc (by simp;omega) _
theorem env_mk {bc br:Nat} {w:World} (h7:w.heap[bc]? =some (.cells ⟨iv (uB++uC)⟩ 50 (0,0))) (h2:w.heap[br]? =some (.cells #[.slice none 0 0] 157 (0,0))):Env w.heap.size bc br (wMk (qQ bc) (rC br) w):=by
 have hb:=VH (qQ bc) (rC br) w;have k:∀{b:Nat} {o:Obj},w.heap[b]? =some o→(wMk (qQ bc) (rC br) w).heap[b]? =some o:=fun {b o} q=>(hb.block b (Array.getElem?_eq_some_iff.1 q).1).trans q;refine ⟨?_,?_,?_,?_,k h7,k h2⟩
 ·unfold wMk;exact (ahX _ _ _ (by simp only [agZ];omega)).trans ((ahX _ _ _ (by simp only [agZ];omega)).trans ((ahX _ _ _ (by simp)).trans (amZ w _)))
 ·unfold wMk;refine (ahX _ _ _ (by simp only [agZ];omega)).trans ((ahX _ _ _ (by simp)).trans ?_);have:=amZ (w.alloc (.cells #[qQ bc] 56)) (.cells #[rC br] 57);rwa [agZ] at this
 ·unfold wMk;refine (ahX _ _ _ (by simp)).trans ?_;have:=amZ ((w.alloc (.cells #[qQ bc] 56)).alloc (.cells #[rC br] 57)) (.cells #[.int .i64 0,.int .i64 3000000,.int .i64 0,.int .i64 5400000] 52);rwa [agZ,agZ] at this
 ·unfold wMk;have:=amZ (((w.alloc (.cells #[qQ bc] 56)).alloc (.cells #[rC br] 57)).alloc (.cells #[.int .i64 0,.int .i64 3000000,.int .i64 0,.int .i64 5400000] 52)) (.cells #[.int .i64 4] 3);rwa [agZ,agZ,agZ] at this
def Stp (P:Prop):Prop:=P
theorem stp {P:Prop} (h:Stp P):P:=h
theorem MD {fn:Func} {p u:Tmp} {ty tu:TypeId} (h:fn.results= #[.cell p ty,.cell u tu]) (tmps:Array Value) (w:World) {ap au:Addr} {vp vu:Value} (hp:tmps.getD p undef=.pointer (some ap)) (hu:tmps.getD u undef=.pointer (some au))
  (tp:(isAgg ty).run aaZ w=.ok false w) (tu':(isAgg tu).run aaZ w=.ok false w) (cp:w.cell? ap=some vp) (cu:w.cell? au=some vu):
  (results fn tmps).run aaZ w=.ok (.tuple #[vp,vu]) w:=by
 have hp':tmps[p]?.getD undef=.pointer (some ap):=by simpa using hp
 have hu':tmps[u]?.getD undef=.pointer (some au):=by simpa using hu
 have l1:(load ap).run aaZ w=.ok vp w:=by simp [cp]
 have l2:(load au).run aaZ w=.ok vu w:=by simp [cu]
 simp [results,h,hp',hu',asAddr,loadVar,Sem.run_bind,tp,tu',l1,l2,Result.andThen]
structure KS (w0:World) (b8 b9 b11 base:Nat) (i:Nat) (W:World):Prop where
 b8:W.heap[b8]? =some (.cells #[.slice none 0 0] 92 (0,0))
 b9:W.heap[b9]? =some (.cells #[.int .i64 0] 30 (0,0))
 out:∃v xs,Boxed W b11 92 v∧W.ownsRow base 53 1 v i xs∧(i=2→∃A c,xs[1]? =some (.slice (some A) 4 c))
 bel:Below w0.heap.size w0 W
 bs:base≤W.heap.size
theorem ZV (w:World) (hg:Ev.eJ w) {bc br:Nat} (h7:w.heap[bc]? =some (.cells ⟨iv (uB++uC)⟩ 50 (0,0))) (h2:w.heap[br]? =some (.cells #[.slice none 0 0] 157 (0,0))):
  Calls aaZ 52 #[qQ bc,rC br,SV,.int .i64 4] w fun e w'=>∃bo c A c',e=.returned (.tuple #[.slice (some ⟨bo,0,none⟩) 2 c,.int .i64 0])∧w'.cell? ⟨bo,1,none⟩=some (.slice (some A) 4 c')∧Below w.heap.size w w':=by
 refine (callsIn_wide (n:=5)).1 ?_;refine callsIn_of_wp_marks Tryz.func52 rfl trivial ?_ rfl;simp only [Tryz.ntmps52,List.size_toArray,List.length_cons,List.length_nil,Nat.reduceAdd,Nat.reduceSub,Array.replicate_succ,Array.replicate_zero,List.push_toArray,List.append_toArray,List.nil_append,auJ];have HG:=aaX hg;have H7:=aaX h7;have H2:=aaX h2;clear hg h7 h2;unfold qQ rC SV;gi_wp2
 obtain ⟨W0,hW0⟩:∃W0,((w.alloc (.cells #[.int .i64 0,.int .i64 3000000,.int .i64 0,.int .i64 5400000] 52)).alloc (.cells #[.slice none 0 0] 92)).alloc (.cells #[.int .i64 0] 30)=W0:=⟨_,rfl⟩;have hb0:Below w.heap.size w W0:=by rw [←hW0];exact (((aeX _ w).alloc (aaJ _) _).alloc (by simp) _).alloc (by simp;omega) _
 have hs0:W0.heap.size=w.heap.size+3:=by rw [←hW0];simp
 have p6:W0.heap[w.heap.size]? =some (.cells #[.int .i64 0,.int .i64 3000000,.int .i64 0,.int .i64 5400000] 52 (0,0)):=by
  rw [←hW0];exact (ahX _ _ _ (by simp;omega)).trans ((ahX _ _ _ (by simp)).trans (amZ w _))
 have p8:W0.heap[w.heap.size+ 1]? =some (.cells #[.slice none 0 0] 92 (0,0)):=by
  rw [←hW0];refine (ahX _ _ _ (by simp)).trans ?_;have:=amZ (w.alloc (.cells #[.int .i64 0,.int .i64 3000000,.int .i64 0,.int .i64 5400000] 52)) (.cells #[.slice none 0 0] 92);rwa [agZ] at this
 have p9:W0.heap[w.heap.size+2]? =some (.cells #[.int .i64 0] 30 (0,0)):=by
  rw [←hW0];have:=amZ ((w.alloc (.cells #[.int .i64 0,.int .i64 3000000,.int .i64 0,.int .i64 5400000] 52)).alloc (.cells #[.slice none 0 0] 92)) (.cells #[.int .i64 0] 30);rwa [agZ,agZ] at this
 rw [hW0];have k0:∀{b:Nat} {o:Obj},w.heap[b]? =some o→W0.heap[b]? =some o:=fun {b o} q=>(hb0.block b (Array.getElem?_eq_some_iff.1 q).1).trans q;have g0:Ev.eJ W0:=HG.out.of fun g hg _=>hb0.block g hg;refine ⟨trivial,(callsIn_wide.2 (chk_calls W0 g0 (k0 H7.out) (k0 H2.out))).mono ?_⟩;rintro e W1 ⟨rfl,hb1⟩;have hB1:Below w.heap.size w W1:=hb0.trans (hb1.mono hb0.size);have k1:∀{b:Nat} {o:Obj},W0.heap[b]? =some o→W1.heap[b]? =some o:=fun {b o} q=>(hb1.block b (Array.getElem?_eq_some_iff.1 q).1).trans q;have g1:Ev.eJ W1:=g0.of fun g hg _=>hb1.block g hg;have P6:=k1 p6;have P8:=k1 p8;have P9:=k1 p9;have Q7:=k1 (k0 H7.out);have Q2:=k1 (k0 H2.out);have hs1:w.heap.size+3≤W1.heap.size:=by have:=hb1.size;omega
 have a1:(W1.alloc (.cells #[.slice none 0 0] 92)).cell? ⟨w.heap.size,0,none⟩=some (.int .i64 0):=fR _ (by simp [World.cell?,P6]);have a2:(W1.alloc (.cells #[.slice none 0 0] 92)).cell? ⟨w.heap.size,1,none⟩=some (.int .i64 3000000):=fR _ (by simp [World.cell?,P6]);have a3:(W1.alloc (.cells #[.slice none 0 0] 92)).cell? ⟨w.heap.size,2,none⟩=some (.int .i64 0):=fR _ (by simp [World.cell?,P6]);have a4:(W1.alloc (.cells #[.slice none 0 0] 92)).cell? ⟨w.heap.size,3,none⟩=some (.int .i64 5400000):=fR _ (by simp [World.cell?,P6]);have HB1:=aaX hB1;have HG1:=aaX g1;have HP8:=aaX P8;have HP9:=aaX P9;have HQ7:=aaX Q7;have HQ2:=aaX Q2;clear hW0 hb0 hs0 p6 p8 p9 k0 g0 hb1 hB1 k1 g1 P6 P8 P9 Q7 Q2 HG H7 H2;gi_wp2
 have hmk:=mk_calls bc br (W1.alloc (.cells #[.slice none 0 0] 92));unfold qQ rC SV at hmk;refine ⟨trivial,(callsIn_wide.2 hmk).mono ?_⟩;rintro e W2 ⟨rfl,hW2⟩;clear a1 a2 a3 a4 hmk;gi_wp2
 have hE2:=env_mk (w:=W1.alloc (.cells #[.slice none 0 0] 92)) ((ahX _ _ _ (Array.getElem?_eq_some_iff.1 HQ7.out).1).trans HQ7.out) ((ahX _ _ _ (Array.getElem?_eq_some_iff.1 HQ2.out).1).trans HQ2.out);have hbk:=VH (qQ bc) (rC br) (W1.alloc (.cells #[.slice none 0 0] 92));have hsk:=size_mk (qQ bc) (rC br) (W1.alloc (.cells #[.slice none 0 0] 92));rw [agZ] at hE2 hbk hsk;change Code.wpIn _ _ _ _ _ _ (wMk (qQ bc) (rC br) (W1.alloc (.cells #[.slice none 0 0] 92)));generalize wMk (qQ bc) (rC br) (W1.alloc (.cells #[.slice none 0 0] 92))=W2 at*;have hb12:Below W1.heap.size W1 W2:=((aeX _ W1).alloc (aaJ _) _).trans (hbk.mono (by simp));have hB2:Below w.heap.size w W2:=HB1.out.trans (hb12.mono (by omega));have hG2:Ev.eJ W2:=HG1.out.of fun g hg _=>hb12.block g hg;have q8:=(hb12.block _ (Array.getElem?_eq_some_iff.1 HP8.out).1).trans HP8.out;have q9:=(hb12.block _ (Array.getElem?_eq_some_iff.1 HP9.out).1).trans HP9.out;have q11:Boxed W2 W1.heap.size 92 (.slice none 0 0):=(hbk.block _ (by omega)).trans (amZ W1 _);clear HB1 HG1 HP8 HP9 HQ7 HQ2 hbk hb12;refine ZD (B:=W1.heap.size+1) (bc:=bc) (br:=br) rfl rfl hE2 hG2 (fun i W=>KS w (w.heap.size+1) (w.heap.size+1+1) W1.heap.size W1.heap.size i W) ?_ ?_ ?_ ?_ ?_
 ·intro C hC hs;have k:∀{b:Nat} {o:Obj},W2.heap[b]? =some o→C.heap[b]? =some o:=fun {b o} q=>(hC.block b (Array.getElem?_eq_some_iff.1 q).1).trans q;exact ⟨k q8,k q9,⟨_,[],k q11,World.ownsRow_nil _ _ _ _,fun h=>by omega⟩,hB2.trans (hC.mono hB2.size),ahJ (by omega) hs⟩
 ·intro i A C h hC;have k:∀{b:Nat} {o:Obj},A.heap[b]? =some o→C.heap[b]? =some o:=fun {b o} q=>(hC.block b (Array.getElem?_eq_some_iff.1 q).1).trans q;obtain ⟨v,xs,o1,o2,o3⟩:=h.out;exact ⟨k h.b8,k h.b9,⟨v,xs,k o1,lI o2 hC,o3⟩,h.bel.trans (hC.mono h.bel.size),ahJ h.bs hC.size⟩
 ·intro i A o o' h hl ho;have k:∀{b:Nat} {c:Array Value} {t:TypeId} {f:Nat×Nat},A.heap[b]? =some (.cells c t f)→(A.putObj (W2.heap.size+1) o').heap[b]? =some (.cells c t f):=fun {b c t f} q=>by
   rw [anQ (by intro e;subst e;rw [hl] at q;cases q;cases ho)];exact q
  obtain ⟨v,xs,o1,o2,o3⟩:=h.out;exact ⟨k h.b8,k h.b9,⟨v,xs,k o1,ownsRow_putObj o2 _ hl ho,o3⟩,h.bel.grown (grownBy_putObj' A _ o') h.bel.size (fun j e=>by cases e;have:=hB2.size;omega),by have:=h.bs;simpa using this⟩
 ·intro i A v hi hK hR hE hG hsz;gi_wp2
  refine ⟨trivial,?_⟩;clear hK hR hE hG hsz;intro A2 hK2 hR2 hE2 hG2 hs2;have hl3:∃k,(tI (i+1)).length=k*3∧k≤1000∧(i=1→k=4):=by
   rcases (show i=0∨i=1 by omega) with rfl | rfl
   ·exact ⟨10,by decide,by omega,fun h=>by omega⟩
   ·exact ⟨4,by decide,by omega,fun _=>rfl⟩
  obtain ⟨k,hk3,hk1,hk4⟩:=hl3;obtain ⟨b,cap,hv⟩:∃b cap,v=.slice (some ⟨b,0,none⟩) k cap:=by
   obtain ⟨b,zs,h,_⟩:=hR2;exact ⟨b,_,by rw [h,show (tI (i+1)).length/3=k by omega]⟩
  subst hv;obtain ⟨X,hmr,hX⟩:=make_run A2 k hk1;have hbm:Below A2.heap.size A2 ((A2.alloc (.cells X 197)).setRow A2.heap.size ⟨iv (tI (i+1))⟩):=⟨rfl,rfl,rfl,by simp,fun j hj=>by
   rw [setRow_other _ _ _ _ (by omega)];exact (ahX A2 _ j hj)⟩
  have hba:Below A2.heap.size A2 (A2.alloc (.cells X 197)):=(aeX _ A2).alloc (aaJ _) _;have hcr:=copy_run (A2.alloc (.cells X 197)) A2.heap.size k X hX (heap_alloc_new A2 _) (l:=tI (i+1)) hk3 (hR2.below hba);have hsz3:((A2.alloc (.cells X 197)).setRow A2.heap.size ⟨iv (tI (i+1))⟩).heap.size=A2.heap.size+1:=by simp
  obtain ⟨W3,hW3⟩:∃W3,(A2.alloc (.cells X 197)).setRow A2.heap.size ⟨iv (tI (i+1))⟩=W3:=⟨_,rfl⟩;rw [hW3] at hbm hcr hsz3;obtain ⟨v0,xs,o1,o2,o3⟩:=hK2.out;have k3:∀{b:Nat} {o:Obj},A2.heap[b]? =some o→W3.heap[b]? =some o:=fun {b o} q=>(hbm.block b (Array.getElem?_eq_some_iff.1 q).1).trans q;have o13:Boxed W3 W1.heap.size 92 v0:=k3 o1;have o23:=lI o2 hbm;have hc11:=o13.cell;have hxl:xs.length=i:=by have:=o2.1;omega
  obtain ⟨i0,hi0,hz0,hz1,hz2⟩:=mW sl_info;have HK:=aaX hK2;have HE:=aaX hE2;have HG:=aaX hG2;have HR:=aaX hR2;have HO1:=aaX o13;have HO2:=aaX o23;have HO3:=aaX o3;have HBM:=aaX hbm;clear hK2 hE2 hG2 hR2 o1 o2 o3 k3 hbm hba o13 o23 hW3;gi_wp2_with (first
   | (gi_at_make;refine MM rfl rfl rfl rfl hmr ?_)
   | (refine MK rfl rfl rfl rfl hcr ?_)
   | (gi_at_builtin;refine stp ?_))
  unfold Stp;refine wpListIn_append_own _ rfl _ _ 92 rfl W1.heap.size 53 i0 (.slice none 0 0) 1 24 Tryz.underlying92 hi0 hz0 hz1 hz2 rfl (by decide) v0 i xs rfl (HO2.out.alloc _) ⟨A2.heap.size+1,0,none⟩ 1 1 [.slice (some ⟨A2.heap.size,0,none⟩) k k] rfl rfl ?c0 ?c1 ?c2 ?c3 ?c4 ?_
  case c0=>have:=cell_one_new W3 (.slice (some ⟨A2.heap.size,0,none⟩) k k) 53;rw [hsz3] at this;exact this
  case c1=>intro u hu;rw [List.mem_singleton.1 hu];rfl
  case c2=>
   have:i+1≤2:=by omega
   exact ahJ this (by decide)
  case c3=>omega
  case c4=>have:=HK.out.bs;have:=HBM.out.size;simp only [agZ];omega
  intro v' w1 hown' hgrow _;obtain ⟨g',cap',rfl⟩:=ownsRow_succ hown';obtain ⟨hv1,hv2,hr2,hk2,hb2⟩:=HO1.out.appended (by decide) HO2.out (by have:=HK.out.bs;have:=HBM.out.size;omega) (aaJ _) hown' hgrow;have hc1:=hv1.cell;have hf1:=hv1.frozen;gi_wp2
  have hkk:∀{b:Nat} {c:Array Value} {t:TypeId} {f:Nat×Nat},A2.heap[b]? =some (.cells c t f)→t≠92→t≠53→(w1.setCell ⟨W1.heap.size,0,none⟩ (.slice (some ⟨g',0,none⟩) (i+1) cap')).heap[b]? =some (.cells c t f):=fun {b c t f} q n1 n2=>by
   have q3:=(HBM.out.block b (Array.getElem?_eq_some_iff.1 q).1).trans q;have hlt:=(Array.getElem?_eq_some_iff.1 q3).1;have e1:b≠W1.heap.size:=fun e=>by
    subst e;have:=HO1.out;unfold Boxed at this;rw [q3] at this;cases this;exact n1 rfl
   rw [Below.heap_setCell _ _ _ _ e1];refine (hgrow.block b (by simp;omega) ?_).trans ((ahX W3 _ b hlt).trans q3);intro e2;rcases HO2.out.2 with ⟨e3,_⟩ | ⟨g,cap,cur,e3,_,hgb,_⟩
   ·rw [e3] at e2;cases e2
   ·rw [e3] at e2;simp only [Value.ownBlock,afZ.injEq] at e2;subst e2;rw [q3] at hgb;cases hgb;exact n2 rfl
  refine ⟨KeepsOthers.trans ⟨HBM.out.size,fun j o hj _=>(HBM.out.block j (Array.getElem?_eq_some_iff.1 hj).1).trans hj⟩ hk2,?_,?_,?_,?_⟩
  ·have hbb:Below W1.heap.size A2 (w1.setCell ⟨W1.heap.size,0,none⟩ (.slice (some ⟨g',0,none⟩) (i+1) cap')):=(HBM.out.mono HK.out.bs).trans hb2;refine ⟨(hbb.block _ (by omega)).trans HK.out.b8,(hbb.block _ (by omega)).trans HK.out.b9,⟨_,_,hv2,hr2,fun h=>?_⟩,HK.out.bel.trans (hbb.mono (by omega)),ahJ HK.out.bs hbb.size⟩;have h1:i=1:=by omega
   have h4:=hk4 h1;subst h4;refine ⟨⟨A2.heap.size,0,none⟩,4,?_⟩;rw [List.getElem?_append_right (by omega),hxl,h1];rfl
  ·obtain ⟨b',zs,e1,e2⟩:=HR.out;exact ⟨b',zs,e1,hkk e2 (by decide) (by decide)⟩
  ·obtain ⟨x1,x2,x3,x4,x5,x6⟩:=HE.out;exact ⟨hkk x1 (by decide) (by decide),hkk x2 (by decide) (by decide),hkk x3 (by decide) (by decide),hkk x4 (by decide) (by decide),hkk x5 (by decide) (by decide),hkk x6 (by decide) (by decide)⟩
  ·intro e he;obtain ⟨ty,fz,h5⟩:=HG.out e he;refine ⟨ty,fz,?_⟩;have hge:e=(0,[.int .i64 5400000,.int .i64 5400000]):=by simpa [Ev.GS] using he
   have hbb:Below W1.heap.size A2 (w1.setCell ⟨W1.heap.size,0,none⟩ (.slice (some ⟨g',0,none⟩) (i+1) cap')):=(HBM.out.mono HK.out.bs).trans hb2;rw [hbb.block e.1 (by rw [hge];simp;omega)];exact h5
 ·intro A hK hD hG;obtain ⟨v,xs,o1,o2,o3⟩:=hK.out;have hc:=o1.cell;obtain ⟨g',cap',rfl⟩:=ownsRow_succ o2;have x8:=hK.b8;have x9:=hK.b9;have HK:=aaX hK;have HO2:=aaX o2;have HO3:=aaX o3;have c8:A.cell? ⟨w.heap.size+1,0,none⟩=some (.slice none 0 0):=by simp [World.cell?,x8]
  have c9:A.cell? ⟨w.heap.size+1+1,0,none⟩=some (.int .i64 0):=by simp [World.cell?,x9]
  have f8:A.frozen? ⟨w.heap.size+1,0,none⟩=false:=by simp [World.frozen?,x8]
  have f9:A.frozen? ⟨w.heap.size+1+1,0,none⟩=false:=by simp [World.frozen?,x9]
  clear hK o2 o3 o1 x8 x9;gi_wp2
  have hB:=HK.out.bel;have hbs:=HK.out.bs;have hlt9:w.heap.size+2<A.heap.size:=(Array.getElem?_eq_some_iff.1 HK.out.b9).1;obtain ⟨A1,hA1⟩:∃A1,(A.setCell ⟨w.heap.size+1,0,none⟩ (.slice (some ⟨g',0,none⟩) 2 cap')).setCell ⟨w.heap.size+1+1,0,none⟩ (.int .i64 0)=A1:=⟨_,rfl⟩;have k1:∀b,b≠w.heap.size+1→b≠w.heap.size+2→A1.heap[b]? =A.heap[b]? :=fun b n1 n2=>by
   rw [←hA1,Below.heap_setCell _ _ _ _ (by simpa using n2),Below.heap_setCell _ _ _ _ (by simpa using n1)]
  have y8:Boxed A1 (w.heap.size+1) 92 (.slice (some ⟨g',0,none⟩) 2 cap'):=by
   rw [←hA1];exact (Boxed.set _ (show Boxed A (w.heap.size+1) 92 _ from HK.out.b8)).other (by omega) _
  have y9:Boxed A1 (w.heap.size+2) 30 (.int .i64 0):=by
   rw [←hA1];exact Boxed.set _ (Boxed.other (show Boxed A (w.heap.size+2) 30 _ from HK.out.b9) (by omega) _)
  have hB1:Below w.heap.size w A1:=by
   rw [←hA1];exact (hB.setCell (p:=⟨w.heap.size+1,0,none⟩) (by simp) _).setCell (p:=⟨w.heap.size+1+1,0,none⟩) (by simp;omega) _
  have hD1:A1.heap[W2.heap.size]? =some (.deferred (some [])):=(k1 _ (by omega) (by omega)).trans hD;have hR1:(∃cur t f,A1.heap[g']? =some (.cells cur t f))∧A1.cell? ⟨g',1,none⟩=xs[1]? :=by
   rcases HO2.out.2 with ⟨e,_⟩ | ⟨g,cap,cur,e,hbg,hgb,hcur,hx⟩
   ·cases e
   ·cases e;refine ⟨⟨cur,53,_,(k1 g' (by omega) (by omega)).trans hgb⟩,?_⟩;rw [show A1.cell? ⟨g',1,none⟩=A.cell? ⟨g',1,none⟩ from World.cell?_of_block (k1 g' (by omega) (by omega))];obtain ⟨_,_,hx⟩:=(show 2≤cap'∧cap'≤maxLen∧cur.size=cap'*1∧List.take (2*1) cur.toList=xs from ⟨hcur,hx⟩).2;rw [←hx,List.getElem?_take];simp [World.cell?,hgb]
  obtain ⟨Ad,c,hxc⟩:=HO3.out trivial;rw [hA1];rw [←hsk];refine ⟨by simp,.inl ⟨_,_,rfl,run_takeDeferred hD1,?_⟩⟩;refine ⟨_,?_,g',⟨cap',rfl⟩,⟨Ad,c,?_⟩,?_⟩
  ·exact MD rfl _ _ rfl rfl (by unfold isAgg;rw [Sem.run_bind,run_underlying Tryz.underlying92];rfl) (by unfold isAgg;rw [Sem.run_bind,run_underlying Tryz.underlying30];rfl) ((y8.kept (grownBy_putObj' A1 _ _) (by simp;omega)).cell) ((y9.kept (grownBy_putObj' A1 _ _) (by simp;omega)).cell)
  ·rw [World.cell?_of_block (w:=A1) (anQ (by intro e;obtain ⟨_,_,_,q⟩:=hR1.1;have e':g'=W2.heap.size:=e;rw [e'] at q;rw [q] at hD1;cases hD1)),hR1.2,hxc]
  ·exact hB1.grown (grownBy_putObj' A1 _ _) hB1.size (fun j e=>by cases e;have:=hB2.size;omega)
end
end
section
open Go.RowKit
attribute [local go_sem] Oper.semAt_some
noncomputable section
theorem fix_calls (w:World) (hg:Ev.eJ w) {bc br:Nat} (h7:w.heap[bc]? =some (.cells ⟨iv (uB++uC)⟩ 50 (0,0))) (h2:w.heap[br]? =some (.cells #[.slice none 0 0] 157 (0,0))):
  Calls aaZ 17 #[qQ bc,rC br,SV,.int .i64 4] w fun e w'=>∃A c,e=.returned (.tuple #[.slice (some A) 4 c,.int .i64 0])∧Below w.heap.size w w':=by
 have HG:=aaX hg;have H7:=aaX h7;have H2:=aaX h2;clear hg h7 h2;unfold qQ rC SV;go_enter Tryz.func17,Tryz.ntmps17;go_wp2_with fail
 have hb0:Below w.heap.size w (w.alloc (.cells #[.int .i64 0,.int .i64 3000000,.int .i64 0,.int .i64 5400000] 52)):=(aeX _ w).alloc (aaJ _) _;have hs:=ZV _ (HG.out.of fun g hg _=>hb0.block g hg) ((hb0.block _ (Array.getElem?_eq_some_iff.1 H7.out).1).trans H7.out) ((hb0.block _ (Array.getElem?_eq_some_iff.1 H2.out).1).trans H2.out);unfold qQ rC SV at hs;refine hs.mono ?_;rintro e w1 ⟨bo,c,A,c',rfl,hc,hb1⟩;have HB:=aaX (hb0.trans (hb1.mono hb0.size));clear hb0 hb1 hs;go_wp2_with fail
 go_ret2
 exact ⟨A,c',rfl,HB.out⟩
theorem BZ {w0 W w1:World} {k:Nat} {v0 v1 v2 v3:Value} (h:(W.cell? ⟨k,0,none⟩=some v0∧W.cell? ⟨k,1,none⟩=some v1∧W.cell? ⟨k,2,none⟩=some v2∧W.cell? ⟨k,3,none⟩=some v3)∧Below w0.heap.size w0 W) (hb:Below W.heap.size W w1):
  (w1.cell? ⟨k,0,none⟩=some v0∧w1.cell? ⟨k,1,none⟩=some v1∧w1.cell? ⟨k,2,none⟩=some v2∧w1.cell? ⟨k,3,none⟩=some v3)∧Below w0.heap.size w0 w1:=by
 obtain ⟨⟨h0,h1,h2,h3⟩,hB⟩:=h;have hlt:=World.block_lt_of_cell? W _ h0;exact ⟨⟨(hb.cell (p:=⟨k,0,none⟩) hlt).trans h0,(hb.cell (p:=⟨k,1,none⟩) hlt).trans h1,(hb.cell (p:=⟨k,2,none⟩) hlt).trans h2,(hb.cell (p:=⟨k,3,none⟩) hlt).trans h3⟩,hB.trans (hb.mono hB.size)⟩
theorem at8 (n:Int) (w:World):Calls aaZ 8 #[.int .i64 n] w fun e w'=>e=.returned (.agg #[.int .i64 n,.int .i64 n])∧Below w.heap.size w w':=by
 go_enter Tryz.func8,Tryz.ntmps8;go_wp2_with fail
 refine bodyPost_ret (results_cell_row rfl _ _ _ 23 _ (0,0) _ rfl (heap_alloc_new w _) Tryz.underlying23 rfl rfl) rfl ⟨rfl,(aeX _ w).alloc (aaJ _) _⟩
theorem VB (w:World) (hg:Ev.eJ w):Calls aaZ 4 #[] w fun e w'=>e=.returned (.bool true)∧Below w.heap.size w w':=by
  have HG:=aaX hg
  have HBE:=aaX (rM 0 0 0 0 3600000 3600000)
  rw [best_x] at HBE
  clear hg
  unfold pG cU at HBE
  go_enter Tryz.func4,Tryz.ntmps4
  go_wp2_with fail
  refine (at8 3600000 w).mono ?_
  rintro e w1 ⟨rfl,hb1⟩
  go_wp2_with fail
  refine (HBE.out w1 (HG.out.of fun g hg _=>hb1.block g hg)).mono ?_
  rintro e w2 ⟨rfl,hb2⟩
  have HB2:=aaX (hb1.trans (hb2.mono hb1.size))
  clear hb1 hb2
  go_wp2_with fail
  refine (at8 3600000 _).mono ?_
  rintro e w3 ⟨rfl,hb3⟩
  have HB3:=aaX hb3
  clear hb3
  go_wp2_with fail
  refine (at8 5400000 _).mono ?_
  rintro e w4 ⟨rfl,hb4⟩
  have HB4:=aaX hb4
  clear hb4
  go_wp2_with fail
  refine (at8 3600000 _).mono ?_
  rintro e w5 ⟨rfl,hb5⟩
  have b3:Below w2.heap.size w2 w3:=((aeX _ w2).alloc (aaJ _) _).trans (HB3.out.mono (by simp))
  have b5:Below (w3.heap.size+1) (w3.alloc (.cells #[.int .i64 0,.int .i64 0,.int .i64 0,.int .i64 0,.int .i64 3600000,.int .i64 3600000] 50)) w5:=(HB4.out.trans (hb5.mono HB4.out.size)).mono (by simp)
  have b35:Below w3.heap.size w3 w5:=((aeX _ w3).alloc (aaJ _) _).trans (b5.mono (by omega))
  have p1:w5.heap[w2.heap.size]? =some (.cells #[.int .i64 1800000,.int .i64 1800000,.int .i64 16200000,.int .i64 16200000] 29 (0,0)):=
    (b35.block _ (by have:=HB3.out.size;simp at this;omega)).trans ((HB3.out.block _ (by simp)).trans (heap_alloc_new w2 _))
  have p3:w5.heap[w3.heap.size]? =some (.cells #[.int .i64 0,.int .i64 0,.int .i64 0,.int .i64 0,.int .i64 3600000,.int .i64 3600000] 50 (0,0)):=(b5.block _ (by omega)).trans (heap_alloc_new w3 _)
  have l3:w3.heap.size<w5.heap.size:=(Array.getElem?_eq_some_iff.1 p3).1
  have hb5':Below w.heap.size w w5:=(HB2.out.trans (b3.mono HB2.out.size)).trans (b35.mono (ahJ HB2.out.size b3.size))
  clear HB2 HB3 HB4 b3 b5 b35 hb5
  have HB:=aaX hb5'
  have H1:=aaX p1
  clear hb5' p1
  have c0:=fR (.cells ⟨[.int .i64 0,.int .i64 3000000,.int .i64 0,.int .i64 5400000]⟩ 52) (fR (W:=w5) (.cells #[.int .i64 0,.int .i64 0,.int .i64 5400000,.int .i64 5400000,.int .i64 3600000,.int .i64 3600000] 50) (a:=⟨w3.heap.size,0,none⟩) (v:=.int .i64 0) (by simp [World.cell?,p3]))
  have c1:=fR (.cells ⟨[.int .i64 0,.int .i64 3000000,.int .i64 0,.int .i64 5400000]⟩ 52) (fR (W:=w5) (.cells #[.int .i64 0,.int .i64 0,.int .i64 5400000,.int .i64 5400000,.int .i64 3600000,.int .i64 3600000] 50) (a:=⟨w3.heap.size,1,none⟩) (v:=.int .i64 0) (by simp [World.cell?,p3]))
  have c2:=fR (.cells ⟨[.int .i64 0,.int .i64 3000000,.int .i64 0,.int .i64 5400000]⟩ 52) (fR (W:=w5) (.cells #[.int .i64 0,.int .i64 0,.int .i64 5400000,.int .i64 5400000,.int .i64 3600000,.int .i64 3600000] 50) (a:=⟨w3.heap.size,2,none⟩) (v:=.int .i64 0) (by simp [World.cell?,p3]))
  have c3:=fR (.cells ⟨[.int .i64 0,.int .i64 3000000,.int .i64 0,.int .i64 5400000]⟩ 52) (fR (W:=w5) (.cells #[.int .i64 0,.int .i64 0,.int .i64 5400000,.int .i64 5400000,.int .i64 3600000,.int .i64 3600000] 50) (a:=⟨w3.heap.size,3,none⟩) (v:=.int .i64 0) (by simp [World.cell?,p3]))
  have c4:=fR (.cells ⟨[.int .i64 0,.int .i64 3000000,.int .i64 0,.int .i64 5400000]⟩ 52) (fR (W:=w5) (.cells #[.int .i64 0,.int .i64 0,.int .i64 5400000,.int .i64 5400000,.int .i64 3600000,.int .i64 3600000] 50) (a:=⟨w3.heap.size,4,none⟩) (v:=.int .i64 3600000) (by simp [World.cell?,p3]))
  have c5:=fR (.cells ⟨[.int .i64 0,.int .i64 3000000,.int .i64 0,.int .i64 5400000]⟩ 52) (fR (W:=w5) (.cells #[.int .i64 0,.int .i64 0,.int .i64 5400000,.int .i64 5400000,.int .i64 3600000,.int .i64 3600000] 50) (a:=⟨w3.heap.size,5,none⟩) (v:=.int .i64 3600000) (by simp [World.cell?,p3]))
  clear p3
  go_wp2_with fail
  have hbn:Below w5.heap.size w5 ((((w5.alloc (.cells #[.int .i64 0,.int .i64 0,.int .i64 5400000,.int .i64 5400000,.int .i64 3600000,.int .i64 3600000] 50)).alloc (.cells #[.int .i64 0,.int .i64 3000000,.int .i64 0,.int .i64 5400000] 52)).alloc (.cells #[.int .i64 0,.int .i64 0,.int .i64 0,.int .i64 0,.int .i64 3600000,.int .i64 3600000,.int .i64 0,.int .i64 0,.int .i64 5400000,.int .i64 5400000,.int .i64 3600000,.int .i64 3600000] 50)).alloc (.cells #[.slice none 0 0] 157)):=
    ((((aeX _ w5).alloc (aaJ _) _).alloc (by simp) _).alloc (by simp;omega) _).alloc (by simp;omega) _
  have g7:=(ahX (((w5.alloc (.cells #[.int .i64 0,.int .i64 0,.int .i64 5400000,.int .i64 5400000,.int .i64 3600000,.int .i64 3600000] 50)).alloc (.cells #[.int .i64 0,.int .i64 3000000,.int .i64 0,.int .i64 5400000] 52)).alloc (.cells #[.int .i64 0,.int .i64 0,.int .i64 0,.int .i64 0,.int .i64 3600000,.int .i64 3600000,.int .i64 0,.int .i64 0,.int .i64 5400000,.int .i64 5400000,.int .i64 3600000,.int .i64 3600000] 50)) (.cells #[.slice none 0 0] 157) (w5.heap.size+1+1) (by simp)).trans (show _=some (.cells ⟨iv (uB++uC)⟩ 50 (0,0)) by
    have:=heap_alloc_new ((w5.alloc (.cells #[.int .i64 0,.int .i64 0,.int .i64 5400000,.int .i64 5400000,.int .i64 3600000,.int .i64 3600000] 50)).alloc (.cells #[.int .i64 0,.int .i64 3000000,.int .i64 0,.int .i64 5400000] 52)) (.cells #[.int .i64 0,.int .i64 0,.int .i64 0,.int .i64 0,.int .i64 3600000,.int .i64 3600000,.int .i64 0,.int .i64 0,.int .i64 5400000,.int .i64 5400000,.int .i64 3600000,.int .i64 3600000] 50)
    rwa [agZ,agZ] at this)
  have g8:=heap_alloc_new (((w5.alloc (.cells #[.int .i64 0,.int .i64 0,.int .i64 5400000,.int .i64 5400000,.int .i64 3600000,.int .i64 3600000] 50)).alloc (.cells #[.int .i64 0,.int .i64 3000000,.int .i64 0,.int .i64 5400000] 52)).alloc (.cells #[.int .i64 0,.int .i64 0,.int .i64 0,.int .i64 0,.int .i64 3600000,.int .i64 3600000,.int .i64 0,.int .i64 0,.int .i64 5400000,.int .i64 5400000,.int .i64 3600000,.int .i64 3600000] 50)) (.cells #[.slice none 0 0] 157)
  rw [agZ,agZ,agZ] at g8
  have hfx:=fix_calls _ (HG.out.of fun g hg _=>(HB.out.trans (hbn.mono HB.out.size)).block g hg) g7 g8
  unfold qQ rC SV at hfx
  refine hfx.mono ?_
  clear hfx g7 g8 c0 c1 c2 c3 c4 c5
  rintro e w6 ⟨A,c,rfl,hb6⟩
  have hb56:Below w5.heap.size w5 w6:=hbn.trans (hb6.mono hbn.size)
  have hB6:=HB.out.trans (hb56.mono HB.out.size)
  have p1:=(hb56.block _ (Array.getElem?_eq_some_iff.1 H1.out).1).trans H1.out
  have d0:w6.cell? ⟨w2.heap.size,0,none⟩=some (.int .i64 1800000):=by simp [World.cell?,p1]
  have d1:w6.cell? ⟨w2.heap.size,1,none⟩=some (.int .i64 1800000):=by simp [World.cell?,p1]
  have d2:w6.cell? ⟨w2.heap.size,2,none⟩=some (.int .i64 16200000):=by simp [World.cell?,p1]
  have d3:w6.cell? ⟨w2.heap.size,3,none⟩=some (.int .i64 16200000):=by simp [World.cell?,p1]
  have HX:=aaX (show (w6.cell? ⟨w2.heap.size,0,none⟩=some (.int .i64 1800000)∧w6.cell? ⟨w2.heap.size,1,none⟩=some (.int .i64 1800000)∧w6.cell? ⟨w2.heap.size,2,none⟩=some (.int .i64 16200000)∧w6.cell? ⟨w2.heap.size,3,none⟩=some (.int .i64 16200000))∧Below w.heap.size w w6 from ⟨⟨d0,d1,d2,d3⟩,hB6⟩)
  clear hbn hb6 hb56 HB H1 p1 hB6 d0 d1 d2 d3
  go_wp2_with fail
  go_region_held3 (fun w'=>(w'.cell? ⟨w2.heap.size,0,none⟩=some (.int .i64 1800000)∧w'.cell? ⟨w2.heap.size,1,none⟩=some (.int .i64 1800000)∧w'.cell? ⟨w2.heap.size,2,none⟩=some (.int .i64 16200000)∧w'.cell? ⟨w2.heap.size,3,none⟩=some (.int .i64 16200000))∧Below w.heap.size w w')
    (first
      | (with_reducible exact HX.out)
      | (with_reducible exact SS.out)
      | (with_reducible exact BZ HX.out (Below.drew (aeX _ _)))
      | (with_reducible exact BZ SS.out (Below.drew (aeX _ _)))
      | fail)
    (first
      | (go_at_call 8
         with_reducible refine (at8 _ _).mono ?_
         rintro e w7 ⟨rfl,hb7⟩
         have SS:=aaX (BZ (w1:=w7) (by assumption) hb7))
      | fail)
  all_goals (have HF:=aaX SS.out.2;clear SS HX;go_wp2_with fail;go_ret;exact ⟨rfl,HF.out⟩)
theorem DF:Ev.aH aaZ 4 [] (.bool true):=fun w hg=>VB w hg
end
end
end
end Go.Proofs.YtajpgkpdhcbngaaGreatDoor
