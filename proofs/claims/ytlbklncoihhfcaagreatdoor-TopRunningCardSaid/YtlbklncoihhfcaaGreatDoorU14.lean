/-
  What a circle says of a cell: what region.sine, agrees and sure give. What circles say of cells: closures of region.Of (CirH). Wide integers: products and quotients of what is small. Enclosures grow.
-/
import Derived.Test.YtlbklncoihhfcaaGreatDoorU6
import Derived.Test.YtlbklncoihhfcaaGreatDoorU13
import Derived.Test.YtlbklncoihhfcaaGreatDoorU5
import Derived.Test.YtlbklncoihhfcaaGreatDoorU2
set_option maxRecDepth 100000
set_option maxHeartbeats 4000000
open Go.RowKit.Below renaming heap_alloc→zW,refl→zD
open _root_.Int renaming add_mul→aiX,mul_comm→aiJ,mul_nonneg→zX,neg_mul→xT
open Go.Lib renaming hid→zA
open _root_.Nat renaming le_refl→zC
open Go.Proofs.Tryz renaming prog→zB
open Go.World renaming setCell→qK,size_alloc→qF
open Go.IntKind (i64 u64)
open Go.Value renaming int→jI
open Go.IntKind renaming i64→jJ
open Go.IntKind renaming u64→jU
open Go.Obj renaming cells→jC
open Go.Value renaming agg→jA
namespace Go.Proofs.YtlbklncoihhfcaaGreatDoor
noncomputable section
section
open Ev
open Ev (Gl)
def eC0(F:Int->Int->Value):AL
 | [.v (jA ⟨[jI jJ 0,jI jJ a,jI jJ b]⟩)],[]=>some (true,.v (F a b),[])
 |_,_=>none
theorem Vx[Gl]{P:Program}{g:FuncId}{F:Int->Int->Value}(h:∀a b,aF P g [jA ⟨[jI jJ 0,jI jJ a,jI jJ b]⟩] (F a b))(args:List AV)(L:Ev.cD)(z:Bool)(r:AV)(c:Ev.cD)(q:eC0 F args L=some (z,r,c))(_:z=true):fZ P g args L r c:=by
 unfold eC0 at q;split at q
 ·cases q;exact bK (h _ _)
 ·cases q
def eC1(F:Int->Int->Value):AL
 | [.v (jA ⟨[jI jJ 1,jI jJ a,jI jJ b]⟩)],[]=>some (true,.v (F a b),[])
 |_,_=>none
theorem Vy[Gl]{P:Program}{g:FuncId}{F:Int->Int->Value}(h:∀a b,aF P g [jA ⟨[jI jJ 1,jI jJ a,jI jJ b]⟩] (F a b))(args:List AV)(L:Ev.cD)(z:Bool)(r:AV)(c:Ev.cD)(q:eC1 F args L=some (z,r,c))(_:z=true):fZ P g args L r c:=by
 unfold eC1 at q;split at q
 ·cases q;exact bK (h _ _)
 ·cases q
def eC2(F:Int->Int->Value):AL
 | [.v (jA ⟨[jI jJ 2,jI jJ a,jI jJ b]⟩)],[]=>some (true,.v (F a b),[])
 |_,_=>none
theorem Vz[Gl]{P:Program}{g:FuncId}{F:Int->Int->Value}(h:∀a b,aF P g [jA ⟨[jI jJ 2,jI jJ a,jI jJ b]⟩] (F a b))(args:List AV)(L:Ev.cD)(z:Bool)(r:AV)(c:Ev.cD)(q:eC2 F args L=some (z,r,c))(_:z=true):fZ P g args L r c:=by
 unfold eC2 at q;split at q
 ·cases q;exact bK (h _ _)
 ·cases q
def eC3(F:Int->Int->Value):AL
 | [.v (jA ⟨[jI jJ 3,jI jJ a,jI jJ b]⟩)],[]=>some (true,.v (F a b),[])
 |_,_=>none
theorem Wb[Gl]{P:Program}{g:FuncId}{F:Int->Int->Value}(h:∀a b,aF P g [jA ⟨[jI jJ 3,jI jJ a,jI jJ b]⟩] (F a b))(args:List AV)(L:Ev.cD)(z:Bool)(r:AV)(c:Ev.cD)(q:eC3 F args L=some (z,r,c))(_:z=true):fZ P g args L r c:=by
 unfold eC3 at q;split at q
 ·cases q;exact bK (h _ _)
 ·cases q
def eC4(F:Int->Int->Value):AL
 | [.v (jA ⟨[jI jJ 4,jI jJ a,jI jJ b]⟩)],[]=>some (true,.v (F a b),[])
 |_,_=>none
theorem Wd[Gl]{P:Program}{g:FuncId}{F:Int->Int->Value}(h:∀a b,aF P g [jA ⟨[jI jJ 4,jI jJ a,jI jJ b]⟩] (F a b))(args:List AV)(L:Ev.cD)(z:Bool)(r:AV)(c:Ev.cD)(q:eC4 F args L=some (z,r,c))(_:z=true):fZ P g args L r c:=by
 unfold eC4 at q;split at q
 ·cases q;exact bK (h _ _)
 ·cases q
def eC5(F:Int->Int->Value):AL
 | [.v (jA ⟨[jI jJ 5,jI jJ a,jI jJ b]⟩)],[]=>some (true,.v (F a b),[])
 |_,_=>none
theorem We[Gl]{P:Program}{g:FuncId}{F:Int->Int->Value}(h:∀a b,aF P g [jA ⟨[jI jJ 5,jI jJ a,jI jJ b]⟩] (F a b))(args:List AV)(L:Ev.cD)(z:Bool)(r:AV)(c:Ev.cD)(q:eC5 F args L=some (z,r,c))(_:z=true):fZ P g args L r c:=by
 unfold eC5 at q;split at q
 ·cases q;exact bK (h _ _)
 ·cases q
def F4{α:Type}(K:Int->Int->Int->α)(a b c d _e _f u v w x:Int):α:=lt (fK u v) fun x1=>lt (fK a b) fun x2=>cond (x1.2.2==0) (lt (aZ x1.1 x1.2.1 x2.1 x2.2.1) fun x3=>cond (x2.2.2==0) (lt (bB u v) fun x4=>cond (x3.2.2==0) (lt (bB a b) fun x5=>cond (x4.2.2==0) (lt (aZ x4.1 x4.2.1 x5.1 x5.2.1) fun x6=>cond (x5.2.2==0) (lt (bB (i64.wrap (w-d)) (i64.wrap (x-c))) fun x7=>cond (x6.2.2==0) (lt (aZ x6.1 x6.2.1 x7.1 x7.2.1) fun x8=>cond (x7.2.2==0) (lt (aQ x3.1 x3.2.1 x8.1 x8.2.1) fun x9=>cond (x8.2.2==0) (K x9.1 x9.2.1 x9.2.2) (K x9.1 x9.2.1 x8.2.2)) (lt (aQ x3.1 x3.2.1 x8.1 x8.2.1) fun x10=>cond (x7.2.2==0) (K x10.1 x10.2.1 x10.2.2) (K x10.1 x10.2.1 x7.2.2))) (lt (aZ x6.1 x6.2.1 x7.1 x7.2.1) fun x11=>cond (x6.2.2==0) (lt (aQ x3.1 x3.2.1 x11.1 x11.2.1) fun x12=>cond (x11.2.2==0) (K x12.1 x12.2.1 x12.2.2) (K x12.1 x12.2.1 x11.2.2)) (lt (aQ x3.1 x3.2.1 x11.1 x11.2.1) fun x13=>cond (x6.2.2==0) (K x13.1 x13.2.1 x13.2.2) (K x13.1 x13.2.1 x6.2.2)))) (lt (bB (i64.wrap (w-d)) (i64.wrap (x-c))) fun x14=>cond (x5.2.2==0) (lt (aZ x6.1 x6.2.1 x14.1 x14.2.1) fun x15=>cond (x14.2.2==0) (lt (aQ x3.1 x3.2.1 x15.1 x15.2.1) fun x16=>cond (x15.2.2==0) (K x16.1 x16.2.1 x16.2.2) (K x16.1 x16.2.1 x15.2.2)) (lt (aQ x3.1 x3.2.1 x15.1 x15.2.1) fun x17=>cond (x14.2.2==0) (K x17.1 x17.2.1 x17.2.2) (K x17.1 x17.2.1 x14.2.2))) (lt (aZ x6.1 x6.2.1 x14.1 x14.2.1) fun x18=>cond (x5.2.2==0) (lt (aQ x3.1 x3.2.1 x18.1 x18.2.1) fun x19=>cond (x18.2.2==0) (K x19.1 x19.2.1 x19.2.2) (K x19.1 x19.2.1 x18.2.2)) (lt (aQ x3.1 x3.2.1 x18.1 x18.2.1) fun x20=>cond (x5.2.2==0) (K x20.1 x20.2.1 x20.2.2) (K x20.1 x20.2.1 x5.2.2))))) (lt (aZ x4.1 x4.2.1 x5.1 x5.2.1) fun x21=>cond (x4.2.2==0) (lt (bB (i64.wrap (w-d)) (i64.wrap (x-c))) fun x22=>cond (x21.2.2==0) (lt (aZ x21.1 x21.2.1 x22.1 x22.2.1) fun x23=>cond (x22.2.2==0) (lt (aQ x3.1 x3.2.1 x23.1 x23.2.1) fun x24=>cond (x23.2.2==0) (K x24.1 x24.2.1 x24.2.2) (K x24.1 x24.2.1 x23.2.2)) (lt (aQ x3.1 x3.2.1 x23.1 x23.2.1) fun x25=>cond (x22.2.2==0) (K x25.1 x25.2.1 x25.2.2) (K x25.1 x25.2.1 x22.2.2))) (lt (aZ x21.1 x21.2.1 x22.1 x22.2.1) fun x26=>cond (x21.2.2==0) (lt (aQ x3.1 x3.2.1 x26.1 x26.2.1) fun x27=>cond (x26.2.2==0) (K x27.1 x27.2.1 x27.2.2) (K x27.1 x27.2.1 x26.2.2)) (lt (aQ x3.1 x3.2.1 x26.1 x26.2.1) fun x28=>cond (x21.2.2==0) (K x28.1 x28.2.1 x28.2.2) (K x28.1 x28.2.1 x21.2.2)))) (lt (bB (i64.wrap (w-d)) (i64.wrap (x-c))) fun x29=>cond (x4.2.2==0) (lt (aZ x21.1 x21.2.1 x29.1 x29.2.1) fun x30=>cond (x29.2.2==0) (lt (aQ x3.1 x3.2.1 x30.1 x30.2.1) fun x31=>cond (x30.2.2==0) (K x31.1 x31.2.1 x31.2.2) (K x31.1 x31.2.1 x30.2.2)) (lt (aQ x3.1 x3.2.1 x30.1 x30.2.1) fun x32=>cond (x29.2.2==0) (K x32.1 x32.2.1 x32.2.2) (K x32.1 x32.2.1 x29.2.2))) (lt (aZ x21.1 x21.2.1 x29.1 x29.2.1) fun x33=>cond (x4.2.2==0) (lt (aQ x3.1 x3.2.1 x33.1 x33.2.1) fun x34=>cond (x33.2.2==0) (K x34.1 x34.2.1 x34.2.2) (K x34.1 x34.2.1 x33.2.2)) (lt (aQ x3.1 x3.2.1 x33.1 x33.2.1) fun x35=>cond (x4.2.2==0) (K x35.1 x35.2.1 x35.2.2) (K x35.1 x35.2.1 x4.2.2)))))) (lt (bB a b) fun x36=>cond (x3.2.2==0) (lt (aZ x4.1 x4.2.1 x36.1 x36.2.1) fun x37=>cond (x36.2.2==0) (lt (bB (i64.wrap (w-d)) (i64.wrap (x-c))) fun x38=>cond (x37.2.2==0) (lt (aZ x37.1 x37.2.1 x38.1 x38.2.1) fun x39=>cond (x38.2.2==0) (lt (aQ x3.1 x3.2.1 x39.1 x39.2.1) fun x40=>cond (x39.2.2==0) (K x40.1 x40.2.1 x40.2.2) (K x40.1 x40.2.1 x39.2.2)) (lt (aQ x3.1 x3.2.1 x39.1 x39.2.1) fun x41=>cond (x38.2.2==0) (K x41.1 x41.2.1 x41.2.2) (K x41.1 x41.2.1 x38.2.2))) (lt (aZ x37.1 x37.2.1 x38.1 x38.2.1) fun x42=>cond (x37.2.2==0) (lt (aQ x3.1 x3.2.1 x42.1 x42.2.1) fun x43=>cond (x42.2.2==0) (K x43.1 x43.2.1 x43.2.2) (K x43.1 x43.2.1 x42.2.2)) (lt (aQ x3.1 x3.2.1 x42.1 x42.2.1) fun x44=>cond (x37.2.2==0) (K x44.1 x44.2.1 x44.2.2) (K x44.1 x44.2.1 x37.2.2)))) (lt (bB (i64.wrap (w-d)) (i64.wrap (x-c))) fun x45=>cond (x36.2.2==0) (lt (aZ x37.1 x37.2.1 x45.1 x45.2.1) fun x46=>cond (x45.2.2==0) (lt (aQ x3.1 x3.2.1 x46.1 x46.2.1) fun x47=>cond (x46.2.2==0) (K x47.1 x47.2.1 x47.2.2) (K x47.1 x47.2.1 x46.2.2)) (lt (aQ x3.1 x3.2.1 x46.1 x46.2.1) fun x48=>cond (x45.2.2==0) (K x48.1 x48.2.1 x48.2.2) (K x48.1 x48.2.1 x45.2.2))) (lt (aZ x37.1 x37.2.1 x45.1 x45.2.1) fun x49=>cond (x36.2.2==0) (lt (aQ x3.1 x3.2.1 x49.1 x49.2.1) fun x50=>cond (x49.2.2==0) (K x50.1 x50.2.1 x50.2.2) (K x50.1 x50.2.1 x49.2.2)) (lt (aQ x3.1 x3.2.1 x49.1 x49.2.1) fun x51=>cond (x36.2.2==0) (K x51.1 x51.2.1 x51.2.2) (K x51.1 x51.2.1 x36.2.2))))) (lt (aZ x4.1 x4.2.1 x36.1 x36.2.1) fun x52=>cond (x3.2.2==0) (lt (bB (i64.wrap (w-d)) (i64.wrap (x-c))) fun x53=>cond (x52.2.2==0) (lt (aZ x52.1 x52.2.1 x53.1 x53.2.1) fun x54=>cond (x53.2.2==0) (lt (aQ x3.1 x3.2.1 x54.1 x54.2.1) fun x55=>cond (x54.2.2==0) (K x55.1 x55.2.1 x55.2.2) (K x55.1 x55.2.1 x54.2.2)) (lt (aQ x3.1 x3.2.1 x54.1 x54.2.1) fun x56=>cond (x53.2.2==0) (K x56.1 x56.2.1 x56.2.2) (K x56.1 x56.2.1 x53.2.2))) (lt (aZ x52.1 x52.2.1 x53.1 x53.2.1) fun x57=>cond (x52.2.2==0) (lt (aQ x3.1 x3.2.1 x57.1 x57.2.1) fun x58=>cond (x57.2.2==0) (K x58.1 x58.2.1 x58.2.2) (K x58.1 x58.2.1 x57.2.2)) (lt (aQ x3.1 x3.2.1 x57.1 x57.2.1) fun x59=>cond (x52.2.2==0) (K x59.1 x59.2.1 x59.2.2) (K x59.1 x59.2.1 x52.2.2)))) (lt (bB (i64.wrap (w-d)) (i64.wrap (x-c))) fun x60=>cond (x3.2.2==0) (lt (aZ x52.1 x52.2.1 x60.1 x60.2.1) fun x61=>cond (x60.2.2==0) (lt (aQ x3.1 x3.2.1 x61.1 x61.2.1) fun x62=>cond (x61.2.2==0) (K x62.1 x62.2.1 x62.2.2) (K x62.1 x62.2.1 x61.2.2)) (lt (aQ x3.1 x3.2.1 x61.1 x61.2.1) fun x63=>cond (x60.2.2==0) (K x63.1 x63.2.1 x63.2.2) (K x63.1 x63.2.1 x60.2.2))) (lt (aZ x52.1 x52.2.1 x60.1 x60.2.1) fun x64=>cond (x3.2.2==0) (lt (aQ x3.1 x3.2.1 x64.1 x64.2.1) fun x65=>cond (x64.2.2==0) (K x65.1 x65.2.1 x65.2.2) (K x65.1 x65.2.1 x64.2.2)) (lt (aQ x3.1 x3.2.1 x64.1 x64.2.1) fun x66=>cond (x3.2.2==0) (K x66.1 x66.2.1 x66.2.2) (K x66.1 x66.2.1 x3.2.2))))))) (lt (bB u v) fun x67=>cond (x2.2.2==0) (lt (bB a b) fun x68=>cond (x67.2.2==0) (lt (aZ x67.1 x67.2.1 x68.1 x68.2.1) fun x69=>cond (x68.2.2==0) (lt (bB (i64.wrap (w-d)) (i64.wrap (x-c))) fun x70=>cond (x69.2.2==0) (lt (aZ x69.1 x69.2.1 x70.1 x70.2.1) fun x71=>cond (x70.2.2==0) (lt (aQ x3.1 x3.2.1 x71.1 x71.2.1) fun x72=>cond (x71.2.2==0) (K x72.1 x72.2.1 x72.2.2) (K x72.1 x72.2.1 x71.2.2)) (lt (aQ x3.1 x3.2.1 x71.1 x71.2.1) fun x73=>cond (x70.2.2==0) (K x73.1 x73.2.1 x73.2.2) (K x73.1 x73.2.1 x70.2.2))) (lt (aZ x69.1 x69.2.1 x70.1 x70.2.1) fun x74=>cond (x69.2.2==0) (lt (aQ x3.1 x3.2.1 x74.1 x74.2.1) fun x75=>cond (x74.2.2==0) (K x75.1 x75.2.1 x75.2.2) (K x75.1 x75.2.1 x74.2.2)) (lt (aQ x3.1 x3.2.1 x74.1 x74.2.1) fun x76=>cond (x69.2.2==0) (K x76.1 x76.2.1 x76.2.2) (K x76.1 x76.2.1 x69.2.2)))) (lt (bB (i64.wrap (w-d)) (i64.wrap (x-c))) fun x77=>cond (x68.2.2==0) (lt (aZ x69.1 x69.2.1 x77.1 x77.2.1) fun x78=>cond (x77.2.2==0) (lt (aQ x3.1 x3.2.1 x78.1 x78.2.1) fun x79=>cond (x78.2.2==0) (K x79.1 x79.2.1 x79.2.2) (K x79.1 x79.2.1 x78.2.2)) (lt (aQ x3.1 x3.2.1 x78.1 x78.2.1) fun x80=>cond (x77.2.2==0) (K x80.1 x80.2.1 x80.2.2) (K x80.1 x80.2.1 x77.2.2))) (lt (aZ x69.1 x69.2.1 x77.1 x77.2.1) fun x81=>cond (x68.2.2==0) (lt (aQ x3.1 x3.2.1 x81.1 x81.2.1) fun x82=>cond (x81.2.2==0) (K x82.1 x82.2.1 x82.2.2) (K x82.1 x82.2.1 x81.2.2)) (lt (aQ x3.1 x3.2.1 x81.1 x81.2.1) fun x83=>cond (x68.2.2==0) (K x83.1 x83.2.1 x83.2.2) (K x83.1 x83.2.1 x68.2.2))))) (lt (aZ x67.1 x67.2.1 x68.1 x68.2.1) fun x84=>cond (x67.2.2==0) (lt (bB (i64.wrap (w-d)) (i64.wrap (x-c))) fun x85=>cond (x84.2.2==0) (lt (aZ x84.1 x84.2.1 x85.1 x85.2.1) fun x86=>cond (x85.2.2==0) (lt (aQ x3.1 x3.2.1 x86.1 x86.2.1) fun x87=>cond (x86.2.2==0) (K x87.1 x87.2.1 x87.2.2) (K x87.1 x87.2.1 x86.2.2)) (lt (aQ x3.1 x3.2.1 x86.1 x86.2.1) fun x88=>cond (x85.2.2==0) (K x88.1 x88.2.1 x88.2.2) (K x88.1 x88.2.1 x85.2.2))) (lt (aZ x84.1 x84.2.1 x85.1 x85.2.1) fun x89=>cond (x84.2.2==0) (lt (aQ x3.1 x3.2.1 x89.1 x89.2.1) fun x90=>cond (x89.2.2==0) (K x90.1 x90.2.1 x90.2.2) (K x90.1 x90.2.1 x89.2.2)) (lt (aQ x3.1 x3.2.1 x89.1 x89.2.1) fun x91=>cond (x84.2.2==0) (K x91.1 x91.2.1 x91.2.2) (K x91.1 x91.2.1 x84.2.2)))) (lt (bB (i64.wrap (w-d)) (i64.wrap (x-c))) fun x92=>cond (x67.2.2==0) (lt (aZ x84.1 x84.2.1 x92.1 x92.2.1) fun x93=>cond (x92.2.2==0) (lt (aQ x3.1 x3.2.1 x93.1 x93.2.1) fun x94=>cond (x93.2.2==0) (K x94.1 x94.2.1 x94.2.2) (K x94.1 x94.2.1 x93.2.2)) (lt (aQ x3.1 x3.2.1 x93.1 x93.2.1) fun x95=>cond (x92.2.2==0) (K x95.1 x95.2.1 x95.2.2) (K x95.1 x95.2.1 x92.2.2))) (lt (aZ x84.1 x84.2.1 x92.1 x92.2.1) fun x96=>cond (x67.2.2==0) (lt (aQ x3.1 x3.2.1 x96.1 x96.2.1) fun x97=>cond (x96.2.2==0) (K x97.1 x97.2.1 x97.2.2) (K x97.1 x97.2.1 x96.2.2)) (lt (aQ x3.1 x3.2.1 x96.1 x96.2.1) fun x98=>cond (x67.2.2==0) (K x98.1 x98.2.1 x98.2.2) (K x98.1 x98.2.1 x67.2.2)))))) (lt (bB a b) fun x99=>cond (x2.2.2==0) (lt (aZ x67.1 x67.2.1 x99.1 x99.2.1) fun x100=>cond (x99.2.2==0) (lt (bB (i64.wrap (w-d)) (i64.wrap (x-c))) fun x101=>cond (x100.2.2==0) (lt (aZ x100.1 x100.2.1 x101.1 x101.2.1) fun x102=>cond (x101.2.2==0) (lt (aQ x3.1 x3.2.1 x102.1 x102.2.1) fun x103=>cond (x102.2.2==0) (K x103.1 x103.2.1 x103.2.2) (K x103.1 x103.2.1 x102.2.2)) (lt (aQ x3.1 x3.2.1 x102.1 x102.2.1) fun x104=>cond (x101.2.2==0) (K x104.1 x104.2.1 x104.2.2) (K x104.1 x104.2.1 x101.2.2))) (lt (aZ x100.1 x100.2.1 x101.1 x101.2.1) fun x105=>cond (x100.2.2==0) (lt (aQ x3.1 x3.2.1 x105.1 x105.2.1) fun x106=>cond (x105.2.2==0) (K x106.1 x106.2.1 x106.2.2) (K x106.1 x106.2.1 x105.2.2)) (lt (aQ x3.1 x3.2.1 x105.1 x105.2.1) fun x107=>cond (x100.2.2==0) (K x107.1 x107.2.1 x107.2.2) (K x107.1 x107.2.1 x100.2.2)))) (lt (bB (i64.wrap (w-d)) (i64.wrap (x-c))) fun x108=>cond (x99.2.2==0) (lt (aZ x100.1 x100.2.1 x108.1 x108.2.1) fun x109=>cond (x108.2.2==0) (lt (aQ x3.1 x3.2.1 x109.1 x109.2.1) fun x110=>cond (x109.2.2==0) (K x110.1 x110.2.1 x110.2.2) (K x110.1 x110.2.1 x109.2.2)) (lt (aQ x3.1 x3.2.1 x109.1 x109.2.1) fun x111=>cond (x108.2.2==0) (K x111.1 x111.2.1 x111.2.2) (K x111.1 x111.2.1 x108.2.2))) (lt (aZ x100.1 x100.2.1 x108.1 x108.2.1) fun x112=>cond (x99.2.2==0) (lt (aQ x3.1 x3.2.1 x112.1 x112.2.1) fun x113=>cond (x112.2.2==0) (K x113.1 x113.2.1 x113.2.2) (K x113.1 x113.2.1 x112.2.2)) (lt (aQ x3.1 x3.2.1 x112.1 x112.2.1) fun x114=>cond (x99.2.2==0) (K x114.1 x114.2.1 x114.2.2) (K x114.1 x114.2.1 x99.2.2))))) (lt (aZ x67.1 x67.2.1 x99.1 x99.2.1) fun x115=>cond (x2.2.2==0) (lt (bB (i64.wrap (w-d)) (i64.wrap (x-c))) fun x116=>cond (x115.2.2==0) (lt (aZ x115.1 x115.2.1 x116.1 x116.2.1) fun x117=>cond (x116.2.2==0) (lt (aQ x3.1 x3.2.1 x117.1 x117.2.1) fun x118=>cond (x117.2.2==0) (K x118.1 x118.2.1 x118.2.2) (K x118.1 x118.2.1 x117.2.2)) (lt (aQ x3.1 x3.2.1 x117.1 x117.2.1) fun x119=>cond (x116.2.2==0) (K x119.1 x119.2.1 x119.2.2) (K x119.1 x119.2.1 x116.2.2))) (lt (aZ x115.1 x115.2.1 x116.1 x116.2.1) fun x120=>cond (x115.2.2==0) (lt (aQ x3.1 x3.2.1 x120.1 x120.2.1) fun x121=>cond (x120.2.2==0) (K x121.1 x121.2.1 x121.2.2) (K x121.1 x121.2.1 x120.2.2)) (lt (aQ x3.1 x3.2.1 x120.1 x120.2.1) fun x122=>cond (x115.2.2==0) (K x122.1 x122.2.1 x122.2.2) (K x122.1 x122.2.1 x115.2.2)))) (lt (bB (i64.wrap (w-d)) (i64.wrap (x-c))) fun x123=>cond (x2.2.2==0) (lt (aZ x115.1 x115.2.1 x123.1 x123.2.1) fun x124=>cond (x123.2.2==0) (lt (aQ x3.1 x3.2.1 x124.1 x124.2.1) fun x125=>cond (x124.2.2==0) (K x125.1 x125.2.1 x125.2.2) (K x125.1 x125.2.1 x124.2.2)) (lt (aQ x3.1 x3.2.1 x124.1 x124.2.1) fun x126=>cond (x123.2.2==0) (K x126.1 x126.2.1 x126.2.2) (K x126.1 x126.2.1 x123.2.2))) (lt (aZ x115.1 x115.2.1 x123.1 x123.2.1) fun x127=>cond (x2.2.2==0) (lt (aQ x3.1 x3.2.1 x127.1 x127.2.1) fun x128=>cond (x127.2.2==0) (K x128.1 x128.2.1 x128.2.2) (K x128.1 x128.2.1 x127.2.2)) (lt (aQ x3.1 x3.2.1 x127.1 x127.2.1) fun x129=>cond (x2.2.2==0) (K x129.1 x129.2.1 x129.2.2) (K x129.1 x129.2.1 x2.2.2)))))))) (lt (aZ x1.1 x1.2.1 x2.1 x2.2.1) fun x130=>cond (x1.2.2==0) (lt (bB u v) fun x131=>cond (x130.2.2==0) (lt (bB a b) fun x132=>cond (x131.2.2==0) (lt (aZ x131.1 x131.2.1 x132.1 x132.2.1) fun x133=>cond (x132.2.2==0) (lt (bB (i64.wrap (w-d)) (i64.wrap (x-c))) fun x134=>cond (x133.2.2==0) (lt (aZ x133.1 x133.2.1 x134.1 x134.2.1) fun x135=>cond (x134.2.2==0) (lt (aQ x130.1 x130.2.1 x135.1 x135.2.1) fun x136=>cond (x135.2.2==0) (K x136.1 x136.2.1 x136.2.2) (K x136.1 x136.2.1 x135.2.2)) (lt (aQ x130.1 x130.2.1 x135.1 x135.2.1) fun x137=>cond (x134.2.2==0) (K x137.1 x137.2.1 x137.2.2) (K x137.1 x137.2.1 x134.2.2))) (lt (aZ x133.1 x133.2.1 x134.1 x134.2.1) fun x138=>cond (x133.2.2==0) (lt (aQ x130.1 x130.2.1 x138.1 x138.2.1) fun x139=>cond (x138.2.2==0) (K x139.1 x139.2.1 x139.2.2) (K x139.1 x139.2.1 x138.2.2)) (lt (aQ x130.1 x130.2.1 x138.1 x138.2.1) fun x140=>cond (x133.2.2==0) (K x140.1 x140.2.1 x140.2.2) (K x140.1 x140.2.1 x133.2.2)))) (lt (bB (i64.wrap (w-d)) (i64.wrap (x-c))) fun x141=>cond (x132.2.2==0) (lt (aZ x133.1 x133.2.1 x141.1 x141.2.1) fun x142=>cond (x141.2.2==0) (lt (aQ x130.1 x130.2.1 x142.1 x142.2.1) fun x143=>cond (x142.2.2==0) (K x143.1 x143.2.1 x143.2.2) (K x143.1 x143.2.1 x142.2.2)) (lt (aQ x130.1 x130.2.1 x142.1 x142.2.1) fun x144=>cond (x141.2.2==0) (K x144.1 x144.2.1 x144.2.2) (K x144.1 x144.2.1 x141.2.2))) (lt (aZ x133.1 x133.2.1 x141.1 x141.2.1) fun x145=>cond (x132.2.2==0) (lt (aQ x130.1 x130.2.1 x145.1 x145.2.1) fun x146=>cond (x145.2.2==0) (K x146.1 x146.2.1 x146.2.2) (K x146.1 x146.2.1 x145.2.2)) (lt (aQ x130.1 x130.2.1 x145.1 x145.2.1) fun x147=>cond (x132.2.2==0) (K x147.1 x147.2.1 x147.2.2) (K x147.1 x147.2.1 x132.2.2))))) (lt (aZ x131.1 x131.2.1 x132.1 x132.2.1) fun x148=>cond (x131.2.2==0) (lt (bB (i64.wrap (w-d)) (i64.wrap (x-c))) fun x149=>cond (x148.2.2==0) (lt (aZ x148.1 x148.2.1 x149.1 x149.2.1) fun x150=>cond (x149.2.2==0) (lt (aQ x130.1 x130.2.1 x150.1 x150.2.1) fun x151=>cond (x150.2.2==0) (K x151.1 x151.2.1 x151.2.2) (K x151.1 x151.2.1 x150.2.2)) (lt (aQ x130.1 x130.2.1 x150.1 x150.2.1) fun x152=>cond (x149.2.2==0) (K x152.1 x152.2.1 x152.2.2) (K x152.1 x152.2.1 x149.2.2))) (lt (aZ x148.1 x148.2.1 x149.1 x149.2.1) fun x153=>cond (x148.2.2==0) (lt (aQ x130.1 x130.2.1 x153.1 x153.2.1) fun x154=>cond (x153.2.2==0) (K x154.1 x154.2.1 x154.2.2) (K x154.1 x154.2.1 x153.2.2)) (lt (aQ x130.1 x130.2.1 x153.1 x153.2.1) fun x155=>cond (x148.2.2==0) (K x155.1 x155.2.1 x155.2.2) (K x155.1 x155.2.1 x148.2.2)))) (lt (bB (i64.wrap (w-d)) (i64.wrap (x-c))) fun x156=>cond (x131.2.2==0) (lt (aZ x148.1 x148.2.1 x156.1 x156.2.1) fun x157=>cond (x156.2.2==0) (lt (aQ x130.1 x130.2.1 x157.1 x157.2.1) fun x158=>cond (x157.2.2==0) (K x158.1 x158.2.1 x158.2.2) (K x158.1 x158.2.1 x157.2.2)) (lt (aQ x130.1 x130.2.1 x157.1 x157.2.1) fun x159=>cond (x156.2.2==0) (K x159.1 x159.2.1 x159.2.2) (K x159.1 x159.2.1 x156.2.2))) (lt (aZ x148.1 x148.2.1 x156.1 x156.2.1) fun x160=>cond (x131.2.2==0) (lt (aQ x130.1 x130.2.1 x160.1 x160.2.1) fun x161=>cond (x160.2.2==0) (K x161.1 x161.2.1 x161.2.2) (K x161.1 x161.2.1 x160.2.2)) (lt (aQ x130.1 x130.2.1 x160.1 x160.2.1) fun x162=>cond (x131.2.2==0) (K x162.1 x162.2.1 x162.2.2) (K x162.1 x162.2.1 x131.2.2)))))) (lt (bB a b) fun x163=>cond (x130.2.2==0) (lt (aZ x131.1 x131.2.1 x163.1 x163.2.1) fun x164=>cond (x163.2.2==0) (lt (bB (i64.wrap (w-d)) (i64.wrap (x-c))) fun x165=>cond (x164.2.2==0) (lt (aZ x164.1 x164.2.1 x165.1 x165.2.1) fun x166=>cond (x165.2.2==0) (lt (aQ x130.1 x130.2.1 x166.1 x166.2.1) fun x167=>cond (x166.2.2==0) (K x167.1 x167.2.1 x167.2.2) (K x167.1 x167.2.1 x166.2.2)) (lt (aQ x130.1 x130.2.1 x166.1 x166.2.1) fun x168=>cond (x165.2.2==0) (K x168.1 x168.2.1 x168.2.2) (K x168.1 x168.2.1 x165.2.2))) (lt (aZ x164.1 x164.2.1 x165.1 x165.2.1) fun x169=>cond (x164.2.2==0) (lt (aQ x130.1 x130.2.1 x169.1 x169.2.1) fun x170=>cond (x169.2.2==0) (K x170.1 x170.2.1 x170.2.2) (K x170.1 x170.2.1 x169.2.2)) (lt (aQ x130.1 x130.2.1 x169.1 x169.2.1) fun x171=>cond (x164.2.2==0) (K x171.1 x171.2.1 x171.2.2) (K x171.1 x171.2.1 x164.2.2)))) (lt (bB (i64.wrap (w-d)) (i64.wrap (x-c))) fun x172=>cond (x163.2.2==0) (lt (aZ x164.1 x164.2.1 x172.1 x172.2.1) fun x173=>cond (x172.2.2==0) (lt (aQ x130.1 x130.2.1 x173.1 x173.2.1) fun x174=>cond (x173.2.2==0) (K x174.1 x174.2.1 x174.2.2) (K x174.1 x174.2.1 x173.2.2)) (lt (aQ x130.1 x130.2.1 x173.1 x173.2.1) fun x175=>cond (x172.2.2==0) (K x175.1 x175.2.1 x175.2.2) (K x175.1 x175.2.1 x172.2.2))) (lt (aZ x164.1 x164.2.1 x172.1 x172.2.1) fun x176=>cond (x163.2.2==0) (lt (aQ x130.1 x130.2.1 x176.1 x176.2.1) fun x177=>cond (x176.2.2==0) (K x177.1 x177.2.1 x177.2.2) (K x177.1 x177.2.1 x176.2.2)) (lt (aQ x130.1 x130.2.1 x176.1 x176.2.1) fun x178=>cond (x163.2.2==0) (K x178.1 x178.2.1 x178.2.2) (K x178.1 x178.2.1 x163.2.2))))) (lt (aZ x131.1 x131.2.1 x163.1 x163.2.1) fun x179=>cond (x130.2.2==0) (lt (bB (i64.wrap (w-d)) (i64.wrap (x-c))) fun x180=>cond (x179.2.2==0) (lt (aZ x179.1 x179.2.1 x180.1 x180.2.1) fun x181=>cond (x180.2.2==0) (lt (aQ x130.1 x130.2.1 x181.1 x181.2.1) fun x182=>cond (x181.2.2==0) (K x182.1 x182.2.1 x182.2.2) (K x182.1 x182.2.1 x181.2.2)) (lt (aQ x130.1 x130.2.1 x181.1 x181.2.1) fun x183=>cond (x180.2.2==0) (K x183.1 x183.2.1 x183.2.2) (K x183.1 x183.2.1 x180.2.2))) (lt (aZ x179.1 x179.2.1 x180.1 x180.2.1) fun x184=>cond (x179.2.2==0) (lt (aQ x130.1 x130.2.1 x184.1 x184.2.1) fun x185=>cond (x184.2.2==0) (K x185.1 x185.2.1 x185.2.2) (K x185.1 x185.2.1 x184.2.2)) (lt (aQ x130.1 x130.2.1 x184.1 x184.2.1) fun x186=>cond (x179.2.2==0) (K x186.1 x186.2.1 x186.2.2) (K x186.1 x186.2.1 x179.2.2)))) (lt (bB (i64.wrap (w-d)) (i64.wrap (x-c))) fun x187=>cond (x130.2.2==0) (lt (aZ x179.1 x179.2.1 x187.1 x187.2.1) fun x188=>cond (x187.2.2==0) (lt (aQ x130.1 x130.2.1 x188.1 x188.2.1) fun x189=>cond (x188.2.2==0) (K x189.1 x189.2.1 x189.2.2) (K x189.1 x189.2.1 x188.2.2)) (lt (aQ x130.1 x130.2.1 x188.1 x188.2.1) fun x190=>cond (x187.2.2==0) (K x190.1 x190.2.1 x190.2.2) (K x190.1 x190.2.1 x187.2.2))) (lt (aZ x179.1 x179.2.1 x187.1 x187.2.1) fun x191=>cond (x130.2.2==0) (lt (aQ x130.1 x130.2.1 x191.1 x191.2.1) fun x192=>cond (x191.2.2==0) (K x192.1 x192.2.1 x192.2.2) (K x192.1 x192.2.1 x191.2.2)) (lt (aQ x130.1 x130.2.1 x191.1 x191.2.1) fun x193=>cond (x130.2.2==0) (K x193.1 x193.2.1 x193.2.2) (K x193.1 x193.2.1 x130.2.2))))))) (lt (bB u v) fun x194=>cond (x1.2.2==0) (lt (bB a b) fun x195=>cond (x194.2.2==0) (lt (aZ x194.1 x194.2.1 x195.1 x195.2.1) fun x196=>cond (x195.2.2==0) (lt (bB (i64.wrap (w-d)) (i64.wrap (x-c))) fun x197=>cond (x196.2.2==0) (lt (aZ x196.1 x196.2.1 x197.1 x197.2.1) fun x198=>cond (x197.2.2==0) (lt (aQ x130.1 x130.2.1 x198.1 x198.2.1) fun x199=>cond (x198.2.2==0) (K x199.1 x199.2.1 x199.2.2) (K x199.1 x199.2.1 x198.2.2)) (lt (aQ x130.1 x130.2.1 x198.1 x198.2.1) fun x200=>cond (x197.2.2==0) (K x200.1 x200.2.1 x200.2.2) (K x200.1 x200.2.1 x197.2.2))) (lt (aZ x196.1 x196.2.1 x197.1 x197.2.1) fun x201=>cond (x196.2.2==0) (lt (aQ x130.1 x130.2.1 x201.1 x201.2.1) fun x202=>cond (x201.2.2==0) (K x202.1 x202.2.1 x202.2.2) (K x202.1 x202.2.1 x201.2.2)) (lt (aQ x130.1 x130.2.1 x201.1 x201.2.1) fun x203=>cond (x196.2.2==0) (K x203.1 x203.2.1 x203.2.2) (K x203.1 x203.2.1 x196.2.2)))) (lt (bB (i64.wrap (w-d)) (i64.wrap (x-c))) fun x204=>cond (x195.2.2==0) (lt (aZ x196.1 x196.2.1 x204.1 x204.2.1) fun x205=>cond (x204.2.2==0) (lt (aQ x130.1 x130.2.1 x205.1 x205.2.1) fun x206=>cond (x205.2.2==0) (K x206.1 x206.2.1 x206.2.2) (K x206.1 x206.2.1 x205.2.2)) (lt (aQ x130.1 x130.2.1 x205.1 x205.2.1) fun x207=>cond (x204.2.2==0) (K x207.1 x207.2.1 x207.2.2) (K x207.1 x207.2.1 x204.2.2))) (lt (aZ x196.1 x196.2.1 x204.1 x204.2.1) fun x208=>cond (x195.2.2==0) (lt (aQ x130.1 x130.2.1 x208.1 x208.2.1) fun x209=>cond (x208.2.2==0) (K x209.1 x209.2.1 x209.2.2) (K x209.1 x209.2.1 x208.2.2)) (lt (aQ x130.1 x130.2.1 x208.1 x208.2.1) fun x210=>cond (x195.2.2==0) (K x210.1 x210.2.1 x210.2.2) (K x210.1 x210.2.1 x195.2.2))))) (lt (aZ x194.1 x194.2.1 x195.1 x195.2.1) fun x211=>cond (x194.2.2==0) (lt (bB (i64.wrap (w-d)) (i64.wrap (x-c))) fun x212=>cond (x211.2.2==0) (lt (aZ x211.1 x211.2.1 x212.1 x212.2.1) fun x213=>cond (x212.2.2==0) (lt (aQ x130.1 x130.2.1 x213.1 x213.2.1) fun x214=>cond (x213.2.2==0) (K x214.1 x214.2.1 x214.2.2) (K x214.1 x214.2.1 x213.2.2)) (lt (aQ x130.1 x130.2.1 x213.1 x213.2.1) fun x215=>cond (x212.2.2==0) (K x215.1 x215.2.1 x215.2.2) (K x215.1 x215.2.1 x212.2.2))) (lt (aZ x211.1 x211.2.1 x212.1 x212.2.1) fun x216=>cond (x211.2.2==0) (lt (aQ x130.1 x130.2.1 x216.1 x216.2.1) fun x217=>cond (x216.2.2==0) (K x217.1 x217.2.1 x217.2.2) (K x217.1 x217.2.1 x216.2.2)) (lt (aQ x130.1 x130.2.1 x216.1 x216.2.1) fun x218=>cond (x211.2.2==0) (K x218.1 x218.2.1 x218.2.2) (K x218.1 x218.2.1 x211.2.2)))) (lt (bB (i64.wrap (w-d)) (i64.wrap (x-c))) fun x219=>cond (x194.2.2==0) (lt (aZ x211.1 x211.2.1 x219.1 x219.2.1) fun x220=>cond (x219.2.2==0) (lt (aQ x130.1 x130.2.1 x220.1 x220.2.1) fun x221=>cond (x220.2.2==0) (K x221.1 x221.2.1 x221.2.2) (K x221.1 x221.2.1 x220.2.2)) (lt (aQ x130.1 x130.2.1 x220.1 x220.2.1) fun x222=>cond (x219.2.2==0) (K x222.1 x222.2.1 x222.2.2) (K x222.1 x222.2.1 x219.2.2))) (lt (aZ x211.1 x211.2.1 x219.1 x219.2.1) fun x223=>cond (x194.2.2==0) (lt (aQ x130.1 x130.2.1 x223.1 x223.2.1) fun x224=>cond (x223.2.2==0) (K x224.1 x224.2.1 x224.2.2) (K x224.1 x224.2.1 x223.2.2)) (lt (aQ x130.1 x130.2.1 x223.1 x223.2.1) fun x225=>cond (x194.2.2==0) (K x225.1 x225.2.1 x225.2.2) (K x225.1 x225.2.1 x194.2.2)))))) (lt (bB a b) fun x226=>cond (x1.2.2==0) (lt (aZ x194.1 x194.2.1 x226.1 x226.2.1) fun x227=>cond (x226.2.2==0) (lt (bB (i64.wrap (w-d)) (i64.wrap (x-c))) fun x228=>cond (x227.2.2==0) (lt (aZ x227.1 x227.2.1 x228.1 x228.2.1) fun x229=>cond (x228.2.2==0) (lt (aQ x130.1 x130.2.1 x229.1 x229.2.1) fun x230=>cond (x229.2.2==0) (K x230.1 x230.2.1 x230.2.2) (K x230.1 x230.2.1 x229.2.2)) (lt (aQ x130.1 x130.2.1 x229.1 x229.2.1) fun x231=>cond (x228.2.2==0) (K x231.1 x231.2.1 x231.2.2) (K x231.1 x231.2.1 x228.2.2))) (lt (aZ x227.1 x227.2.1 x228.1 x228.2.1) fun x232=>cond (x227.2.2==0) (lt (aQ x130.1 x130.2.1 x232.1 x232.2.1) fun x233=>cond (x232.2.2==0) (K x233.1 x233.2.1 x233.2.2) (K x233.1 x233.2.1 x232.2.2)) (lt (aQ x130.1 x130.2.1 x232.1 x232.2.1) fun x234=>cond (x227.2.2==0) (K x234.1 x234.2.1 x234.2.2) (K x234.1 x234.2.1 x227.2.2)))) (lt (bB (i64.wrap (w-d)) (i64.wrap (x-c))) fun x235=>cond (x226.2.2==0) (lt (aZ x227.1 x227.2.1 x235.1 x235.2.1) fun x236=>cond (x235.2.2==0) (lt (aQ x130.1 x130.2.1 x236.1 x236.2.1) fun x237=>cond (x236.2.2==0) (K x237.1 x237.2.1 x237.2.2) (K x237.1 x237.2.1 x236.2.2)) (lt (aQ x130.1 x130.2.1 x236.1 x236.2.1) fun x238=>cond (x235.2.2==0) (K x238.1 x238.2.1 x238.2.2) (K x238.1 x238.2.1 x235.2.2))) (lt (aZ x227.1 x227.2.1 x235.1 x235.2.1) fun x239=>cond (x226.2.2==0) (lt (aQ x130.1 x130.2.1 x239.1 x239.2.1) fun x240=>cond (x239.2.2==0) (K x240.1 x240.2.1 x240.2.2) (K x240.1 x240.2.1 x239.2.2)) (lt (aQ x130.1 x130.2.1 x239.1 x239.2.1) fun x241=>cond (x226.2.2==0) (K x241.1 x241.2.1 x241.2.2) (K x241.1 x241.2.1 x226.2.2))))) (lt (aZ x194.1 x194.2.1 x226.1 x226.2.1) fun x242=>cond (x1.2.2==0) (lt (bB (i64.wrap (w-d)) (i64.wrap (x-c))) fun x243=>cond (x242.2.2==0) (lt (aZ x242.1 x242.2.1 x243.1 x243.2.1) fun x244=>cond (x243.2.2==0) (lt (aQ x130.1 x130.2.1 x244.1 x244.2.1) fun x245=>cond (x244.2.2==0) (K x245.1 x245.2.1 x245.2.2) (K x245.1 x245.2.1 x244.2.2)) (lt (aQ x130.1 x130.2.1 x244.1 x244.2.1) fun x246=>cond (x243.2.2==0) (K x246.1 x246.2.1 x246.2.2) (K x246.1 x246.2.1 x243.2.2))) (lt (aZ x242.1 x242.2.1 x243.1 x243.2.1) fun x247=>cond (x242.2.2==0) (lt (aQ x130.1 x130.2.1 x247.1 x247.2.1) fun x248=>cond (x247.2.2==0) (K x248.1 x248.2.1 x248.2.2) (K x248.1 x248.2.1 x247.2.2)) (lt (aQ x130.1 x130.2.1 x247.1 x247.2.1) fun x249=>cond (x242.2.2==0) (K x249.1 x249.2.1 x249.2.2) (K x249.1 x249.2.1 x242.2.2)))) (lt (bB (i64.wrap (w-d)) (i64.wrap (x-c))) fun x250=>cond (x1.2.2==0) (lt (aZ x242.1 x242.2.1 x250.1 x250.2.1) fun x251=>cond (x250.2.2==0) (lt (aQ x130.1 x130.2.1 x251.1 x251.2.1) fun x252=>cond (x251.2.2==0) (K x252.1 x252.2.1 x252.2.2) (K x252.1 x252.2.1 x251.2.2)) (lt (aQ x130.1 x130.2.1 x251.1 x251.2.1) fun x253=>cond (x250.2.2==0) (K x253.1 x253.2.1 x253.2.2) (K x253.1 x253.2.1 x250.2.2))) (lt (aZ x242.1 x242.2.1 x250.1 x250.2.1) fun x254=>cond (x1.2.2==0) (lt (aQ x130.1 x130.2.1 x254.1 x254.2.1) fun x255=>cond (x254.2.2==0) (K x255.1 x255.2.1 x255.2.2) (K x255.1 x255.2.1 x254.2.2)) (lt (aQ x130.1 x130.2.1 x254.1 x254.2.1) fun x256=>cond (x1.2.2==0) (K x256.1 x256.2.1 x256.2.2) (K x256.1 x256.2.1 x1.2.2))))))))
def AD(a b c d e f u v w x:Int):Int×Int×Int:=F4 (fun p0 p1 p2=>(p0,p1,p2)) a b c d e f u v w x
def aFg:bW:=(52,eP (fun a b=>aT (fK a b)))::(53,eP (fun a b=>aT (bB a b)))::(63,eT (fun a b c d e f=>.bool (kE a b c d e f)))::(83,GU (fun a b c d=>aT (aQ a b c d)))::(84,GU (fun a b c d=>aT (aZ a b c d)))::(254,eTS (fun a b c d e f u v w x=>L6 (sB a b c d e f u v w x)))::(287,GU (fun a b c d=>.bool (wT a b c d)))::[]
theorem Kw[Gl]:aO zB aFg:=(aA (cX (fun a b W _=>Af a b W)) (aA (cX (fun a b W _=>WI a b W)) (aA (XB FG) (aA (dZ pO) (aA (dZ pW) (aA (Eh WN) (aA (dZ Es) dK)))))))
theorem Gs[Gl](a b c d e f u v w x:Int):aF zB 286 [jA ⟨[jI jJ a,jI jJ b,jI jJ c,jI jJ d,jI jJ e,jI jJ f]⟩,jA ⟨[jI jJ u,jI jJ v,jI jJ w,jI jJ x]⟩] (aT (AD a b c d e f u v w x)):=by
 refine aD aP Kw (t:=F4 (fun g h i=>some (.v (aT ((g,h,i))))) a b c d e f u v w x) (by kernel_rfl) ?_;unfold AD F4;repeat' first|(with_reducible refine aL (fun r:Int×Int×Int=>AV.v (aT (r))) ?_ ?_)|(with_reducible refine aY (fun r:Int×Int×Int=>AV.v (aT (r))) fun _=>?_)|rfl
def aCp(a b c d e f u v:Int):Bool:=lt (GC a b) fun x1=>lt (sB c d e f u v x1.1 x1.2.1 x1.2.2.1 x1.2.2.2) fun x2=>(x2.1==0)
def aFh:bW:=(128,eC0 (fun a b=>fR (GC a b)))::(286,eTS (fun a b c d e f u v w x=>aT (AD a b c d e f u v w x)))::aFg
theorem TC[Gl]:aO zB aFh:=(aA (Vx MJ) (aA (Eh Gs) Kw))
theorem Cc[Gl](a b c d e f u v:Int):aF zB 206 [jA ⟨[jI jJ 0,jI jJ a,jI jJ b]⟩,jA ⟨[jI jJ c,jI jJ d,jI jJ e,jI jJ f,jI jJ u,jI jJ v]⟩] (.bool (aCp a b c d e f u v)):=aD aP TC (by kernel_rfl) rfl
def aDZ(a b c d e f u v:Int):Bool:=lt (GC a b) fun x1=>lt (AD c d e f u v x1.1 x1.2.1 x1.2.2.1 x1.2.2.2) fun x2=>lt (bB u v) fun x3=>cond (x2.2.2==0) (cond (x3.2.2==0) ((wT x2.1 x2.2.1 x3.1 x3.2.1)) (false)) (false)
theorem Hm[Gl](a b c d e f u v:Int):aF zB 256 [jA ⟨[jI jJ 0,jI jJ a,jI jJ b]⟩,jA ⟨[jI jJ c,jI jJ d,jI jJ e,jI jJ f,jI jJ u,jI jJ v]⟩] (.bool (aDZ a b c d e f u v)):=by
 refine aD aP TC (t:=lt (GC a b) fun g=>lt (AD c d e f u v g.1 g.2.1 g.2.2.1 g.2.2.2) fun h=>lt (bB u v) fun i=>cond (h.2.2==0) (cond (i.2.2==0) (some (.v (.bool (wT h.1 h.2.1 i.1 i.2.1)))) (some (.v (.bool false)))) (some (.v (.bool false)))) (by kernel_rfl) ?_;unfold aDZ;repeat' first|(with_reducible refine aL (fun r:Bool=>AV.v (.bool (r))) ?_ ?_)|(with_reducible refine aY (fun r:Bool=>AV.v (.bool (r))) fun _=>?_)|rfl
def aCq(a b c d e f u v:Int):Bool:=lt (GD a b) fun x1=>lt (sB c d e f u v x1.1 x1.2.1 x1.2.2.1 x1.2.2.2) fun x2=>(x2.1==0)
def aFi:bW:=(128,eC1 (fun a b=>fR (GD a b)))::aFh
theorem TD[Gl]:aO zB aFi:=(aA (Vy MK) TC)
theorem Cd[Gl](a b c d e f u v:Int):aF zB 206 [jA ⟨[jI jJ 1,jI jJ a,jI jJ b]⟩,jA ⟨[jI jJ c,jI jJ d,jI jJ e,jI jJ f,jI jJ u,jI jJ v]⟩] (.bool (aCq a b c d e f u v)):=aD aP TD (by kernel_rfl) rfl
def aE0(a b c d e f u v:Int):Bool:=lt (GD a b) fun x1=>lt (AD c d e f u v x1.1 x1.2.1 x1.2.2.1 x1.2.2.2) fun x2=>lt (bB u v) fun x3=>cond (x2.2.2==0) (cond (x3.2.2==0) ((wT x2.1 x2.2.1 x3.1 x3.2.1)) (false)) (false)
theorem Hn[Gl](a b c d e f u v:Int):aF zB 256 [jA ⟨[jI jJ 1,jI jJ a,jI jJ b]⟩,jA ⟨[jI jJ c,jI jJ d,jI jJ e,jI jJ f,jI jJ u,jI jJ v]⟩] (.bool (aE0 a b c d e f u v)):=by
 refine aD aP TD (t:=lt (GD a b) fun g=>lt (AD c d e f u v g.1 g.2.1 g.2.2.1 g.2.2.2) fun h=>lt (bB u v) fun i=>cond (h.2.2==0) (cond (i.2.2==0) (some (.v (.bool (wT h.1 h.2.1 i.1 i.2.1)))) (some (.v (.bool false)))) (some (.v (.bool false)))) (by kernel_rfl) ?_;unfold aE0;repeat' first|(with_reducible refine aL (fun r:Bool=>AV.v (.bool (r))) ?_ ?_)|(with_reducible refine aY (fun r:Bool=>AV.v (.bool (r))) fun _=>?_)|rfl
def aCr(a b c d e f u v:Int):Bool:=lt (GE a b) fun x1=>lt (sB c d e f u v x1.1 x1.2.1 x1.2.2.1 x1.2.2.2) fun x2=>(x2.1==0)
def aFj:bW:=(128,eC2 (fun a b=>fR (GE a b)))::aFi
theorem TE[Gl]:aO zB aFj:=(aA (Vz MM) TD)
theorem Ce[Gl](a b c d e f u v:Int):aF zB 206 [jA ⟨[jI jJ 2,jI jJ a,jI jJ b]⟩,jA ⟨[jI jJ c,jI jJ d,jI jJ e,jI jJ f,jI jJ u,jI jJ v]⟩] (.bool (aCr a b c d e f u v)):=aD aP TE (by kernel_rfl) rfl
def aE1(a b c d e f u v:Int):Bool:=lt (GE a b) fun x1=>lt (AD c d e f u v x1.1 x1.2.1 x1.2.2.1 x1.2.2.2) fun x2=>lt (bB u v) fun x3=>cond (x2.2.2==0) (cond (x3.2.2==0) ((wT x2.1 x2.2.1 x3.1 x3.2.1)) (false)) (false)
theorem Ho[Gl](a b c d e f u v:Int):aF zB 256 [jA ⟨[jI jJ 2,jI jJ a,jI jJ b]⟩,jA ⟨[jI jJ c,jI jJ d,jI jJ e,jI jJ f,jI jJ u,jI jJ v]⟩] (.bool (aE1 a b c d e f u v)):=by
 refine aD aP TE (t:=lt (GE a b) fun g=>lt (AD c d e f u v g.1 g.2.1 g.2.2.1 g.2.2.2) fun h=>lt (bB u v) fun i=>cond (h.2.2==0) (cond (i.2.2==0) (some (.v (.bool (wT h.1 h.2.1 i.1 i.2.1)))) (some (.v (.bool false)))) (some (.v (.bool false)))) (by kernel_rfl) ?_;unfold aE1;repeat' first|(with_reducible refine aL (fun r:Bool=>AV.v (.bool (r))) ?_ ?_)|(with_reducible refine aY (fun r:Bool=>AV.v (.bool (r))) fun _=>?_)|rfl
def aCs(a b c d e f u v:Int):Bool:=lt (GG a b) fun x1=>lt (sB c d e f u v x1.1 x1.2.1 x1.2.2.1 x1.2.2.2) fun x2=>(x2.1==0)
def aFk:bW:=(128,eC3 (fun a b=>fR (GG a b)))::aFj
theorem TF[Gl]:aO zB aFk:=(aA (Wb MN) TE)
theorem Cf[Gl](a b c d e f u v:Int):aF zB 206 [jA ⟨[jI jJ 3,jI jJ a,jI jJ b]⟩,jA ⟨[jI jJ c,jI jJ d,jI jJ e,jI jJ f,jI jJ u,jI jJ v]⟩] (.bool (aCs a b c d e f u v)):=aD aP TF (by kernel_rfl) rfl
def aE2(a b c d e f u v:Int):Bool:=lt (GG a b) fun x1=>lt (AD c d e f u v x1.1 x1.2.1 x1.2.2.1 x1.2.2.2) fun x2=>lt (bB u v) fun x3=>cond (x2.2.2==0) (cond (x3.2.2==0) ((wT x2.1 x2.2.1 x3.1 x3.2.1)) (false)) (false)
theorem Hp[Gl](a b c d e f u v:Int):aF zB 256 [jA ⟨[jI jJ 3,jI jJ a,jI jJ b]⟩,jA ⟨[jI jJ c,jI jJ d,jI jJ e,jI jJ f,jI jJ u,jI jJ v]⟩] (.bool (aE2 a b c d e f u v)):=by
 refine aD aP TF (t:=lt (GG a b) fun g=>lt (AD c d e f u v g.1 g.2.1 g.2.2.1 g.2.2.2) fun h=>lt (bB u v) fun i=>cond (h.2.2==0) (cond (i.2.2==0) (some (.v (.bool (wT h.1 h.2.1 i.1 i.2.1)))) (some (.v (.bool false)))) (some (.v (.bool false)))) (by kernel_rfl) ?_;unfold aE2;repeat' first|(with_reducible refine aL (fun r:Bool=>AV.v (.bool (r))) ?_ ?_)|(with_reducible refine aY (fun r:Bool=>AV.v (.bool (r))) fun _=>?_)|rfl
def aCt(a b c d e f u v:Int):Bool:=lt (GH a b) fun x1=>lt (sB c d e f u v x1.1 x1.2.1 x1.2.2.1 x1.2.2.2) fun x2=>(x2.1==0)
def aFl:bW:=(128,eC4 (fun a b=>fR (GH a b)))::aFk
theorem TG[Gl]:aO zB aFl:=(aA (Wd MO) TF)
theorem Cg[Gl](a b c d e f u v:Int):aF zB 206 [jA ⟨[jI jJ 4,jI jJ a,jI jJ b]⟩,jA ⟨[jI jJ c,jI jJ d,jI jJ e,jI jJ f,jI jJ u,jI jJ v]⟩] (.bool (aCt a b c d e f u v)):=aD aP TG (by kernel_rfl) rfl
def aE3(a b c d e f u v:Int):Bool:=lt (GH a b) fun x1=>lt (AD c d e f u v x1.1 x1.2.1 x1.2.2.1 x1.2.2.2) fun x2=>lt (bB u v) fun x3=>cond (x2.2.2==0) (cond (x3.2.2==0) ((wT x2.1 x2.2.1 x3.1 x3.2.1)) (false)) (false)
theorem Hq[Gl](a b c d e f u v:Int):aF zB 256 [jA ⟨[jI jJ 4,jI jJ a,jI jJ b]⟩,jA ⟨[jI jJ c,jI jJ d,jI jJ e,jI jJ f,jI jJ u,jI jJ v]⟩] (.bool (aE3 a b c d e f u v)):=by
 refine aD aP TG (t:=lt (GH a b) fun g=>lt (AD c d e f u v g.1 g.2.1 g.2.2.1 g.2.2.2) fun h=>lt (bB u v) fun i=>cond (h.2.2==0) (cond (i.2.2==0) (some (.v (.bool (wT h.1 h.2.1 i.1 i.2.1)))) (some (.v (.bool false)))) (some (.v (.bool false)))) (by kernel_rfl) ?_;unfold aE3;repeat' first|(with_reducible refine aL (fun r:Bool=>AV.v (.bool (r))) ?_ ?_)|(with_reducible refine aY (fun r:Bool=>AV.v (.bool (r))) fun _=>?_)|rfl
def aCu(a b c d e f u v:Int):Bool:=lt (GI a b) fun x1=>lt (sB c d e f u v x1.1 x1.2.1 x1.2.2.1 x1.2.2.2) fun x2=>(x2.1==0)
def aGH:bW:=(128,eC5 (fun a b=>fR (GI a b)))::aFl
theorem IE[Gl]:aO zB aGH:=(aA (We MP) TG)
theorem Ch[Gl](a b c d e f u v:Int):aF zB 206 [jA ⟨[jI jJ 5,jI jJ a,jI jJ b]⟩,jA ⟨[jI jJ c,jI jJ d,jI jJ e,jI jJ f,jI jJ u,jI jJ v]⟩] (.bool (aCu a b c d e f u v)):=aD aP IE (by kernel_rfl) rfl
def aE4(a b c d e f u v:Int):Bool:=lt (GI a b) fun x1=>lt (AD c d e f u v x1.1 x1.2.1 x1.2.2.1 x1.2.2.2) fun x2=>lt (bB u v) fun x3=>cond (x2.2.2==0) (cond (x3.2.2==0) ((wT x2.1 x2.2.1 x3.1 x3.2.1)) (false)) (false)
theorem Hr[Gl](a b c d e f u v:Int):aF zB 256 [jA ⟨[jI jJ 5,jI jJ a,jI jJ b]⟩,jA ⟨[jI jJ c,jI jJ d,jI jJ e,jI jJ f,jI jJ u,jI jJ v]⟩] (.bool (aE4 a b c d e f u v)):=by
 refine aD aP IE (t:=lt (GI a b) fun g=>lt (AD c d e f u v g.1 g.2.1 g.2.2.1 g.2.2.2) fun h=>lt (bB u v) fun i=>cond (h.2.2==0) (cond (i.2.2==0) (some (.v (.bool (wT h.1 h.2.1 i.1 i.2.1)))) (some (.v (.bool false)))) (some (.v (.bool false)))) (by kernel_rfl) ?_;unfold aE4;repeat' first|(with_reducible refine aL (fun r:Bool=>AV.v (.bool (r))) ?_ ?_)|(with_reducible refine aY (fun r:Bool=>AV.v (.bool (r))) fun _=>?_)|rfl
def aAa(a b c d e f:Int):Bool:=(!(kE a b c d e f))
theorem Fa[Gl](a b c d e f:Int):aF zB 204 [jA ⟨[jI jJ a,jI jJ b,jI jJ c,jI jJ d,jI jJ e,jI jJ f]⟩] (.bool (aAa a b c d e f)):=aD aP IE (by kernel_rfl) rfl
def aCR(a b c d e f:Int):Bool:=(!(kE a b c d e f))
theorem De[Gl](a b c d e f:Int):aF zB 62 [jA ⟨[jI jJ a,jI jJ b,jI jJ c,jI jJ d,jI jJ e,jI jJ f]⟩] (.bool (aCR a b c d e f)):=aD aP IE (by kernel_rfl) rfl
end
section
open Go.RowKit Rg
open Ev (aF)
attribute [local instance] nP
attribute [local go_sem] Oper.semAt_some
def DM(b:Rg.Blk)(c:fT):Bool:=match b.l with
 | 0=>aCp (aM 0 b.n) (aN 0 b.n) c.1 c.2.1 c.2.2.1 c.2.2.2.1 c.2.2.2.2.1 c.2.2.2.2.2
 | 1=>aCq (aM 1 b.n) (aN 1 b.n) c.1 c.2.1 c.2.2.1 c.2.2.2.1 c.2.2.2.2.1 c.2.2.2.2.2
 | 2=>aCr (aM 2 b.n) (aN 2 b.n) c.1 c.2.1 c.2.2.1 c.2.2.2.1 c.2.2.2.2.1 c.2.2.2.2.2
 | 3=>aCs (aM 3 b.n) (aN 3 b.n) c.1 c.2.1 c.2.2.1 c.2.2.2.1 c.2.2.2.2.1 c.2.2.2.2.2
 | 4=>aCt (aM 4 b.n) (aN 4 b.n) c.1 c.2.1 c.2.2.1 c.2.2.2.1 c.2.2.2.2.1 c.2.2.2.2.2
 |_=>aCu (aM 5 b.n) (aN 5 b.n) c.1 c.2.1 c.2.2.1 c.2.2.2.1 c.2.2.2.2.1 c.2.2.2.2.2
def Rm(b:Rg.Blk)(c:fT):Bool:=match b.l with
 | 0=>aDZ (aM 0 b.n) (aN 0 b.n) c.1 c.2.1 c.2.2.1 c.2.2.2.1 c.2.2.2.2.1 c.2.2.2.2.2
 | 1=>aE0 (aM 1 b.n) (aN 1 b.n) c.1 c.2.1 c.2.2.1 c.2.2.2.1 c.2.2.2.2.1 c.2.2.2.2.2
 | 2=>aE1 (aM 2 b.n) (aN 2 b.n) c.1 c.2.1 c.2.2.1 c.2.2.2.1 c.2.2.2.2.1 c.2.2.2.2.2
 | 3=>aE2 (aM 3 b.n) (aN 3 b.n) c.1 c.2.1 c.2.2.1 c.2.2.2.1 c.2.2.2.2.1 c.2.2.2.2.2
 | 4=>aE3 (aM 4 b.n) (aN 4 b.n) c.1 c.2.1 c.2.2.1 c.2.2.2.1 c.2.2.2.2.1 c.2.2.2.2.2
 |_=>aE4 (aM 5 b.n) (aN 5 b.n) c.1 c.2.1 c.2.2.1 c.2.2.2.1 c.2.2.2.2.1 c.2.2.2.2.2
theorem T3(b:Rg.Blk)(a:b.l<=5)(c:fT)(w:World):Calls zB 206 #[jA ⟨fW b⟩,jA ⟨FY c⟩] w (GP (.bool (DM b c)) w):=by
 obtain⟨l,n⟩:=b;dsimp only at a;rcases(show l=0\/l=1\/l=2\/l=3\/l=4\/l=5 by omega)with rfl|rfl|rfl|rfl|rfl|rfl
 ·exact aI (Cc _ _ _ _ _ _ _ _) w
 ·exact aI (Cd _ _ _ _ _ _ _ _) w
 ·exact aI (Ce _ _ _ _ _ _ _ _) w
 ·exact aI (Cf _ _ _ _ _ _ _ _) w
 ·exact aI (Cg _ _ _ _ _ _ _ _) w
 ·exact aI (Ch _ _ _ _ _ _ _ _) w
theorem aBo(b:Rg.Blk)(a:b.l<=5)(c:fT)(w:World):Calls zB 256 #[jA ⟨fW b⟩,jA ⟨FY c⟩] w (GP (.bool (Rm b c)) w):=by
 obtain⟨l,n⟩:=b;dsimp only at a;rcases(show l=0\/l=1\/l=2\/l=3\/l=4\/l=5 by omega)with rfl|rfl|rfl|rfl|rfl|rfl
 ·exact aI (Hm _ _ _ _ _ _ _ _) w
 ·exact aI (Hn _ _ _ _ _ _ _ _) w
 ·exact aI (Ho _ _ _ _ _ _ _ _) w
 ·exact aI (Hp _ _ _ _ _ _ _ _) w
 ·exact aI (Hq _ _ _ _ _ _ _ _) w
 ·exact aI (Hr _ _ _ _ _ _ _ _) w
theorem Qh(b:Rg.Blk)(B:b.l<=5)(c:fT){x y z:Int}(r:fW b=[jI jJ x,jI jJ y,jI jJ z])(w:World){bp:Nat}(q:B3 w 63 bp x y z):Calls zB 205 #[jA ⟨oS.enc c⟩,.pointer (some ⟨bp,0,none⟩)] w (GP (.bool (!DM b c)) w):=by
 have d:=zA (T3 b B c);rw[r]at d;obtain⟨p,g⟩:∃p,p=DM b c:=⟨_,rfl⟩;rw[<-g]at d ⊢;obtain⟨h,c1,i,j,k,m⟩:=c;unfold oS FY;unfold FY at d;dsimp only at d ⊢;have a:=zA (Below.new (w:=w) (jC #[jI jJ h,jI jJ c1,jI jJ i,jI jJ j,jI jJ k,jI jJ m] 49));obtain⟨s,t,u⟩:=(q.next a.out).keep;have hN:=heap_alloc_new w (jC #[jI jJ h,jI jJ c1,jI jJ i,jI jJ j,jI jJ k,jI jJ m] 49);obtain⟨W,o⟩:∃W,W=w.alloc (jC #[jI jJ h,jI jJ c1,jI jJ i,jI jJ j,jI jJ k,jI jJ m] 49):=⟨_,rfl⟩;rw[<-o]at a s t u hN;obtain⟨v,d1,d2,d3,d4,A⟩:W.cell? ⟨w.heap.size,0,none⟩=some (jI jJ h)/\W.cell? ⟨w.heap.size,1,none⟩=some (jI jJ c1)/\W.cell? ⟨w.heap.size,2,none⟩=some (jI jJ i)/\W.cell? ⟨w.heap.size,3,none⟩=some (jI jJ j)/\W.cell? ⟨w.heap.size,4,none⟩=some (jI jJ k)/\W.cell? ⟨w.heap.size,5,none⟩=some (jI jJ m):=by
  refine⟨?_,?_,?_,?_,?_,?_⟩<;>simp[World.cell?,hN]
 clear r q hN g;go_enter Tryz.func205,Tryz.ntmps205;go_upto_region 1 with fail
 rw[<-o];clear o;go_wp2_with fail
 refine(d.out W).mono ?_;rintro e D ⟨rfl,f⟩;have n:=zA (a.out.trans (f.mono a.out.size));clear f d s t u v d1 d2 d3 d4 A;go_wp2_with fail
 go_ret;exact⟨rfl,n.out⟩
theorem Ti(b:Rg.Blk)(B:b.l<=5)(c:fT){x y z:Int}(r:fW b=[jI jJ x,jI jJ y,jI jJ z])(w:World){bp:Nat}(q:B3 w 63 bp x y z):Calls zB 255 #[jA ⟨oS.enc c⟩,.pointer (some ⟨bp,0,none⟩)] w (GP (.bool (!Rm b c)) w):=by
 have d:=zA (aBo b B c);rw[r]at d;obtain⟨p,g⟩:∃p,p=Rm b c:=⟨_,rfl⟩;rw[<-g]at d ⊢;obtain⟨h,c1,i,j,k,m⟩:=c;unfold oS FY;unfold FY at d;dsimp only at d ⊢;have a:=zA (Below.new (w:=w) (jC #[jI jJ h,jI jJ c1,jI jJ i,jI jJ j,jI jJ k,jI jJ m] 49));obtain⟨s,t,u⟩:=(q.next a.out).keep;have hN:=heap_alloc_new w (jC #[jI jJ h,jI jJ c1,jI jJ i,jI jJ j,jI jJ k,jI jJ m] 49);obtain⟨W,o⟩:∃W,W=w.alloc (jC #[jI jJ h,jI jJ c1,jI jJ i,jI jJ j,jI jJ k,jI jJ m] 49):=⟨_,rfl⟩;rw[<-o]at a s t u hN;obtain⟨v,d1,d2,d3,d4,A⟩:W.cell? ⟨w.heap.size,0,none⟩=some (jI jJ h)/\W.cell? ⟨w.heap.size,1,none⟩=some (jI jJ c1)/\W.cell? ⟨w.heap.size,2,none⟩=some (jI jJ i)/\W.cell? ⟨w.heap.size,3,none⟩=some (jI jJ j)/\W.cell? ⟨w.heap.size,4,none⟩=some (jI jJ k)/\W.cell? ⟨w.heap.size,5,none⟩=some (jI jJ m):=by
  refine⟨?_,?_,?_,?_,?_,?_⟩<;>simp[World.cell?,hN]
 clear r q hN g;go_enter Tryz.func255,Tryz.ntmps255;go_upto_region 1 with fail
 rw[<-o];clear o;go_wp2_with fail
 refine(d.out W).mono ?_;rintro e D ⟨rfl,f⟩;have n:=zA (a.out.trans (f.mono a.out.size));clear f d s t u v d1 d2 d3 d4 A;go_wp2_with fail
 go_ret;exact⟨rfl,n.out⟩
def AO(L:List fT)(b:Rg.Blk):Bool:= !(L.any fun c=> !DM b c)
def Aj(L:List fT)(b:Rg.Blk):Bool:= !(L.any fun c=> !Rm b c)
theorem U1{L:List fT}{v:Value}(r:L.length<=100000000)(b:Rg.Blk)(q:b.l<=5)(w:World)(h:bT oS 49 w 0 v L):Calls zB 207 #[v,dD b] w (GP (.bool (Aj L b)) w):=by
 obtain⟨x,y,z,m⟩:∃x y z:Int,fW b=[jI jJ x,jI jJ y,jI jJ z]:=⟨_,_,_,rfl⟩;have f:=zA (B3.new w 63 x y z);have d:=zA (Below.new (w:=w) (jC #[jI jJ x,jI jJ y,jI jJ z] 63));have j:=zA (Vk (bp:=w.heap.size) (p:=fun c=> !Rm b c) r _ (h.next d.out) (fun c _ o a=>Ti b q c m o (f.out.next a)));obtain⟨A,k,rfl⟩:=h.slice;unfold dD Aj;rw[m];obtain⟨n,g⟩:∃n,n=L.any fun c=> !Rm b c:=⟨_,rfl⟩;rw[<-g]at j ⊢;clear h m g f;go_enter Tryz.func207,Tryz.ntmps207;go_wp2_with fail
 refine j.out.mono ?_;rintro e o ⟨rfl,a⟩;have i:=zA (d.out.trans (a.mono d.out.size));clear a j;go_wp2_with fail
 go_ret;exact⟨rfl,i.out⟩
theorem aEg{L:List fT}{v:Value}{a:World}(i:L.length<=100000000)(h:bT oS 49 a 0 v L):AgrH a v (AO L) (Aj L) where
 agr:=fun b d _ x y z l w g f j=>by
  have k:=X3 (bp:=g) (p:=fun c=> !DM b c) i w (h.next f) (fun c _ m e=>Qh b d c l m (j.next e));unfold AO;rw[Bool.not_not];exact k
 sure:=fun b d _ w f=>U1 i b d w (h.next f)
theorem aEv{L:List fT}{A:Option Addr}{d f:Nat}{a:World}(i:d<=40)(h:bT oS 49 a 0 (.slice A d f) L)(j:∀c∈L,kE c.1 c.2.1 c.2.2.1 c.2.2.2.1 c.2.2.2.2.1 c.2.2.2.2.2=true):CirH a A d f (AO L) (Aj L):=by
 obtain⟨_,_,g⟩:=h.slice;have m:d=L.length:=by injection g
 refine⟨fun w k=>?_,i,aEg (by omega) h⟩;have b:=Ou (p:=fun c=>aAa c.1 c.2.1 c.2.2.1 c.2.2.2.1 c.2.2.2.2.1 c.2.2.2.2.2) (by omega) w (h.next k) (fun c _ l _=>aI (Fa _ _ _ _ _ _) l);have e:(L.any fun c=>aAa c.1 c.2.1 c.2.2.1 c.2.2.2.1 c.2.2.2.2.1 c.2.2.2.2.2)=false:=by
  rw[List.any_eq_false];intro c b;unfold aAa;simp only[j c b];decide
 rw[e]at b;exact b
end
section
open Go.RowKit
attribute [local go_sem] Oper.semAt_some
theorem PS(n:Int):bits .and jJ n 1152921504606846975=n%1152921504606846976:=by
 have a:(BitVec.ofInt 64 1152921504606846975).toNat=2^60-1:=by decide
 have b:(BitVec.ofInt 64 n&&& BitVec.ofInt 64 1152921504606846975).toNat=(n%((2^64:Nat):Int)).toNat%2^60:=by
  rw[BitVec.toNat_and,BitVec.toNat_ofInt,a,Nat.and_two_pow_sub_one_eq_mod]
 show i64.wrap ((BitVec.ofInt 64 n&&& BitVec.ofInt 64 1152921504606846975).toNat:Nat)=n%1152921504606846976;rw[b,IntKind.wrap_i64];omega
theorem QP(n:Int):bits .and jU n 1152921504606846975=n%1152921504606846976:=by
 have a:(BitVec.ofInt 64 1152921504606846975).toNat=2^60-1:=by decide
 have b:(BitVec.ofInt 64 n&&& BitVec.ofInt 64 1152921504606846975).toNat=(n%((2^64:Nat):Int)).toNat%2^60:=by
  rw[BitVec.toNat_and,BitVec.toNat_ofInt,a,Nat.and_two_pow_sub_one_eq_mod]
 show u64.wrap ((BitVec.ofInt 64 n&&& BitVec.ofInt 64 1152921504606846975).toNat:Nat)=n%1152921504606846976;rw[b,IntKind.wrap_u64];omega
theorem Nv(n:Int)(a:0<=n)(b:n<18446744073709551616):bits .or jU 0 n=n:=by
 show u64.wrap ((BitVec.ofInt 64 0|||BitVec.ofInt 64 n).toNat:Nat)=n;have:(BitVec.ofInt 64 0|||BitVec.ofInt 64 n)=BitVec.ofInt 64 n:=by simp
 rw[this,BitVec.toNat_ofInt,IntKind.wrap_u64];omega
theorem set2{w:World}{b t:Nat}{u0 u1:Value}(a c:Value)(h:w.heap[b]? =some (jC #[u0,u1] t (0,0))):((w.setCell ⟨b,0,none⟩ a).setCell ⟨b,1,none⟩ c).heap[b]? =some (jC #[a,c] t (0,0)):=by
 simp[qK,h,Array.getElem?_modify]
theorem pQ{B b:Nat}{a w:World}(h:Below B a w)(c:B<=b)(d e:Value):Below B a ((w.setCell ⟨b,0,none⟩ d).setCell ⟨b,1,none⟩ e):=(h.setCell (by simpa using c) _).setCell (by simpa using c) _
theorem mX{w:World}{b t:Nat}{a c:Value}(h:w.heap[b]? =some (jC #[a,c] t (0,0))):w.cell? ⟨b,0,none⟩=some a/\w.cell? ⟨b,1,none⟩=some c/\w.frozen? ⟨b,0,none⟩=false/\w.frozen? ⟨b,1,none⟩=false:=by
 simp[World.cell?,World.frozen?,h]
theorem set3{w:World}{b t:Nat}{u0 u1 u2:Value}(a c d:Value)(h:w.heap[b]? =some (jC #[u0,u1,u2] t (0,0))):(((w.setCell ⟨b,0,none⟩ a).setCell ⟨b,1,none⟩ c).setCell ⟨b,2,none⟩ d).heap[b]? =some (jC #[a,c,d] t (0,0)):=by
 simp[qK,h,Array.getElem?_modify]
theorem JM{B b:Nat}{a w:World}(h:Below B a w)(c:B<=b)(d e f:Value):Below B a (((w.setCell ⟨b,0,none⟩ d).setCell ⟨b,1,none⟩ e).setCell ⟨b,2,none⟩ f):=((h.setCell (by simpa using c) _).setCell (by simpa using c) _).setCell (by simpa using c) _
theorem JP{w:World}{b t:Nat}{a c d:Value}(h:w.heap[b]? =some (jC #[a,c,d] t (0,0))):w.cell? ⟨b,0,none⟩=some a/\w.cell? ⟨b,1,none⟩=some c/\w.cell? ⟨b,2,none⟩=some d/\w.frozen? ⟨b,0,none⟩=false/\w.frozen? ⟨b,1,none⟩=false/\w.frozen? ⟨b,2,none⟩=false:=by
 simp[World.cell?,World.frozen?,h]
def mV(v:Value)(w:World)(e:Ending)(w':World):Prop:=e=.returned v/\Below w.heap.size w w'
theorem NV(x:Int)(a:-4611686018427387904<x)(b:x<4611686018427387904)(w:World):Calls zB 237 #[jI jJ x] w (mV (jI jU (if x<0 then -x else x)) w):=by
 go_enter Tryz.func237,Tryz.ntmps237;go_wp2_with fail
 ·rename_i h;rw[show u64.wrap (-u64.wrap x)=-x by simp only[IntKind.wrap_u64];omega];go_ret;exact⟨rfl,zD _ _⟩
 ·rename_i h;go_ret;exact⟨rfl,zD _ _⟩
theorem Bm{a b:Int}(d:-1152921504606846976<=a)(e:a<1152921504606846976)(f:0<=b)(g:b<1152921504606846976)(w:World):Calls zB 270 #[jA #[jI jJ a,jI jJ b]] w (mV (.bool true) w):=by
 have c:=zA (zD w.heap.size w);go_enter Tryz.func270,Tryz.ntmps270;go_wp2_with fail
 go_ret;exact⟨rfl,c.out.alloc (zC _) _⟩
theorem Bj(p:Int)(r:-1152921504606846976<p)(s:p<1152921504606846976)(w:World):Calls zB 269 #[jI jJ 0,jI jJ p] w (mV (.tuple #[jA #[jI jJ (p/1152921504606846976),jI jJ (p%1152921504606846976)],jI jJ 0]) w):=by
 go_enter Tryz.func269,Tryz.ntmps269;go_wp2_with fail
 rw[PS];have c:Below w.heap.size w ((w.alloc (jC #[jI jJ 0,jI jJ 0] 204)).alloc (jC #[jI jJ (p/1152921504606846976),jI jJ (p%1152921504606846976)] 204)):=((zD _ w).alloc (zC _) _).alloc (by simp) _;refine(Bm (a:=p/1152921504606846976) (b:=p%1152921504606846976) (by omega) (by omega) (by omega) (by omega) _).mono ?_;rintro e h ⟨rfl,d⟩;have f:h.heap[w.heap.size]? =some (jC #[jI jJ 0,jI jJ 0] 204 (0,0)):=(d.block w.heap.size (by simp only[qF];omega)).trans ((zW _ _ _ (by simp)).trans (heap_alloc_new w _));have g:h.heap[w.heap.size+ 1]? =some (jC #[jI jJ (p/1152921504606846976),jI jJ (p%1152921504606846976)] 204 (0,0)):=(d.block (w.heap.size+1) (by simp)).trans (by
  have:=heap_alloc_new (w.alloc (jC #[jI jJ 0,jI jJ 0] 204)) (jC #[jI jJ (p/1152921504606846976),jI jJ (p%1152921504606846976)] 204);rwa[qF]at this)
 obtain⟨m,c1,_,_⟩:=mX g;obtain⟨n,d1,o,q⟩:=mX f;have i:=zA (c.trans (d.mono c.size));have j:=zA f;clear c d f g;go_wp2_with fail
 obtain⟨k,l,_,_⟩:=mX (set2 (jI jJ (p/1152921504606846976)) (jI jJ (p%1152921504606846976)) j.out);refine bodyPost_ret (v:=.tuple #[jA #[jI jJ (p/1152921504606846976),jI jJ (p%1152921504606846976)],jI jJ 0]) (by simp[results,Tryz.results269,go_sem,k,l]) rfl ⟨rfl,pQ i.out (zC _) _ _⟩
theorem wdK{w0 W:World}{k j t:Nat}{a b c u0 u1:Value}(h:(W.cell? ⟨k,0,none⟩=some a/\W.cell? ⟨k,1,none⟩=some b/\W.cell? ⟨k,2,none⟩=some c)/\W.heap[j]? =some (jC #[u0,u1] t (0,0))/\Below w0.heap.size w0 W):
  (W.drew.cell? ⟨k,0,none⟩=some a/\W.drew.cell? ⟨k,1,none⟩=some b/\W.drew.cell? ⟨k,2,none⟩=some c)/\W.drew.heap[j]? =some (jC #[u0,u1] t (0,0))/\Below w0.heap.size w0 W.drew:=⟨h.1,h.2.1,h.2.2.drew⟩
theorem Si(p:Int)(x:0<=p)(y:p<1152921504606846976)(s:Bool)(w:World):Calls zB 238 #[jA #[jI jU 0,jI jU p,.bool s]] w (mV (.tuple #[jA #[jI jJ ((if s then -p else p)/1152921504606846976),jI jJ ((if s then -p else p)%1152921504606846976)],jI jJ 0]) w):=by
 cases s with
 |false=>
  have b:Below w.heap.size w ((w.alloc (jC #[jI jU 0,jI jU p,.bool false] 247)).alloc (jC #[jI jJ 0,jI jJ 0] 204)):=((zD _ w).alloc (zC _) _).alloc (by simp) _;have f:((w.alloc (jC #[jI jU 0,jI jU p,.bool false] 247)).alloc (jC #[jI jJ 0,jI jJ 0] 204)).heap[w.heap.size]? =some (jC #[jI jU 0,jI jU p,.bool false] 247 (0,0)):=(zW _ _ _ (by simp)).trans (heap_alloc_new w _);have j:((w.alloc (jC #[jI jU 0,jI jU p,.bool false] 247)).alloc (jC #[jI jJ 0,jI jJ 0] 204)).heap[w.heap.size+ 1]? =some (jC #[jI jJ 0,jI jJ 0] 204 (0,0)):=by
   have:=heap_alloc_new (w.alloc (jC #[jI jU 0,jI jU p,.bool false] 247)) (jC #[jI jJ 0,jI jJ 0] 204);rwa[qF]at this
  go_enter Tryz.func238,Tryz.ntmps238;go_wp2_with fail
  generalize (w.alloc (jC #[jI jU 0,jI jU p,.bool false] 247)).alloc (jC #[jI jJ 0,jI jJ 0] 204)=W at*;have i:(W.cell? ⟨w.heap.size,0,none⟩=some (jI jU 0)/\W.cell? ⟨w.heap.size,1,none⟩=some (jI jU p)/\W.cell? ⟨w.heap.size,2,none⟩=some (.bool false))/\W.heap[w.heap.size+ 1]? =some (jC #[jI jJ 0,jI jJ 0] 204 (0,0))/\Below w.heap.size w W:=⟨⟨by simp[World.cell?,f],by simp[World.cell?,f],by simp[World.cell?,f]⟩,j,b⟩;have d:=zA i;clear f j b i;go_region_held3 (fun c=>(c.cell? ⟨w.heap.size,0,none⟩=some (jI jU 0)/\c.cell? ⟨w.heap.size,1,none⟩=some (jI jU p)/\c.cell? ⟨w.heap.size,2,none⟩=some (.bool false))/\c.heap[w.heap.size+ 1]? =some (jC #[jI jJ 0,jI jJ 0] 204 (0,0))/\Below w.heap.size w c)
   (first
    |(with_reducible exact d.out)
    |(with_reducible exact wdK d.out)
    |fail)
   (fail)
  have a:=zA (show(W.drew.cell? ⟨w.heap.size,0,none⟩=some (jI jU 0)/\W.drew.cell? ⟨w.heap.size,1,none⟩=some (jI jU p)/\W.drew.cell? ⟨w.heap.size,2,none⟩=some (.bool false))/\W.drew.heap[w.heap.size+ 1]? =some (jC #[jI jJ 0,jI jJ 0] 204 (0,0))/\Below w.heap.size w W.drew from wdK d.out);rw[show i64.wrap (bits BinOp.or IntKind.u64 (u64.wrap 0) (p/1152921504606846976))=0 by rw[show p/1152921504606846976=0 by omega];decide,show i64.wrap (bits BinOp.and IntKind.u64 p 1152921504606846975)=p by rw[QP,IntKind.wrap_i64];omega];generalize W.drew=V at*;have o:=a.out.1.2.2;clear d;go_wp2_with fail
  refine(Bj p (by omega) (by omega) V).mono ?_;rintro e u ⟨rfl,h⟩;have g:=(h.block _ (Array.getElem?_eq_some_iff.1 a.out.2.1).1).trans a.out.2.1;have k:=zA (a.out.2.2.trans (h.mono a.out.2.2.size));have l:=zA g;obtain⟨q,d1,r,t⟩:=mX g;clear h g o a;go_wp2_with fail
  obtain⟨m,n,_,_⟩:=mX (set2 (jI jJ ((p)/1152921504606846976)) (jI jJ ((p)%1152921504606846976)) l.out);refine bodyPost_ret (v:=.tuple #[jA #[jI jJ ((p)/1152921504606846976),jI jJ ((p)%1152921504606846976)],jI jJ 0]) (by simp[results,Tryz.results238,go_sem,m,n]) rfl ⟨rfl,pQ k.out (by simp) _ _⟩
 |true=>
  have b:Below w.heap.size w ((w.alloc (jC #[jI jU 0,jI jU p,.bool true] 247)).alloc (jC #[jI jJ 0,jI jJ 0] 204)):=((zD _ w).alloc (zC _) _).alloc (by simp) _;have f:((w.alloc (jC #[jI jU 0,jI jU p,.bool true] 247)).alloc (jC #[jI jJ 0,jI jJ 0] 204)).heap[w.heap.size]? =some (jC #[jI jU 0,jI jU p,.bool true] 247 (0,0)):=(zW _ _ _ (by simp)).trans (heap_alloc_new w _);have j:((w.alloc (jC #[jI jU 0,jI jU p,.bool true] 247)).alloc (jC #[jI jJ 0,jI jJ 0] 204)).heap[w.heap.size+ 1]? =some (jC #[jI jJ 0,jI jJ 0] 204 (0,0)):=by
   have:=heap_alloc_new (w.alloc (jC #[jI jU 0,jI jU p,.bool true] 247)) (jC #[jI jJ 0,jI jJ 0] 204);rwa[qF]at this
  go_enter Tryz.func238,Tryz.ntmps238;go_wp2_with fail
  generalize (w.alloc (jC #[jI jU 0,jI jU p,.bool true] 247)).alloc (jC #[jI jJ 0,jI jJ 0] 204)=W at*;have i:(W.cell? ⟨w.heap.size,0,none⟩=some (jI jU 0)/\W.cell? ⟨w.heap.size,1,none⟩=some (jI jU p)/\W.cell? ⟨w.heap.size,2,none⟩=some (.bool true))/\W.heap[w.heap.size+ 1]? =some (jC #[jI jJ 0,jI jJ 0] 204 (0,0))/\Below w.heap.size w W:=⟨⟨by simp[World.cell?,f],by simp[World.cell?,f],by simp[World.cell?,f]⟩,j,b⟩;have d:=zA i;clear f j b i;go_region_held3 (fun c=>(c.cell? ⟨w.heap.size,0,none⟩=some (jI jU 0)/\c.cell? ⟨w.heap.size,1,none⟩=some (jI jU p)/\c.cell? ⟨w.heap.size,2,none⟩=some (.bool true))/\c.heap[w.heap.size+ 1]? =some (jC #[jI jJ 0,jI jJ 0] 204 (0,0))/\Below w.heap.size w c)
   (first
    |(with_reducible exact d.out)
    |(with_reducible exact wdK d.out)
    |fail)
   (fail)
  have a:=zA (show(W.drew.cell? ⟨w.heap.size,0,none⟩=some (jI jU 0)/\W.drew.cell? ⟨w.heap.size,1,none⟩=some (jI jU p)/\W.drew.cell? ⟨w.heap.size,2,none⟩=some (.bool true))/\W.drew.heap[w.heap.size+ 1]? =some (jC #[jI jJ 0,jI jJ 0] 204 (0,0))/\Below w.heap.size w W.drew from wdK d.out);rw[show i64.wrap (bits BinOp.or IntKind.u64 (u64.wrap 0) (p/1152921504606846976))=0 by rw[show p/1152921504606846976=0 by omega];decide,show i64.wrap (bits BinOp.and IntKind.u64 p 1152921504606846975)=p by rw[QP,IntKind.wrap_i64];omega];generalize W.drew=V at*;have o:=a.out.1.2.2;clear d;go_wp2_with fail
  refine(Bj (-p) (by omega) (by omega) V).mono ?_;rintro e u ⟨rfl,h⟩;have g:=(h.block _ (Array.getElem?_eq_some_iff.1 a.out.2.1).1).trans a.out.2.1;have k:=zA (a.out.2.2.trans (h.mono a.out.2.2.size));have l:=zA g;obtain⟨q,d1,r,t⟩:=mX g;clear h g o a;go_wp2_with fail
  obtain⟨m,n,_,_⟩:=mX (set2 (jI jJ ((-p)/1152921504606846976)) (jI jJ ((-p)%1152921504606846976)) l.out);refine bodyPost_ret (v:=.tuple #[jA #[jI jJ ((-p)/1152921504606846976),jI jJ ((-p)%1152921504606846976)],jI jJ 0]) (by simp[results,Tryz.results238,go_sem,m,n]) rfl ⟨rfl,pQ k.out (by simp) _ _⟩
theorem aBB{w0 W:World}{k j t:Nat}{a b:Value}{c:Array Value}(h:(W.cell? ⟨k,0,none⟩=some a/\W.cell? ⟨k,1,none⟩=some b)/\W.heap[j]? =some (jC c t (0,0))/\Below w0.heap.size w0 W):
  (W.drew.cell? ⟨k,0,none⟩=some a/\W.drew.cell? ⟨k,1,none⟩=some b)/\W.drew.heap[j]? =some (jC c t (0,0))/\Below w0.heap.size w0 W.drew:=⟨h.1,h.2.1,h.2.2.drew⟩
theorem Sh(p:Int)(q:0<=p)(r:p<1152921504606846976)(w:World):Calls zB 271 #[jA #[jI jJ 0,jI jJ p]] w (mV (jA #[jI jU 0,jI jU p,.bool false]) w):=by
 have a:Below w.heap.size w ((w.alloc (jC #[jI jJ 0,jI jJ p] 204)).alloc (jC #[jI jU 0,jI jU 0,.bool false] 247)):=((zD _ w).alloc (zC _) _).alloc (by simp) _;have f:((w.alloc (jC #[jI jJ 0,jI jJ p] 204)).alloc (jC #[jI jU 0,jI jU 0,.bool false] 247)).heap[w.heap.size]? =some (jC #[jI jJ 0,jI jJ p] 204 (0,0)):=(zW _ _ _ (by simp)).trans (heap_alloc_new w _);have g:((w.alloc (jC #[jI jJ 0,jI jJ p] 204)).alloc (jC #[jI jU 0,jI jU 0,.bool false] 247)).heap[w.heap.size+ 1]? =some (jC #[jI jU 0,jI jU 0,.bool false] 247 (0,0)):=by
  have:=heap_alloc_new (w.alloc (jC #[jI jJ 0,jI jJ p] 204)) (jC #[jI jU 0,jI jU 0,.bool false] 247);rwa[qF]at this
 go_enter Tryz.func271,Tryz.ntmps271;go_wp2_with fail
 generalize (w.alloc (jC #[jI jJ 0,jI jJ p] 204)).alloc (jC #[jI jU 0,jI jU 0,.bool false] 247)=W at*;have c:=zA (show(W.cell? ⟨w.heap.size,0,none⟩=some (jI jJ 0)/\W.cell? ⟨w.heap.size,1,none⟩=some (jI jJ p))/\W.heap[w.heap.size+ 1]? =some (jC #[jI jU 0,jI jU 0,.bool false] 247 (0,0))/\Below w.heap.size w W from⟨⟨by simp[World.cell?,f],by simp[World.cell?,f]⟩,g,a⟩);clear f g a;go_region_held3 (fun d=>(d.cell? ⟨w.heap.size,0,none⟩=some (jI jJ 0)/\d.cell? ⟨w.heap.size,1,none⟩=some (jI jJ p))/\d.heap[w.heap.size+ 1]? =some (jC #[jI jU 0,jI jU 0,.bool false] 247 (0,0))/\Below w.heap.size w d)
  (first
   |(with_reducible exact c.out)
   |(with_reducible exact aBB c.out)
   |fail)
  (fail)
 have e:=zA (aBB c.out);generalize W.drew=V at*;clear c;obtain⟨l,d1,d2,m,n,o⟩:=JP e.out.2.1;go_wp2_with fail
 rw[Nv p (by omega) (by omega)];have h:=zA (JM e.out.2.2 (b:=w.heap.size+1) (by simp) (jI jU 0) (jI jU (p)) (.bool false));obtain⟨i,j,k,_,_,_⟩:=JP (set3 (jI jU 0) (jI jU (p)) (.bool false) e.out.2.1);refine bodyPost_ret (v:=jA #[jI jU 0,jI jU (p),.bool false]) (by simp[results,Tryz.results271,go_sem,i,j,k]) rfl ⟨rfl,h.out⟩
theorem Sg(l:Int)(q:0<l)(r:l<1152921504606846976)(w:World):Calls zB 271 #[jA #[jI jJ (-1),jI jJ l]] w (mV (jA #[jI jU 0,jI jU (1152921504606846976-l),.bool true]) w):=by
 have a:Below w.heap.size w ((w.alloc (jC #[jI jJ (-1),jI jJ l] 204)).alloc (jC #[jI jU 0,jI jU 0,.bool false] 247)):=((zD _ w).alloc (zC _) _).alloc (by simp) _;have f:((w.alloc (jC #[jI jJ (-1),jI jJ l] 204)).alloc (jC #[jI jU 0,jI jU 0,.bool false] 247)).heap[w.heap.size]? =some (jC #[jI jJ (-1),jI jJ l] 204 (0,0)):=(zW _ _ _ (by simp)).trans (heap_alloc_new w _);have g:((w.alloc (jC #[jI jJ (-1),jI jJ l] 204)).alloc (jC #[jI jU 0,jI jU 0,.bool false] 247)).heap[w.heap.size+ 1]? =some (jC #[jI jU 0,jI jU 0,.bool false] 247 (0,0)):=by
  have:=heap_alloc_new (w.alloc (jC #[jI jJ (-1),jI jJ l] 204)) (jC #[jI jU 0,jI jU 0,.bool false] 247);rwa[qF]at this
 go_enter Tryz.func271,Tryz.ntmps271;go_wp2_with fail
 generalize (w.alloc (jC #[jI jJ (-1),jI jJ l] 204)).alloc (jC #[jI jU 0,jI jU 0,.bool false] 247)=W at*;have c:=zA (show(W.cell? ⟨w.heap.size,0,none⟩=some (jI jJ (-1))/\W.cell? ⟨w.heap.size,1,none⟩=some (jI jJ l))/\W.heap[w.heap.size+ 1]? =some (jC #[jI jU 0,jI jU 0,.bool false] 247 (0,0))/\Below w.heap.size w W from⟨⟨by simp[World.cell?,f],by simp[World.cell?,f]⟩,g,a⟩);clear f g a;go_region_held3 (fun d=>(d.cell? ⟨w.heap.size,0,none⟩=some (jI jJ (-1))/\d.cell? ⟨w.heap.size,1,none⟩=some (jI jJ l))/\d.heap[w.heap.size+ 1]? =some (jC #[jI jU 0,jI jU 0,.bool false] 247 (0,0))/\Below w.heap.size w d)
  (first
   |(with_reducible exact c.out)
   |(with_reducible exact aBB c.out)
   |fail)
  (fail)
 have e:=zA (aBB c.out);generalize W.drew=V at*;clear c;obtain⟨m,d1,d2,n,o,p⟩:=JP e.out.2.1;go_wp2_with fail
 rw[show(1+-l/1152921504606846976:Int)=0 by omega,show bits BinOp.and IntKind.i64 (-l) 1152921504606846975=1152921504606846976-l by rw[PS];omega,show(0/16:Int)=0 by rfl,show(0*1152921504606846976:Int)=0 by rfl,show u64.wrap (1152921504606846976-l)=1152921504606846976-l by rw[IntKind.wrap_u64];omega,Nv _ (by omega) (by omega)];have h:=zA (JM e.out.2.2 (b:=w.heap.size+1) (by simp) (jI jU 0) (jI jU (1152921504606846976-l)) (.bool true));obtain⟨i,j,k,_,_,_⟩:=JP (set3 (jI jU 0) (jI jU (1152921504606846976-l)) (.bool true) e.out.2.1);refine bodyPost_ret (v:=jA #[jI jU 0,jI jU (1152921504606846976-l),.bool true]) (by simp[results,Tryz.results271,go_sem,i,j,k]) rfl ⟨rfl,h.out⟩
theorem aGk(q:Int)(a:0<=q)(b:q<4611686018427387904):wrap64 (u64.wrap (-q))=-q:=by
 simp only[IntKind.wrap_u64,wrap64];omega
def WQ(up neg:Bool)(q r:Int):Int:=if neg then -(if 0<r/\up=false then q+1 else q) else(if 0<r/\up=true then q+1 else q)
theorem If{hi lo M D d q r:Int}{s:Bool}(up:Bool)(A:∀w,Calls zB 270 #[jA #[jI jJ hi,jI jJ lo]] w (mV (.bool true) w))(z:∀w,Calls zB 271 #[jA #[jI jJ hi,jI jJ lo]] w (mV (jA #[jI jU 0,jI jU M,.bool s]) w))
  (x:∀w,Calls zB 237 #[jI jJ d] w (mV (jI jU D) w))(y:∀w,Calls zB 243 #[jI jU 0,jI jU M,jI jU D] w (AK q r w))(J:d≠0)(Z:0<D)(O:0<=q)(Q:q<1152921504606846976)(hr:0<=r){R:Int}(hR:R=WQ up (s != decide (d<0)) q r)(w:World):
  Calls zB 239 #[jA #[jI jJ hi,jI jJ lo],jI jJ d,.bool up] w (mV (.tuple #[jI jJ R,jI jJ 0]) w):=by
 have t:=zA hR;clear hR;have v:=zA A;have u:=zA z;have o:=zA x;have p:=zA y;have c:Below w.heap.size w (w.alloc (jC #[jI jJ hi,jI jJ lo] 204)):=(zD _ w).alloc (zC _) _;have m:=heap_alloc_new w (jC #[jI jJ hi,jI jJ lo] 204);have L:(d==0)=false:=beq_eq_false_iff_ne.2 J;clear A z x y;go_enter Tryz.func239,Tryz.ntmps239;go_wp2_with fail
 generalize w.alloc (jC #[jI jJ hi,jI jJ lo] 204)=W at*;refine(v.out W).mono ?_;rintro e U ⟨rfl,f⟩;have B:=(f.block _ (Array.getElem?_eq_some_iff.1 m).1).trans m;have h:=c.trans (f.mono c.size);clear c m f;obtain⟨I,c1,_,_⟩:=mX B;have j:=zA h;clear h B;go_wp2_with fail
 refine(u.out U).mono ?_;rintro e X ⟨rfl,i⟩;have a:=zA (j.out.trans (i.mono j.out.size));clear j i I c1;go_wp2_with fail
 refine(o.out X).mono ?_;rintro e n ⟨rfl,g⟩;have b:=zA ((a.out.trans (g.mono a.out.size)).alloc (Nat.le_trans a.out.size g.size) (jC #[jI jU 0,jI jU M,.bool s] 247));have E:=heap_alloc_new n (jC #[jI jU 0,jI jU M,.bool s] 247);clear a g;have K:¬D<=0:=by omega
 go_wp2_with fail
 generalize n.alloc (jC #[jI jU 0,jI jU M,.bool s] 247)=V at*;refine(p.out V).mono ?_;rintro e H ⟨rfl,l⟩;have G:H.heap[n.heap.size]? =some (jC #[jI jU 0,jI jU M,.bool s] 247 (0,0)):=by rcases l with rfl|rfl<;>exact E
 have k:RowKit.Hid (Below w.heap.size w H):=zA (by rcases l with rfl|rfl<;>first|exact b.out|exact b.out.drew);obtain⟨_,_,Y,_,_,_⟩:=JP G;clear l E G b v u o p;have hz:d<0\/¬d<0:=by omega
 have hrr:r=0\/0<r:=by omega
 have hR:=t.out;clear t;unfold WQ at hR;cases up<;>cases s<;>rcases hz with hz|hz<;>rcases hrr with hrr|hrr<;>simp only[hz,hrr,decide_true,decide_false,bne_self_eq_false,Bool.false_bne,Bool.true_bne,Bool.not_false,if_true,if_false,and_true,and_false,Bool.false_eq_true,Int.lt_irrefl,reduceCtorEq]at hR<;>subst hR
 all_goals (try have N:decide (d<0)=false:=decide_eq_false (by omega))
 all_goals go_wp2_with fail
 all_goals (first
  |rw[aGk (q+1) (by omega) (by omega)]
  |rw[aGk q O (by omega)]
  |skip)
 all_goals (first|(go_ret2;exact⟨rfl,k.out⟩)|(exfalso;omega)|(exfalso;simp_all;done)|trace_state)
theorem gZ{P D X:Int}(c:0<D)(a:X*D<=P)(b:P<X*D+D):P/D=X:=by
 have e:P=(P-X*D)+X*D:=by omega
 rw[e,Int.add_mul_ediv_right _ _ (by omega),Int.ediv_eq_zero_of_lt (by omega) (by omega)];omega
def SP(P d:Int):Int:=if d<0 then(-P)/(-d) else P/d
def VW(P d:Int):Int:=-SP (-P) d
theorem aGm{P d q r:Int}(_:d≠0)(_:0<=q)(e:0<=r)(c:r<(if d<0 then -d else d))(h:(if P<0 then -P else P)=q*(if d<0 then -d else d)+r):WQ false (decide (P<0) != decide (d<0)) q r=SP P d:=by
 unfold SP WQ;by_cases b:d<0
 ·rw[if_pos b]at h c ⊢;rw[decide_eq_true b];by_cases a:P<0
  ·rw[if_pos a]at h;rw[decide_eq_true a];simp only[bne_self_eq_false,Bool.false_eq_true,if_false,and_false];exact(gZ (by omega) (by omega) (by omega)).symm
  ·rw[if_neg a]at h;rw[decide_eq_false a];simp only[Bool.false_bne,if_true,and_true];split
   ·refine(gZ (by omega) ?_ ?_).symm<;>simp only[xT,aiX]<;>omega
   ·refine(gZ (by omega) ?_ ?_).symm<;>simp only[xT]<;>omega
 ·rw[if_neg b]at h c ⊢;rw[decide_eq_false b];by_cases a:P<0
  ·rw[if_pos a]at h;rw[decide_eq_true a];simp only[Bool.bne_false,if_true,and_true];split
   ·refine(gZ (by omega) ?_ ?_).symm<;>simp only[xT,aiX]<;>omega
   ·refine(gZ (by omega) ?_ ?_).symm<;>simp only[xT]<;>omega
  ·rw[if_neg a]at h;rw[decide_eq_false a];simp only[bne_self_eq_false,Bool.false_eq_true,if_false,and_false];exact(gZ (by omega) (by omega) (by omega)).symm
theorem aGl{P d q r:Int}(_:d≠0)(_:0<=q)(e:0<=r)(c:r<(if d<0 then -d else d))(h:(if P<0 then -P else P)=q*(if d<0 then -d else d)+r):WQ true (decide (P<0) != decide (d<0)) q r=VW P d:=by
 unfold VW SP WQ;by_cases b:d<0
 ·rw[if_pos b]at h c ⊢;rw[decide_eq_true b];by_cases a:P<0
  ·rw[if_pos a]at h;rw[decide_eq_true a];simp only[bne_self_eq_false,Bool.false_eq_true,if_false,and_true];split
   ·rw[gZ (X:=-(q+1)) (by omega)]<;>(try simp only[xT,aiX])<;>omega
   ·rw[gZ (X:=-q) (by omega)]<;>(try simp only[xT])<;>omega
  ·rw[if_neg a]at h;rw[decide_eq_false a];simp only[Bool.false_bne,if_true,and_false,if_false,Bool.true_eq_false];rw[gZ (X:=q) (by omega)]<;>omega
 ·rw[if_neg b]at h c ⊢;rw[decide_eq_false b];by_cases a:P<0
  ·rw[if_pos a]at h;rw[decide_eq_true a];simp only[Bool.bne_false,if_true,and_false,if_false,Bool.true_eq_false];rw[gZ (X:=q) (by omega)]<;>omega
  ·rw[if_neg a]at h;rw[decide_eq_false a];simp only[bne_self_eq_false,Bool.false_eq_true,if_false,and_true];split
   ·rw[gZ (X:=-(q+1)) (by omega)]<;>(try simp only[xT,aiX])<;>omega
   ·rw[gZ (X:=-q) (by omega)]<;>(try simp only[xT])<;>omega
theorem QY{P d:Int}(up:Bool)(k:-1152921504606846976<P)(i:P<1152921504606846976)(e:d≠0)(d1:-4294967296<d)(d2:d<4294967296)(w:World):
  Calls zB 239 #[jA #[jI jJ (P/1152921504606846976),jI jJ (P%1152921504606846976)],jI jJ d,.bool up] w (mV (.tuple #[jI jJ (if up then VW P d else SP P d),jI jJ 0]) w):=by
 obtain⟨q,r,c,n,g,h,l,j⟩:=dQ 0 (if P<0 then -P else P) (if d<0 then -d else d) (by split<;>omega) (by split<;>omega) (by omega) (by split<;>omega) (by split<;>omega) (by split<;>omega);have a:(if P<0 then -P else P)=q*(if d<0 then -d else d)+r:=by omega
 have f:q<1152921504606846976:=by
  have m:q*1<=q*(if d<0 then -d else d):=Int.mul_le_mul_of_nonneg_left (by split<;>omega) c;have:(if P<0 then -P else P)<1152921504606846976:=by split<;>omega
  omega
 refine If (s:=decide (P<0)) up (fun w=>Bm (by omega) (by omega) (by omega) (by omega) w) (fun w=>?_) (fun w=>NV d (by omega) (by omega) w) j e (by split<;>omega) c f g ?_ w
 ·by_cases b:P<0
  ·rw[if_pos b,decide_eq_true b];have e1:P/1152921504606846976=-1:=by omega
   have e2:P%1152921504606846976=P+1152921504606846976:=by omega
   have:=Sg (P+1152921504606846976) (by omega) (by omega) w;rw[show 1152921504606846976-(P+1152921504606846976)=-P by omega]at this;rw[e1,e2];exact this
  ·rw[if_neg b,decide_eq_false b];have e1:P/1152921504606846976=0:=by omega
   have e2:P%1152921504606846976=P:=by omega
   rw[e1,e2];exact Sh P (by omega) i w
 ·cases up
  ·exact(aGm e c g h a).symm
  ·exact(aGl e c g h a).symm
theorem Ib{P d:Int}(c:-1152921504606846976<P)(f:P<1152921504606846976)(h:d≠0)(d1:-4294967296<d)(d2:d<4294967296)(w:World):
  Calls zB 176 #[jA #[jI jJ (P/1152921504606846976),jI jJ (P%1152921504606846976)],jI jJ d] w (mV (.tuple #[jI jJ (SP P d),jI jJ 0]) w):=by
 have b:=zA (fun w=>QY false c f h d1 d2 w);have a:=zA ((zD _ w).alloc (zC _) (jC #[jI jJ (P/1152921504606846976),jI jJ (P%1152921504606846976)] 204));clear c f h d1 d2;go_enter Tryz.func176,Tryz.ntmps176;go_wp2_with fail
 refine(b.out _).mono ?_;rintro e j ⟨rfl,g⟩;have i:=zA (a.out.trans (g.mono a.out.size));clear g a b;go_wp2_with fail
 go_ret2
 exact⟨rfl,i.out⟩
theorem Rz{P d:Int}(c:-1152921504606846976<P)(f:P<1152921504606846976)(h:d≠0)(d1:-4294967296<d)(d2:d<4294967296)(w:World):
  Calls zB 177 #[jA #[jI jJ (P/1152921504606846976),jI jJ (P%1152921504606846976)],jI jJ d] w (mV (.tuple #[jI jJ (VW P d),jI jJ 0]) w):=by
 have b:=zA (fun w=>QY true c f h d1 d2 w);have a:=zA ((zD _ w).alloc (zC _) (jC #[jI jJ (P/1152921504606846976),jI jJ (P%1152921504606846976)] 204));clear c f h d1 d2;go_enter Tryz.func177,Tryz.ntmps177;go_wp2_with fail
 refine(b.out _).mono ?_;rintro e j ⟨rfl,g⟩;have i:=zA (a.out.trans (g.mono a.out.size));clear g a b;go_wp2_with fail
 go_ret2
 exact⟨rfl,i.out⟩
theorem Om{f:FuncId}{a a':Value}{w:World}{R:Ending->World->Prop}(h:a=a')(b:Calls zB f #[a] w R):Calls zB f #[a'] w R:=h ▸ b
theorem Se{x y:Int}(x1:-4611686018427387904<x)(x2:x<4611686018427387904)(y1:-4611686018427387904<y)(y2:y<4611686018427387904)(N:-1152921504606846976<x*y)(O:x*y<1152921504606846976)(w:World):
  Calls zB 175 #[jI jJ x,jI jJ y] w (mV (.tuple #[jA #[jI jJ (x*y/1152921504606846976),jI jJ (x*y%1152921504606846976)],jI jJ 0]) w):=by
 obtain⟨M,p⟩:∃M,M=(if x<0 then -x else x)*(if y<0 then -y else y):=⟨_,rfl⟩;have a:M=if x*y<0 then -(x*y) else x*y:=by
  rw[p];by_cases h:x<0<;>by_cases i:y<0
  ·have:=Int.mul_pos_of_neg_of_neg h i;rw[if_pos h,if_pos i,if_neg (by omega),Int.neg_mul_neg]
  ·rw[if_pos h,if_neg i,xT];have:=zX (show 0<=-x by omega) (show 0<=y by omega);rw[xT]at this;split<;>omega
  ·rw[if_neg h,if_pos i,Int.mul_neg];have:=zX (show 0<=x by omega) (show 0<=-y by omega);rw[Int.mul_neg]at this;split<;>omega
  ·have:=zX (show 0<=x by omega) (show 0<=y by omega);rw[if_neg h,if_neg i,if_neg (by omega)]
 have k:0<=M:=by rw[a];split<;>omega
 have l:M<1152921504606846976:=by rw[a];split<;>omega
 obtain⟨s,u⟩:∃s,s=(((decide (x<0) != decide (y<0))&&(x != 0))&&(y != 0)):=⟨_,rfl⟩;have m:(if s then -M else M)=x*y:=by
  by_cases n:x=0
  ·subst n;simp at a;rw[a];simp
  ·by_cases o:y=0
   ·subst o;simp at a;rw[a];simp
   ·rw[u,bne_iff_ne.2 n,bne_iff_ne.2 o,Bool.and_true,Bool.and_true,p];by_cases h:x<0<;>by_cases i:y<0<;>simp[h,i,xT,Int.mul_neg]
 have H:=zA (fun w=>NV x x1 x2 w);have q:=zA (fun w=>NV y y1 y2 w);have J:=zA (show ∀w,Calls zB 236 #[jI jU (if x<0 then -x else x),jI jU (if y<0 then -y else y)] w (fun e Q=>e=.returned (.tuple #[jI jU 0,jI jU M])/\w=Q) by
  intro w;have:=uP (if x<0 then -x else x) (if y<0 then -y else y) ⟨by split<;>omega,by split<;>omega⟩ ⟨by split<;>omega,by split<;>omega⟩ w;unfold Ip at this;rwa[<-p,show M/18446744073709551616=0 by omega,show M%18446744073709551616=M by omega]at this)
 have E:=zA (fun w=>Si M k l s w);rw[m]at E;have t:=zA u;clear x1 x2 y1 y2 N O p a k l m u;generalize (if x<0 then -x else x)=X at*;generalize (if y<0 then -y else y)=Y at*;generalize x*y=P at*;have c:Below w.heap.size w (w.alloc (jC #[jI jJ 0,jI jJ 0] 204)):=(zD _ w).alloc (zC _) _;have z:=heap_alloc_new w (jC #[jI jJ 0,jI jJ 0] 204);go_enter Tryz.func175,Tryz.ntmps175;go_wp2_with fail
 generalize w.alloc (jC #[jI jJ 0,jI jJ 0] 204)=W at*;refine(H.out W).mono ?_;rintro e R ⟨rfl,d⟩;have A:=(d.block _ (Array.getElem?_eq_some_iff.1 z).1).trans z;have b:=zA (c.trans (d.mono c.size));clear c z d;go_wp2_with fail
 refine(q.out R).mono ?_;rintro e G ⟨rfl,f⟩;have B:=(f.block _ (Array.getElem?_eq_some_iff.1 A).1).trans A;have j:=zA (b.out.trans (f.mono b.out.size));clear b A f;go_wp2_with fail
 refine(J.out G).mono ?_;rintro e U ⟨rfl,rfl⟩;go_wp2_with fail
 all_goals
  refine(Om (by rw[t.out];first|rfl|(simp_all;done)) (E.out G)).mono ?_;rintro e U ⟨rfl,g⟩;have D:=(g.block _ (Array.getElem?_eq_some_iff.1 B).1).trans B;have r:=zA (j.out.trans (g.mono j.out.size));obtain⟨V,d1,Z,f1⟩:=mX D;have I:=zA D;clear B D g;go_wp2_with fail
  obtain⟨K,L,_,_⟩:=mX (set2 (jI jJ (P/1152921504606846976)) (jI jJ (P%1152921504606846976)) I.out);refine bodyPost_ret (v:=.tuple #[jA #[jI jJ (P/1152921504606846976),jI jJ (P%1152921504606846976)],jI jJ 0]) (by simp[results,Tryz.results175,go_sem,K,L]) rfl ⟨rfl,pQ r.out (zC _) _ _⟩
def wQ(x n d:Int):Bool:=decide (-2147483648<=x/\x<=2147483648/\-268435456<=n/\n<=268435456/\d≠0/\-2147483648<=d/\d<=2147483648)
def s8(x n d:Int):Int×Int×Int:=(SP (x*n) d,VW (x*n) d,0)
theorem Zq[Ev.Gl](x n d:Int)(k:wQ x n d=true):Ev.aF zB 124 [jI jJ x,jI jJ n,jI jJ d] (.tuple ⟨[jI jJ (s8 x n d).1,jI jJ (s8 x n d).2.1,jI jJ (s8 x n d).2.2]⟩):=by
 intro w _;obtain⟨B,D,v,z,i,d1,d2⟩:=of_decide_eq_true k;have r:x*n<=2147483648*268435456:=by
  have t:(2147483648-x)*(268435456+n)>=0:=zX (by omega) (by omega);have u:(2147483648+x)*(268435456-n)>=0:=zX (by omega) (by omega);have e1:(2147483648-x)*(268435456+n)=2147483648*268435456+2147483648*n-x*268435456-x*n:=by grind
  have e2:(2147483648+x)*(268435456-n)=2147483648*268435456-2147483648*n+x*268435456-x*n:=by grind
  omega
 have s:-(2147483648*268435456)<=x*n:=by
  have t:(2147483648+x)*(268435456+n)>=0:=zX (by omega) (by omega);have u:(2147483648-x)*(268435456-n)>=0:=zX (by omega) (by omega);have e1:(2147483648+x)*(268435456+n)=2147483648*268435456+2147483648*n+x*268435456+x*n:=by grind
  have e2:(2147483648-x)*(268435456-n)=2147483648*268435456-2147483648*n-x*268435456+x*n:=by grind
  omega
 have q:=zA (fun w=>Se (x:=x) (y:=n) (by omega) (by omega) (by omega) (by omega) (by omega) (by omega) w);have p:=zA (fun w=>Ib (P:=x*n) (d:=d) (by omega) (by omega) i (by omega) (by omega) w);have o:=zA (fun w=>Rz (P:=x*n) (d:=d) (by omega) (by omega) i (by omega) (by omega) w);unfold s8;clear k B D v z i d1 d2 r s;dsimp only;generalize x*n=P at*;show Calls zB 124 #[jI jJ x,jI jJ n,jI jJ d] w (mV (.tuple #[jI jJ (SP P d),jI jJ (VW P d),jI jJ 0]) w);go_enter Tryz.func124,Tryz.ntmps124;go_wp2_with fail
 refine(q.out w).mono ?_;rintro e m ⟨rfl,c⟩;have a:=zA (c.alloc c.size (jC #[jI jJ (P/1152921504606846976),jI jJ (P%1152921504606846976)] 204));have j:=heap_alloc_new m (jC #[jI jJ (P/1152921504606846976),jI jJ (P%1152921504606846976)] 204);clear c;go_wp2_with fail
 generalize m.alloc (jC #[jI jJ (P/1152921504606846976),jI jJ (P%1152921504606846976)] 204)=V at*;refine(p.out V).mono ?_;rintro e A ⟨rfl,f⟩;have l:=(f.block _ (Array.getElem?_eq_some_iff.1 j).1).trans j;have b:=zA (a.out.trans (f.mono a.out.size));obtain⟨E,c1,_,_⟩:=mX l;clear j l f a;go_wp2_with fail
 refine(o.out A).mono ?_;rintro e G ⟨rfl,g⟩;have h:=zA (b.out.trans (g.mono b.out.size));clear g b;go_wp2_with fail
 go_ret3
 exact⟨rfl,h.out⟩
end
section
open Ev (Gl)
open SM
theorem pD{m n:Int}(d:-5400000<=m)(h:m<=n)(e:n<=5400000):mE m<=mE n:=by
 have a:=(IG (-m) (by omega) (by omega)).1;have b:=(IG (-n) (by omega) (by omega)).1;have c:=nD (m:=-n) (n:=-m) (by omega) (by omega) (by omega);rw[Int.neg_neg]at a b;omega
theorem LP{m n:Int}(h:m%21600000=n%21600000):mE m=mE n/\iQ m=iQ n:=by
 unfold mE iQ lW mF;rw[h];exact⟨rfl,rfl⟩
def cU(n:Int):Int:=(n+5400000)%21600000-5400000
theorem kN(n:Int):mE n=mE (cU n)/\iQ n=iQ (cU n):=LP (by unfold cU;omega)
theorem nF{m:Int}(_h0:5400000<=m)(_h1:m<=16200000):mE m=mE (10800000-m)/\iQ m=iQ (10800000-m):=by
 have:=aAy (m-5400000);rw[show m-5400000+5400000=m by omega,show 5400000-(m-5400000)=10800000-m by omega]at this;exact this
theorem tI{lo hi n:Int}(e:lo<=n)(f:n<=hi):lJ lo hi<=mE n:=by
 unfold lJ;by_cases a:tP lo hi 16200000=true
 ·rw[if_pos a];have:=mK n;omega
 ·rw[if_neg a];have b:¬(16200000-lo)%21600000<=hi-lo:=fun q=>a (decide_eq_true q);have e1:cU n=cU lo+(n-lo):=by unfold cU;omega
  have e2:cU hi=cU lo+(hi-lo):=by unfold cU;omega
  have c:-5400000<cU lo:=by unfold cU;omega
  have d:cU hi<16200000:=by unfold cU;omega
  rw[(kN n).1,(kN lo).1,(kN hi).1];by_cases q:cU n<=5400000
  ·have:=pD (m:=cU lo) (n:=cU n) (by omega) (by omega) q;omega
  ·rw[(nF (m:=cU n) (by omega) (by omega)).1];have g:=(nF (m:=cU hi) (by omega) (by omega)).1;have:=pD (m:=10800000-cU hi) (n:=10800000-cU n) (by omega) (by omega) (by omega);omega
theorem tH{lo hi n:Int}(e:lo<=n)(f:n<=hi):iQ n<=lZ lo hi:=by
 unfold lZ;by_cases a:tP lo hi 5400000=true
 ·rw[if_pos a];have:=mK n;omega
 ·rw[if_neg a];have c:¬(5400000-lo)%21600000<=hi-lo:=fun q=>a (decide_eq_true q);by_cases q:cU n<=5400000
  ·by_cases b:cU hi<=5400000/\cU n<=cU hi
   ·have:=nD (m:=cU n) (n:=cU hi) (by unfold cU;omega) b.2 b.1;rw[(kN n).2,(kN hi).2];omega
   ·exfalso;unfold cU at q b;omega
  ·have d:cU n<16200000:=by unfold cU;omega
   have e1:5400000<cU lo/\cU lo<=cU n:=by unfold cU at*;omega
   rw[(kN n).2,(kN lo).2,(nF (m:=cU n) (by omega) (by omega)).2];have g:=(nF (m:=cU lo) (by omega) (by omega)).2;have:=nD (m:=10800000-cU n) (n:=10800000-cU lo) (by omega) (by omega) (by omega);omega
theorem IA{lo hi:Int}(h:lo<=hi):∃n,lo<=n/\n<=hi/\lJ lo hi=mE n:=by
 unfold lJ;by_cases a:tP lo hi 16200000=true
 ·rw[if_pos a];have b:=of_decide_eq_true a;refine⟨lo+(16200000-lo)%21600000,by omega,by omega,?_⟩;have:mE 16200000=-1073741824:=by decide+kernel
  rw[(LP (m:=lo+(16200000-lo)%21600000) (n:=16200000) (by omega)).1,this]
 ·rw[if_neg a];by_cases q:mE lo<=mE hi
  ·exact⟨lo,by omega,h,by omega⟩
  ·exact⟨hi,h,by omega,by omega⟩
theorem SL{lo hi:Int}(h:lo<=hi):∃n,lo<=n/\n<=hi/\lZ lo hi=iQ n:=by
 unfold lZ;by_cases a:tP lo hi 5400000=true
 ·rw[if_pos a];have b:=of_decide_eq_true a;refine⟨lo+(5400000-lo)%21600000,by omega,by omega,?_⟩;have:iQ 5400000=1073741824:=by decide+kernel
  rw[(LP (m:=lo+(5400000-lo)%21600000) (n:=5400000) (by omega)).2,this]
 ·rw[if_neg a];by_cases q:iQ lo<=iQ hi
  ·exact⟨hi,h,by omega,by omega⟩
  ·exact⟨lo,by omega,h,by omega⟩
theorem XD{a b lo hi:Int}(h:a<=b)(c:lo<=a)(d:b<=hi):lJ lo hi<=lJ a b/\lZ a b<=lZ lo hi:=by
 obtain⟨n,e,f,g⟩:=IA h;obtain⟨m,i,j,k⟩:=SL h;have:=tI (lo:=lo) (hi:=hi) (n:=n) (by omega) (by omega);have:=tH (lo:=lo) (hi:=hi) (n:=m) (by omega) (by omega);omega
theorem uK{a b:Int}(h:a<=b):lJ a b<=lZ a b:=by
 have c:=tI (lo:=a) (hi:=b) (n:=a) (by omega) h;have d:=tH (lo:=a) (hi:=b) (n:=a) (by omega) h;have:=mK a;omega
def lY(r s:Int×Int×Int):Prop:=r.2.2=0/\s.2.2=0/\s.1<=r.1/\r.1<=r.2.1/\r.2.1<=s.2.1
theorem aW{a b:Int}(c:-1099511627776<=a)(d:a<=b)(e:b<=1099511627776):aB a b=true:=decide_eq_true ⟨c,d,e⟩
theorem Ae{a b c d:Int}(h:aB c d=true)(g:c<=a)(e:a<=b)(i:b<=d):lY (fK a b) (fK c d):=by
 have j:=dW h;have f:aB a b=true:=aW (by omega) e (by omega);have:=XD e g i;have:=uK e;simp[lY,fK,h,f];omega
theorem oV{a b c d:Int}(h:aB c d=true)(g:c<=a)(f:a<=b)(i:b<=d):lY (bB a b) (bB c d):=by
 have j:=dW h;have e:aB a b=true:=aW (by omega) f (by omega);have:=XD (a:=a+5400000) (b:=b+5400000) (lo:=c+5400000) (hi:=d+5400000) (by omega) (by omega) (by omega);have:=uK (a:=a+5400000) (b:=b+5400000) (by omega);simp[lY,bB,h,e];omega
theorem wY{a b:Int}(h:aB a b=true):(-1073741824<=(fK a b).1/\(fK a b).1<=(fK a b).2.1/\(fK a b).2.1<=1073741824/\(fK a b).2.2=0)/\(-1073741824<=(bB a b).1/\(bB a b).1<=(bB a b).2.1/\(bB a b).2.1<=1073741824/\(bB a b).2.2=0)/\
  (0<=(OG a b).1/\(OG a b).1<=(OG a b).2.1/\(OG a b).2.1<=1073741824/\(OG a b).2.2=0):=by
 have g:=dW h;have c:=SN a b;have d:=SN (a+5400000) (b+5400000);have e:=uK (a:=a) (b:=b) (by omega);have f:=uK (a:=a+5400000) (b:=b+5400000) (by omega);simp[fK,bB,OG,h];omega
theorem aC2{a x b:Int}(y:Int)(c:a<=x)(d:x<=b):(a*y<=x*y/\x*y<=b*y)\/(b*y<=x*y/\x*y<=a*y):=by
 rcases Int.le_total 0 y with h|h
 ·exact .inl ⟨Int.mul_le_mul_of_nonneg_right c h,Int.mul_le_mul_of_nonneg_right d h⟩
 ·exact .inr ⟨Int.mul_le_mul_of_nonpos_right d h,Int.mul_le_mul_of_nonpos_right c h⟩
theorem aC3{c y d:Int}(x:Int)(e:c<=y)(f:y<=d):(x*c<=x*y/\x*y<=x*d)\/(x*d<=x*y/\x*y<=x*c):=by
 have:=aC2 (a:=c) (x:=y) (b:=d) x e f;rw[aiJ c x,aiJ y x,aiJ d x]at this;exact this
theorem mn4(p q r s:Int):(mn (mn (mn p q) r) s<=p/\mn (mn (mn p q) r) s<=q/\mn (mn (mn p q) r) s<=r/\mn (mn (mn p q) r) s<=s)/\
  (mn (mn (mn p q) r) s=p\/mn (mn (mn p q) r) s=q\/mn (mn (mn p q) r) s=r\/mn (mn (mn p q) r) s=s):=by
 have a:=eJ p q;have b:=eJ (mn p q) r;have c:=eJ (mn (mn p q) r) s;omega
theorem mx4(p q r s:Int):(p<=mx (mx (mx p q) r) s/\q<=mx (mx (mx p q) r) s/\r<=mx (mx (mx p q) r) s/\s<=mx (mx (mx p q) r) s)/\
  (mx (mx (mx p q) r) s=p\/mx (mx (mx p q) r) s=q\/mx (mx (mx p q) r) s=r\/mx (mx (mx p q) r) s=s):=by
 have a:=dY p q;have b:=dY (mx p q) r;have c:=dY (mx (mx p q) r) s;omega
theorem pX{a b c d x y:Int}(g:a<=x)(h:x<=b)(e:c<=y)(f:y<=d):tR a b c d<=x*y/\x*y<=tQ a b c d:=by
 have e1:=aC2 y g h;have e2:=aC3 a e f;have i:=aC3 b e f;have l:=(mn4 (a*c) (a*d) (b*c) (b*d)).1;have u:=(mx4 (a*c) (a*d) (b*c) (b*d)).1;unfold tR tQ;omega
theorem Mg(a b c d:Int):∃x y,(x=a\/x=b)/\(y=c\/y=d)/\tR a b c d=x*y:=by
 rcases(mn4 (a*c) (a*d) (b*c) (b*d)).2 with h|h|h|h
 ·exact⟨a,c,.inl rfl,.inl rfl,h⟩
 ·exact⟨a,d,.inl rfl,.inr rfl,h⟩
 ·exact⟨b,c,.inr rfl,.inl rfl,h⟩
 ·exact⟨b,d,.inr rfl,.inr rfl,h⟩
theorem Me(a b c d:Int):∃x y,(x=a\/x=b)/\(y=c\/y=d)/\tQ a b c d=x*y:=by
 rcases(mx4 (a*c) (a*d) (b*c) (b*d)).2 with h|h|h|h
 ·exact⟨a,c,.inl rfl,.inl rfl,h⟩
 ·exact⟨a,d,.inl rfl,.inr rfl,h⟩
 ·exact⟨b,c,.inr rfl,.inl rfl,h⟩
 ·exact⟨b,d,.inr rfl,.inr rfl,h⟩
theorem Hz{a b:Int}(h:aX a b=true):-2147483648<=a/\a<=b/\b<=2147483648:=by simpa[aX]using h
theorem kY{a b:Int}(c:-2147483648<=a)(d:a<=b)(e:b<=2147483648):aX a b=true:=decide_eq_true ⟨c,d,e⟩
theorem AT{a b c d:Int}(e:aX a b=true)(f:aX c d=true):dM a b c d=true:=by unfold dM;rw[e,f];rfl
theorem Wo{a b:Int}(h:(oN a b).2.2=0):aX a b=true/\oN a b=(a,b,0):=by
 unfold oN at h ⊢;split at h
 ·rename_i c;exact⟨c,by rw[if_pos c]⟩
 ·cases h
theorem Et{a b:Int}(h:aX a b=true):oN a b=(a,b,0):=by unfold oN;rw[if_pos h]
theorem XI{a b c d:Int}(h:(oN c d).2.2=0)(g:c<=a)(f:a<=b)(i:b<=d):lY (oN a b) (oN c d):=by
 obtain⟨j,e⟩:=Wo h;have:=Hz j;rw[e,Et (kY (by omega) f (by omega))];exact⟨rfl,rfl,g,f,i⟩
theorem RS{f:Int×Int×Int}{a b c d:Int}(h:(if dM a b c d=true then f else(0,0,1)).2.2=0):dM a b c d=true/\f.2.2=0:=by
 split at h
 ·rename_i e;exact⟨e,h⟩
 ·cases h
theorem QE{a b c d:Int}(e:a<=b)(f:c<=d):tR a b c d<=tQ a b c d:=by
 have:=pX (a:=a) (b:=b) (c:=c) (d:=d) (x:=a) (y:=c) (by omega) e (by omega) f;omega
theorem LT{a b c d a' b' c' d':Int}(h:(aZ a' b' c' d').2.2=0)(q:a'<=a)(g:a<=b)(r:b<=b')(s:c'<=c)(i:c<=d)(t:d<=d'):lY (aZ a b c d) (aZ a' b' c' d'):=by
 unfold aZ at h ⊢;obtain⟨j,l⟩:=RS h;have k:=pR j;have f:dM a b c d=true:=AT (kY (by omega) g (by omega)) (kY (by omega) i (by omega));rw[if_pos j,if_pos f];obtain⟨x,y,u,v,e⟩:=Mg a b c d;obtain⟨o,p,m,n,e2⟩:=Me a b c d;have w:=pX (a:=a') (b:=b') (c:=c') (d:=d') (x:=x) (y:=y) (by omega) (by omega) (by omega) (by omega);have z:=pX (a:=a') (b:=b') (c:=c') (d:=d') (x:=o) (y:=p) (by omega) (by omega) (by omega) (by omega);have A:=QE g i;refine XI l ?_ ?_ ?_<;>omega
theorem Tg{a b c d a' b' c' d':Int}(h:(aQ a' b' c' d').2.2=0)(k:a'<=a)(f:a<=b)(l:b<=b')(m:c'<=c)(g:c<=d)(n:d<=d'):lY (aQ a b c d) (aQ a' b' c' d'):=by
 unfold aQ at h ⊢;obtain⟨e,j⟩:=RS h;have i:=pR e;rw[if_pos e,if_pos (AT (kY (by omega) f (by omega)) (kY (by omega) g (by omega)))];refine XI j ?_ ?_ ?_<;>omega
theorem mul_one{a b c d:Int}(n:-1073741824<=a)(g:a<=b)(o:b<=1073741824)(t:-1073741824<=c)(i:c<=d)(u:d<=1073741824):
  (aZ a b c d).2.2=0/\-1073741824<=(aZ a b c d).1/\(aZ a b c d).1<=(aZ a b c d).2.1/\(aZ a b c d).2.1<=1073741824:=by
 have f:∀x y:Int,-1073741824<=x->x<=1073741824->-1073741824<=y->y<=1073741824->-1152921504606846976<=x*y/\x*y<=1152921504606846976:=fun x y p q r s=>by
  have h:(x*y).natAbs=x.natAbs*y.natAbs:=Int.natAbs_mul x y;have:x.natAbs*y.natAbs<=1073741824*1073741824:=Nat.mul_le_mul (by omega) (by omega);omega
 unfold aZ;rw[if_pos (AT (kY (by omega) g (by omega)) (kY (by omega) i (by omega)))];obtain⟨x,y,v,w,e⟩:=Mg a b c d;obtain⟨l,m,j,k,e2⟩:=Me a b c d;have z:=f x y (by omega) (by omega) (by omega) (by omega);have A:=f l m (by omega) (by omega) (by omega) (by omega);have B:=QE g i;rw[Et (kY (by omega) (by omega) (by omega))];refine⟨rfl,?_,?_,?_⟩<;>dsimp only<;>omega
theorem pT{x y y':Int}(e:0<y)(h:y<=y'):(0<=x->x/y'<=x/y)/\(x<=0->x/y<=x/y'):=by
 constructor
 ·intro b;have a:0<=x/y':=Int.ediv_nonneg b (by omega);have c:x/y'*y'<=x:=Int.ediv_mul_le x (by omega);have d:x/y'*y<=x/y'*y':=Int.mul_le_mul_of_nonneg_left h a;exact(Int.le_ediv_iff_mul_le e).2 (by omega)
 ·intro b;have a:x/y<=0:=Int.ediv_nonpos_of_nonpos_of_neg b (by omega);have c:x/y*y<=x:=Int.ediv_mul_le x (by omega);have d:x/y*y'<=x/y*y:=Int.mul_le_mul_of_nonpos_left a h;exact(Int.le_ediv_iff_mul_le (by omega)).2 (by omega)
theorem o6{x c y d:Int}(e:0<c)(a:c<=y)(b:y<=d):(x/c<=x/y/\x/y<=x/d)\/(x/d<=x/y/\x/y<=x/c):=by
 rcases Int.le_total 0 x with h|h
 ·exact .inr ⟨(pT (y:=y) (y':=d) (by omega) b).1 h,(pT (y:=c) (y':=y) e a).1 h⟩
 ·exact .inl ⟨(pT (y:=c) (y':=y) e a).2 h,(pT (y:=y) (y':=d) (by omega) b).2 h⟩
theorem Oh{u v:Int}(g:-1073741824<=u)(h:u<=v)(l:v<=1073741824):rW u<=-rW (-v):=by
 have a:=mW u g;have b:=mW (-v) (by omega);obtain⟨i,d,j,_⟩:=a;obtain⟨e,f,k,_⟩:=b;have c:=(IG (rW (-v)) e f).1;rcases Int.lt_or_le (-rW (-v)) (rW u)with q|q
 ·have:=aDX (m:=-rW (-v)) (n:=rW u) (by omega) q d;omega
 ·exact q
theorem U8{x y:Int}(h:(dG x y).2.2=0):aX x y=true/\max x (-1073741824)<=min y 1073741824/\dG x y=(rW (max x (-1073741824)),-rW (-min y 1073741824),0):=by
 unfold dG at h ⊢;cases a:aX x y with
 |false=>rw[a]at h;simp at h
 |true=>
  rw[a]at h;simp only[Bool.true_eq_false,if_false]at h ⊢;split at h
  ·rename_i q;exact⟨trivial,q,by rw[if_pos q]⟩
  ·cases h
theorem Og{a b c d:Int}(f:aX c d=true)(h:(dG a b).2.2=0)(j:c<=a)(k:b<=d):lY (dG a b) (dG c d):=by
 obtain⟨o,g,i⟩:=U8 h;have e:dG c d=(rW (max c (-1073741824)),-rW (-min d 1073741824),0):=by
  unfold dG;rw[f];simp only[Bool.true_eq_false,if_false];rw[if_pos (by omega)]
 rw[i,e];have l:=VF (u:=max c (-1073741824)) (v:=max a (-1073741824)) (by omega) (by omega);have m:=VF (u:=-min d 1073741824) (v:=-min b 1073741824) (by omega) (by omega);have n:=Oh (u:=max a (-1073741824)) (v:=min b 1073741824) (by omega) g (by omega);refine⟨rfl,rfl,?_,?_,?_⟩<;>dsimp only<;>omega
end
end
end Go.Proofs.YtlbklncoihhfcaaGreatDoor
