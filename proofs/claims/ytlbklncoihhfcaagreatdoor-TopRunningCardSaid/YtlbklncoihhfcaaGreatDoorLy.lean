/-
  The laid structures of five functions of the library: sorting, cloning, compacting, comparing.
-/
import Derived.Shelf.SlSortCmp.NoneTotal
import Derived.Shelf.SlicesG.Cmp
import Derived.Shelf.SortM.Plain
import Derived.Shelf.SlicesE.Compact
import Derived.Shelf.SlicesE.Clone
import Derived.Shelf.SlicesQ.Equal
import Derived.Test.YtlbklncoihhfcaaGreatDoorProg
set_option maxRecDepth 100000
set_option maxHeartbeats 4000000
open Go.Proofs.Tryz renaming prog→zB
namespace Go.Proofs.YtlbklncoihhfcaaGreatDoor
end Go.Proofs.YtlbklncoihhfcaaGreatDoor
namespace Go.Proofs
open Go.Shelf
def Tryz.cmpI_ren:Ren where
 f:=fun x=>match x with| 5=>250 | 7=>276 |n=>n
 t:=fun x=>match x with| 22=>3 | 3=>3 | 4=>4 |n=>n
 g:=fun n=>n
def Tryz.sortSp_ren:Ren where
 f:=fun x=>match x with| 6=>247 | 15=>275 | 14=>274 | 28=>300 | 29=>288 | 20=>292 | 21=>293 | 22=>294 | 23=>295 | 24=>296 | 25=>297 | 26=>298 | 27=>299 | 46=>308 | 47=>309 | 48=>310 | 49=>311 | 50=>312 | 57=>324 |n=>n
 t:=fun x=>match x with| 22=>222 | 24=>252 | 25=>257 | 3=>3 | 39=>155 | 0=>0 | 53=>25 | 55=>209 | 4=>4 | 46=>291 | 45=>290 | 50=>201 | 5=>5 | 9=>9 | 66=>302 | 70=>306 | 76=>314 | 77=>156 |n=>n
 g:=fun n=>n
def Tryz.cloneSp_ren:Ren where
 f:=fun x=>match x with| 41=>277 |n=>n
 t:=fun x=>match x with| 22=>222 | 23=>252 | 4=>4 |n=>n
 g:=fun n=>n
def Tryz.eqCell_ren:Ren where
 f:=fun x=>match x with| 8=>19 |n=>n
 t:=fun x=>match x with| 22=>60 | 24=>63 | 4=>4 | 3=>3 | 0=>0 |n=>n
 g:=fun n=>n
def Tryz.sortI_ren:Ren where
 f:=fun x=>match x with| 5=>278 | 8=>275 | 7=>301 | 19=>300 | 20=>288 | 10=>313 | 11=>314 | 12=>315 | 13=>316 | 14=>317 | 15=>318 | 16=>319 | 17=>320 | 18=>321 | 30=>325 | 31=>309 | 32=>310 | 33=>326 | 34=>327 | 35=>276 | 40=>328 |n=>n
 t:=fun x=>match x with| 23=>123 | 25=>3 | 3=>3 | 32=>155 | 22=>123 | 0=>0 | 44=>25 | 46=>209 | 4=>4 | 36=>291 | 35=>290 | 41=>201 | 5=>5 | 9=>9 | 53=>302 | 57=>306 | 63=>314 | 64=>156 |n=>n
 g:=fun n=>n
def Tryz.compI_ren:Ren where
 f:=fun x=>match x with| 43=>279 |n=>n
 t:=fun x=>match x with| 22=>123 | 23=>3 | 3=>3 | 4=>4 | 0=>0 |n=>n
 g:=fun n=>n
theorem Tryz.cmpI:SlLaysC2.n5 zB Tryz.cmpI_ren where
 mixed:=Eq.refl true
 f5:=⟨ "cmp.Compare[int]",of_decide_eq_true (Eq.refl true),Tryz.func250⟩
 f7:=⟨ "cmp.isNaN[int]",of_decide_eq_true (Eq.refl true),Tryz.func276⟩
 t3:=Tryz.underlying3
 a3:=Tryz.isAgg3
 z3:=Tryz.sizeOf3
 v3:=Tryz.zeroValue3
 t4:=Tryz.underlying4
 a4:=Tryz.isAgg4
 z4:=Tryz.sizeOf4
 v4:=Tryz.zeroValue4
 t22:=Tryz.underlying3
 a22:=Tryz.isAgg3
 z22:=Tryz.sizeOf3
 v22:=Tryz.zeroValue3
theorem Tryz.sortSp:SlLaysF0.n6 zB Tryz.sortSp_ren where
 mixed:=Eq.refl true
 f6:=⟨ "slices.SortFunc[[]almucantar/cells.span,almucantar/cells.span]",of_decide_eq_true (Eq.refl true),Tryz.func247⟩
 f14:=⟨ "slices.pdqsortCmpFunc[almucantar/cells.span]",of_decide_eq_true (Eq.refl true),Tryz.func274⟩
 f15:=Tryz.func275
 f20:=⟨ "slices.insertionSortCmpFunc[almucantar/cells.span]",of_decide_eq_true (Eq.refl true),Tryz.func292⟩
 f21:=⟨ "slices.heapSortCmpFunc[almucantar/cells.span]",of_decide_eq_true (Eq.refl true),Tryz.func293⟩
 f22:=⟨ "slices.breakPatternsCmpFunc[almucantar/cells.span]",of_decide_eq_true (Eq.refl true),Tryz.func294⟩
 f23:=⟨ "slices.choosePivotCmpFunc[almucantar/cells.span]",of_decide_eq_true (Eq.refl true),Tryz.func295⟩
 f24:=⟨ "slices.reverseRangeCmpFunc[almucantar/cells.span]",of_decide_eq_true (Eq.refl true),Tryz.func296⟩
 f25:=⟨ "slices.partialInsertionSortCmpFunc[almucantar/cells.span]",of_decide_eq_true (Eq.refl true),Tryz.func297⟩
 f26:=⟨ "slices.partitionEqualCmpFunc[almucantar/cells.span]",of_decide_eq_true (Eq.refl true),Tryz.func298⟩
 f27:=⟨ "slices.partitionCmpFunc[almucantar/cells.span]",of_decide_eq_true (Eq.refl true),Tryz.func299⟩
 f28:=Tryz.func300
 f29:=Tryz.func288
 f46:=⟨ "slices.siftDownCmpFunc[almucantar/cells.span]",of_decide_eq_true (Eq.refl true),Tryz.func308⟩
 f47:=Tryz.func309
 f48:=Tryz.func310
 f49:=⟨ "slices.medianAdjacentCmpFunc[almucantar/cells.span]",of_decide_eq_true (Eq.refl true),Tryz.func311⟩
 f50:=⟨ "slices.medianCmpFunc[almucantar/cells.span]",of_decide_eq_true (Eq.refl true),Tryz.func312⟩
 f57:=⟨ "slices.order2CmpFunc[almucantar/cells.span]",of_decide_eq_true (Eq.refl true),Tryz.func324⟩
 t0:=Tryz.underlying0
 a0:=Tryz.isAgg0
 z0:=Tryz.sizeOf0
 v0:=Tryz.zeroValue0
 t3:=Tryz.underlying3
 a3:=Tryz.isAgg3
 z3:=Tryz.sizeOf3
 v3:=Tryz.zeroValue3
 t4:=Tryz.underlying4
 a4:=Tryz.isAgg4
 z4:=Tryz.sizeOf4
 v4:=Tryz.zeroValue4
 t5:=Tryz.underlying5
 a5:=Tryz.isAgg5
 z5:=Tryz.sizeOf5
 v5:=Tryz.zeroValue5
 t9:=Tryz.underlying9
 a9:=Tryz.isAgg9
 z9:=Tryz.sizeOf9
 v9:=Tryz.zeroValue9
 t22:=Tryz.underlying222
 a22:=Tryz.isAgg222
 z22:=Tryz.sizeOf222
 v22:=Tryz.zeroValue222
 t25:=Tryz.underlying257
 a25:=Tryz.isAgg257
 z25:=Tryz.sizeOf257
 v25:=Tryz.zeroValue257
 t39:=Tryz.underlying155
 a39:=Tryz.isAgg155
 z39:=Tryz.sizeOf155
 v39:=Tryz.zeroValue155
 t45:=Tryz.underlying290
 a45:=Tryz.isAgg290
 z45:=Tryz.sizeOf290
 v45:=Tryz.zeroValue290
 t46:=Tryz.underlying291
 a46:=Tryz.isAgg291
 z46:=Tryz.sizeOf291
 v46:=Tryz.zeroValue291
 t50:=Tryz.underlying201
 a50:=Tryz.isAgg201
 z50:=Tryz.sizeOf201
 v50:=Tryz.zeroValue201
 t53:=Tryz.underlying25
 a53:=Tryz.isAgg25
 z53:=Tryz.sizeOf25
 v53:=Tryz.zeroValue25
 t55:=Tryz.underlying209
 a55:=Tryz.isAgg209
 z55:=Tryz.sizeOf209
 v55:=Tryz.zeroValue209
 t66:=Tryz.underlying302
 a66:=Tryz.isAgg302
 z66:=Tryz.sizeOf302
 v66:=Tryz.zeroValue302
 t70:=Tryz.underlying306
 a70:=Tryz.isAgg306
 z70:=Tryz.sizeOf306
 v70:=Tryz.zeroValue306
 t76:=Tryz.underlying314
 a76:=Tryz.isAgg314
 z76:=Tryz.sizeOf314
 v76:=Tryz.zeroValue314
 t77:=Tryz.underlying156
 a77:=Tryz.isAgg156
 z77:=Tryz.sizeOf156
 v77:=Tryz.zeroValue156
theorem Tryz.cloneSp:SlLaysE0.n41 zB Tryz.cloneSp_ren where
 mixed:=Eq.refl true
 f41:=⟨ "slices.Clone[[]almucantar/cells.span,almucantar/cells.span]",of_decide_eq_true (Eq.refl true),Tryz.func277⟩
 t4:=Tryz.underlying4
 a4:=Tryz.isAgg4
 z4:=Tryz.sizeOf4
 v4:=Tryz.zeroValue4
 t22:=Tryz.underlying222
 a22:=Tryz.isAgg222
 z22:=Tryz.sizeOf222
 v22:=Tryz.zeroValue222
theorem Tryz.eqCell:SlLaysQ.n8 zB Tryz.eqCell_ren where
 mixed:=Eq.refl true
 f8:=⟨ "slices.Equal[[]almucantar/api.Cell,almucantar/api.Cell]",of_decide_eq_true (Eq.refl true),Tryz.func19⟩
 t0:=Tryz.underlying0
 a0:=Tryz.isAgg0
 z0:=Tryz.sizeOf0
 v0:=Tryz.zeroValue0
 t3:=Tryz.underlying3
 a3:=Tryz.isAgg3
 z3:=Tryz.sizeOf3
 v3:=Tryz.zeroValue3
 t4:=Tryz.underlying4
 a4:=Tryz.isAgg4
 z4:=Tryz.sizeOf4
 v4:=Tryz.zeroValue4
 t22:=Tryz.underlying60
 a22:=Tryz.isAgg60
 z22:=Tryz.sizeOf60
 v22:=Tryz.zeroValue60
theorem Tryz.sortI:SlLaysM.n5 zB Tryz.sortI_ren where
 mixed:=Eq.refl true
 f5:=⟨ "slices.Sort[[]int,int]",of_decide_eq_true (Eq.refl true),Tryz.func278⟩
 f7:=⟨ "slices.pdqsortOrdered[int]",of_decide_eq_true (Eq.refl true),Tryz.func301⟩
 f8:=Tryz.func275
 f10:=⟨ "slices.insertionSortOrdered[int]",of_decide_eq_true (Eq.refl true),Tryz.func313⟩
 f11:=⟨ "slices.heapSortOrdered[int]",of_decide_eq_true (Eq.refl true),Tryz.func314⟩
 f12:=⟨ "slices.breakPatternsOrdered[int]",of_decide_eq_true (Eq.refl true),Tryz.func315⟩
 f13:=⟨ "slices.choosePivotOrdered[int]",of_decide_eq_true (Eq.refl true),Tryz.func316⟩
 f14:=⟨ "slices.reverseRangeOrdered[int]",of_decide_eq_true (Eq.refl true),Tryz.func317⟩
 f15:=⟨ "slices.partialInsertionSortOrdered[int]",of_decide_eq_true (Eq.refl true),Tryz.func318⟩
 f16:=⟨ "cmp.Less[int]",of_decide_eq_true (Eq.refl true),Tryz.func319⟩
 f17:=⟨ "slices.partitionEqualOrdered[int]",of_decide_eq_true (Eq.refl true),Tryz.func320⟩
 f18:=⟨ "slices.partitionOrdered[int]",of_decide_eq_true (Eq.refl true),Tryz.func321⟩
 f19:=Tryz.func300
 f20:=Tryz.func288
 f30:=⟨ "slices.siftDownOrdered[int]",of_decide_eq_true (Eq.refl true),Tryz.func325⟩
 f31:=Tryz.func309
 f32:=Tryz.func310
 f33:=⟨ "slices.medianAdjacentOrdered[int]",of_decide_eq_true (Eq.refl true),Tryz.func326⟩
 f34:=⟨ "slices.medianOrdered[int]",of_decide_eq_true (Eq.refl true),Tryz.func327⟩
 f35:=⟨ "cmp.isNaN[int]",of_decide_eq_true (Eq.refl true),Tryz.func276⟩
 f40:=⟨ "slices.order2Ordered[int]",of_decide_eq_true (Eq.refl true),Tryz.func328⟩
 t0:=Tryz.underlying0
 a0:=Tryz.isAgg0
 z0:=Tryz.sizeOf0
 v0:=Tryz.zeroValue0
 t3:=Tryz.underlying3
 a3:=Tryz.isAgg3
 z3:=Tryz.sizeOf3
 v3:=Tryz.zeroValue3
 t4:=Tryz.underlying4
 a4:=Tryz.isAgg4
 z4:=Tryz.sizeOf4
 v4:=Tryz.zeroValue4
 t5:=Tryz.underlying5
 a5:=Tryz.isAgg5
 z5:=Tryz.sizeOf5
 v5:=Tryz.zeroValue5
 t9:=Tryz.underlying9
 a9:=Tryz.isAgg9
 z9:=Tryz.sizeOf9
 v9:=Tryz.zeroValue9
 t22:=Tryz.underlying123
 a22:=Tryz.isAgg123
 z22:=Tryz.sizeOf123
 v22:=Tryz.zeroValue123
 t23:=Tryz.underlying123
 a23:=Tryz.isAgg123
 z23:=Tryz.sizeOf123
 v23:=Tryz.zeroValue123
 t25:=Tryz.underlying3
 a25:=Tryz.isAgg3
 z25:=Tryz.sizeOf3
 v25:=Tryz.zeroValue3
 t32:=Tryz.underlying155
 a32:=Tryz.isAgg155
 z32:=Tryz.sizeOf155
 v32:=Tryz.zeroValue155
 t35:=Tryz.underlying290
 a35:=Tryz.isAgg290
 z35:=Tryz.sizeOf290
 v35:=Tryz.zeroValue290
 t36:=Tryz.underlying291
 a36:=Tryz.isAgg291
 z36:=Tryz.sizeOf291
 v36:=Tryz.zeroValue291
 t41:=Tryz.underlying201
 a41:=Tryz.isAgg201
 z41:=Tryz.sizeOf201
 v41:=Tryz.zeroValue201
 t44:=Tryz.underlying25
 a44:=Tryz.isAgg25
 z44:=Tryz.sizeOf25
 v44:=Tryz.zeroValue25
 t46:=Tryz.underlying209
 a46:=Tryz.isAgg209
 z46:=Tryz.sizeOf209
 v46:=Tryz.zeroValue209
 t53:=Tryz.underlying302
 a53:=Tryz.isAgg302
 z53:=Tryz.sizeOf302
 v53:=Tryz.zeroValue302
 t57:=Tryz.underlying306
 a57:=Tryz.isAgg306
 z57:=Tryz.sizeOf306
 v57:=Tryz.zeroValue306
 t63:=Tryz.underlying314
 a63:=Tryz.isAgg314
 z63:=Tryz.sizeOf314
 v63:=Tryz.zeroValue314
 t64:=Tryz.underlying156
 a64:=Tryz.isAgg156
 z64:=Tryz.sizeOf156
 v64:=Tryz.zeroValue156
theorem Tryz.compI:SlLaysE.n43 zB Tryz.compI_ren where
 mixed:=Eq.refl true
 f43:=⟨ "slices.Compact[[]int,int]",of_decide_eq_true (Eq.refl true),Tryz.func279⟩
 t0:=Tryz.underlying0
 a0:=Tryz.isAgg0
 z0:=Tryz.sizeOf0
 v0:=Tryz.zeroValue0
 t3:=Tryz.underlying3
 a3:=Tryz.isAgg3
 z3:=Tryz.sizeOf3
 v3:=Tryz.zeroValue3
 t4:=Tryz.underlying4
 a4:=Tryz.isAgg4
 z4:=Tryz.sizeOf4
 v4:=Tryz.zeroValue4
 t22:=Tryz.underlying123
 a22:=Tryz.isAgg123
 z22:=Tryz.sizeOf123
 v22:=Tryz.zeroValue123
 a23:=Tryz.isAgg3
 z23:=Tryz.sizeOf3
end Go.Proofs
