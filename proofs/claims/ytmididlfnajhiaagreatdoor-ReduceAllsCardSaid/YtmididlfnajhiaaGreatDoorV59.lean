/-
  ReduceAlls: the walk of the law.
-/
import Derived.Test.YtmididlfnajhiaaGreatDoorU20
set_option maxRecDepth 100000
set_option maxHeartbeats 4000000
open Go.RowKit.Below renaming refl→acQ
open Go.Lib renaming hid→aaQ
open _root_.Nat renaming le_refl→aaX,le_trans→alQ
namespace Go.Proofs.YtmididlfnajhiaaGreatDoor
open Go.RowKit
open Ev (gF aH)
theorem LD {w0 W w1:World} {b c:Nat} {v0 v1 v2 v3 v4 v5 v6 v7 v8 v9:Value} (h:(W.cell? ⟨b,0,none⟩=some v0∧W.cell? ⟨b,1,none⟩=some v1∧W.cell? ⟨b,2,none⟩=some v2∧W.cell? ⟨b,3,none⟩=some v3∧W.cell? ⟨b,4,none⟩=some v4∧W.cell? ⟨b,5,none⟩=some v5∧W.cell? ⟨c,0,none⟩=some v6∧W.cell? ⟨c,1,none⟩=some v7∧W.cell? ⟨c,2,none⟩=some v8∧W.cell? ⟨c,3,none⟩=some v9)∧Below w0.heap.size w0 W) (hb:Below W.heap.size W w1):
  (w1.cell? ⟨b,0,none⟩=some v0∧w1.cell? ⟨b,1,none⟩=some v1∧w1.cell? ⟨b,2,none⟩=some v2∧w1.cell? ⟨b,3,none⟩=some v3∧w1.cell? ⟨b,4,none⟩=some v4∧w1.cell? ⟨b,5,none⟩=some v5∧w1.cell? ⟨c,0,none⟩=some v6∧w1.cell? ⟨c,1,none⟩=some v7∧w1.cell? ⟨c,2,none⟩=some v8∧w1.cell? ⟨c,3,none⟩=some v9)∧Below w0.heap.size w0 w1:=by
 obtain ⟨⟨h0,h1,h2,h3,h4,h5,h6,h7,h8,h9⟩,hB⟩:=h;have hlt:=World.block_lt_of_cell? W _ h0;have hlc:=World.block_lt_of_cell? W _ h6;exact ⟨⟨(hb.cell (p:=⟨b,0,none⟩) hlt).trans h0,(hb.cell (p:=⟨b,1,none⟩) hlt).trans h1,(hb.cell (p:=⟨b,2,none⟩) hlt).trans h2,(hb.cell (p:=⟨b,3,none⟩) hlt).trans h3,(hb.cell (p:=⟨b,4,none⟩) hlt).trans h4,(hb.cell (p:=⟨b,5,none⟩) hlt).trans h5,(hb.cell (p:=⟨c,0,none⟩) hlc).trans h6,(hb.cell (p:=⟨c,1,none⟩) hlc).trans h7,(hb.cell (p:=⟨c,2,none⟩) hlc).trans h8,(hb.cell (p:=⟨c,3,none⟩) hlc).trans h9⟩,hB.trans (hb.mono hB.size)⟩
theorem rtri_b (a b c d e f:Int):aH Tryz.prog 15 [kW a b c d e f] (.bool (cS a b c d e f)):=by
 have:=wT a b c d e f;rwa [TZ] at this
theorem alls_no {a b c d e f:Int} (hv:cS a b c d e f=false) (w:World) (hg:gF w):Calls Tryz.prog 4 #[kW a b c d e f] w (GP (.bool true) w):=by
 have HG:=aaQ hg;have HB0:=aaQ ((acQ w.heap.size w).alloc (aaX _) (.cells ⟨[.int .i64 a,.int .i64 b,.int .i64 c,.int .i64 d,.int .i64 e,.int .i64 f]⟩ 25));have HK0:=aaQ (show Tk (w.alloc (.cells ⟨[.int .i64 a,.int .i64 b,.int .i64 c,.int .i64 d,.int .i64 e,.int .i64 f]⟩ 25)) w.heap.size a b c d e f from heap_alloc_new w _);have HAW:=aaQ (at0 nD (HG.out.below HB0.out));have HAL:=aaQ (fun w hg=>VC hv w hg);have HBE:=aaQ (sG a b c d e f);have HRT:=aaQ (rtri_b a b c d e f);have hbz:oC a b c d e f=(0,0,0,0,1):=by unfold oC;rw [if_neg (by rw [hv];simp)]
 rw [hbz] at HBE;rw [hv] at HRT;have HF:=aaQ (show ∀w',Below w.heap.size w w'→GP (.bool true) w (.returned (.bool true)) w' from fun w' hb=>⟨rfl,hb⟩);have heq:=fun w=>eqSol (0,0,0,0) (0,0,0,0) w;have hes:eqS (0,0,0,0) (0,0,0,0)=true:=rfl;rw [hes] at heq;dsimp only at heq;clear hv hg hbz hes;unfold kW at HAL HBE HRT ⊢;unfold dV at HBE;go_enter Tryz.func4,Tryz.ntmps4;go_wp2_with fail
 refine HAW.out.mono ?_;rintro e w1 ⟨rfl,hb1⟩;have HB1:=aaQ (HB0.out.trans (hb1.mono (by simp)));have HK1:=aaQ (HK0.out.below hb1 (by simp));have HA1:=aaQ (HAL.out w1 (HG.out.below HB1.out));obtain ⟨p0,p1,p2,p3,p4,p5⟩:=HK1.out.keep;clear hb1 HAW;go_wp2_with fail
 refine HA1.out.mono ?_;rintro e w2 ⟨rfl,hb2⟩;have HB2:=aaQ (HB1.out.trans (hb2.mono HB1.out.size));have HK2:=aaQ (HK1.out.below hb2 HK1.out.lt);have HE2:=aaQ (at1' HBE.out (HG.out.below HB2.out));clear hb2 p0 p1 p2 p3 p4 p5 HA1;obtain ⟨p0,p1,p2,p3,p4,p5⟩:=HK2.out.keep;go_wp2_with fail
 refine HE2.out.mono ?_;rintro e w3 ⟨rfl,hb3⟩;have hs3:=hb3.size;have HB3:=aaQ ((HB2.out.trans (hb3.mono HB2.out.size)).alloc (alQ HB2.out.size hs3) (.cells #[.int .i64 0,.int .i64 0,.int .i64 0,.int .i64 0] 28));have HK3:=aaQ (HK2.out.below (hb3.alloc hs3 (.cells #[.int .i64 0,.int .i64 0,.int .i64 0,.int .i64 0] 28)) HK2.out.lt);have HN3:=aaQ (Bk.new w3 (0,0,0,0));have HT3:=aaQ (at1' HRT.out (HG.out.below HB3.out));clear hb3 p0 p1 p2 p3 p4 p5 HE2;obtain ⟨p0,p1,p2,p3,p4,p5⟩:=HK3.out.keep;go_wp2_with fail
 refine HT3.out.mono ?_;rintro e w4 ⟨rfl,hb4⟩;have HB4:=aaQ (HB3.out.trans (hb4.mono HB3.out.size));obtain ⟨⟨r0,r1,r2,r3⟩,_,_,_,_⟩:=(HN3.out.next hb4).keep;have hlt:=(HN3.out.next hb4).lt;dsimp only at r0 r1 r2 r3;clear hb4 p0 p1 p2 p3 p4 p5 HT3;go_wp2;go_ret;exact HF.out _ HB4.out
theorem alls_yes {a b c d e f:Int} (hv:cS a b c d e f=true) (w:World) (hg:gF w):Calls Tryz.prog 4 #[kW a b c d e f] w (GP (.bool true) w):=by
  have HG:=aaQ hg
  have HB0:=aaQ ((acQ w.heap.size w).alloc (aaX _) (.cells ⟨[.int .i64 a,.int .i64 b,.int .i64 c,.int .i64 d,.int .i64 e,.int .i64 f]⟩ 25))
  have HK0:=aaQ (show Tk (w.alloc (.cells ⟨[.int .i64 a,.int .i64 b,.int .i64 c,.int .i64 d,.int .i64 e,.int .i64 f]⟩ 25)) w.heap.size a b c d e f from heap_alloc_new w _)
  have HAW:=aaQ (at0 nD (HG.out.below HB0.out))
  obtain ⟨⟨x1,x2,x3,x4⟩,eb,er,h0,_,_,_⟩:=CZ hv
  have h5:=vC a b c d e f
  have HAL:=aaQ (fun w hg=>OJ hv w hg)
  have HRA:=aaQ (fun w hg=>ralls (a:=a) (b:=b) (c:=c) (d:=d) (e:=e) (f:=f) w hg)
  have HRB:=aaQ (fun w hg=>PX ⟨h0,by omega⟩ (fun w hg=>ralls (a:=a) (b:=b) (c:=c) (d:=d) (e:=e) (f:=f) w hg) w hg)
  have HBE:=aaQ (sG a b c d e f)
  have HRT:=aaQ (rtri_b a b c d e f)
  rw [er] at HRB
  rw [eb] at HBE
  rw [hv] at HRT
  have HF:=aaQ (show ∀w',Below w.heap.size w w'→GP (.bool true) w (.returned (.bool true)) w' from fun w' hb=>⟨rfl,hb⟩)
  have heq:=fun w=>eqSol (x1,x2,x3,x4) (x1,x2,x3,x4) w
  rw [(eqS_iff _ _).2 rfl] at heq
  dsimp only at heq
  generalize hL:uZ a b c d e f=l at*
  have hn:l.length≤9223372036854775807:=by omega
  clear hv hg eb er hL h0 h5
  unfold kW at HAL HBE HRT HRA HRB ⊢
  unfold dV at HBE
  unfold solC at HRB
  dsimp only at HRB HBE
  go_enter Tryz.func4,Tryz.ntmps4
  go_wp2_with fail
  refine HAW.out.mono ?_
  rintro e w1 ⟨rfl,hb1⟩
  have HB1:=aaQ (HB0.out.trans (hb1.mono (by simp)))
  have HK1:=aaQ (HK0.out.below hb1 (by simp))
  have HA1:=aaQ (HAL.out w1 (HG.out.below HB1.out))
  obtain ⟨p0,p1,p2,p3,p4,p5⟩:=HK1.out.keep
  clear hb1 HAW
  go_wp2_with fail
  refine HA1.out.mono ?_
  rintro e w2 ⟨A,cp,rfl,hown,hb2⟩
  have HS2:=aaQ (IX hown hn)
  have HB2:=aaQ (HB1.out.trans (hb2.mono HB1.out.size))
  have HK2:=aaQ (HK1.out.below hb2 HK1.out.lt)
  have HE2:=aaQ (at1' HBE.out (HG.out.below HB2.out))
  clear hb2 p0 p1 p2 p3 p4 p5 HA1 hown
  obtain ⟨p0,p1,p2,p3,p4,p5⟩:=HK2.out.keep
  go_wp2_with fail
  refine HE2.out.mono ?_
  rintro e w3 ⟨rfl,hb3⟩
  have hs3:=hb3.size
  have HB3:=aaQ ((HB2.out.trans (hb3.mono HB2.out.size)).alloc (alQ HB2.out.size hs3) (.cells #[.int .i64 x1,.int .i64 x2,.int .i64 x3,.int .i64 x4] 28))
  have HK3:=aaQ (HK2.out.below (hb3.alloc hs3 (.cells #[.int .i64 x1,.int .i64 x2,.int .i64 x3,.int .i64 x4] 28)) HK2.out.lt)
  have HS3:=aaQ (HS2.out.below (hb3.alloc hs3 (.cells #[.int .i64 x1,.int .i64 x2,.int .i64 x3,.int .i64 x4] 28)) (aaX _))
  have HN3:=aaQ (Bk.new w3 (x1,x2,x3,x4))
  have HT3:=aaQ (at1' HRT.out (HG.out.below HB3.out))
  dsimp only at HN3
  clear hb3 p0 p1 p2 p3 p4 p5 HE2 HS2
  obtain ⟨p0,p1,p2,p3,p4,p5⟩:=HK3.out.keep
  go_wp2_with fail
  refine HT3.out.mono ?_
  rintro e W ⟨rfl,hb4⟩
  have HB4:=aaQ (HB3.out.trans (hb4.mono HB3.out.size))
  have HN4:=aaQ ((show Bk (w3.alloc (.cells #[.int .i64 x1,.int .i64 x2,.int .i64 x3,.int .i64 x4] 28)) w3.heap.size (x1,x2,x3,x4) from HN3.out).next hb4)
  have HK4:=aaQ (HK3.out.below hb4 HK3.out.lt)
  have HS4:=aaQ (HS3.out.below hb4 (aaX _))
  clear hb4 p0 p1 p2 p3 p4 p5 HT3 HS3 HN3 HK3
  obtain ⟨p0,p1,p2,p3,p4,p5⟩:=HK4.out.keep
  obtain ⟨⟨r0,r1,r2,r3⟩,_,_,_,_⟩:=HN4.out.keep
  dsimp only at r0 r1 r2 r3
  have hW:=HB4.out.size
  have HFW:=aaQ (show ∀W',Below W.heap.size W W'→GP (.bool true) w (.returned (.bool true)) W' from fun W' hb=>HF.out W' (HB4.out.trans (hb.mono hW)))
  have HQ1:=aaQ (fun W' (hb:Below W.heap.size W W')=>HRA.out W' (HG.out.below (HB4.out.trans (hb.mono hW))))
  have HQ2:=aaQ (fun W' (hb:Below W.heap.size W W')=>HRB.out W' (HG.out.below (HB4.out.trans (hb.mono hW))))
  have HQ3:=aaQ (fun A' c' W' (hb:Below W.heap.size W W') (hs:Sols W' A' l.length l)=>equalS_any A A' l.length cp c' l W' (HS4.out.below hb (aaX _)) hs)
  have HS0:=aaQ (show (W.cell? ⟨w.heap.size,0,none⟩=some (.int .i64 a)∧W.cell? ⟨w.heap.size,1,none⟩=some (.int .i64 b)∧W.cell? ⟨w.heap.size,2,none⟩=some (.int .i64 c)∧W.cell? ⟨w.heap.size,3,none⟩=some (.int .i64 d)∧W.cell? ⟨w.heap.size,4,none⟩=some (.int .i64 e)∧W.cell? ⟨w.heap.size,5,none⟩=some (.int .i64 f)∧W.cell? ⟨w3.heap.size,0,none⟩=some (.int .i64 x1)∧W.cell? ⟨w3.heap.size,1,none⟩=some (.int .i64 x2)∧W.cell? ⟨w3.heap.size,2,none⟩=some (.int .i64 x3)∧W.cell? ⟨w3.heap.size,3,none⟩=some (.int .i64 x4))∧Below W.heap.size W W from ⟨⟨p0,p1,p2,p3,p4,p5,r0,r1,r2,r3⟩,acQ _ _⟩)
  go_wp2_with fail
  clear p0 p1 p2 p3 p4 p5 r0 r1 r2 r3 HRA HRB HBE HRT HN4 HK4 HS4 HF HB4 HB3 HB2 HB1 HB0 HK0 HK1 HK2 hW
  go_region_held3 (fun w'=>(w'.cell? ⟨w.heap.size,0,none⟩=some (.int .i64 a)∧w'.cell? ⟨w.heap.size,1,none⟩=some (.int .i64 b)∧w'.cell? ⟨w.heap.size,2,none⟩=some (.int .i64 c)∧w'.cell? ⟨w.heap.size,3,none⟩=some (.int .i64 d)∧w'.cell? ⟨w.heap.size,4,none⟩=some (.int .i64 e)∧w'.cell? ⟨w.heap.size,5,none⟩=some (.int .i64 f)∧w'.cell? ⟨w3.heap.size,0,none⟩=some (.int .i64 x1)∧w'.cell? ⟨w3.heap.size,1,none⟩=some (.int .i64 x2)∧w'.cell? ⟨w3.heap.size,2,none⟩=some (.int .i64 x3)∧w'.cell? ⟨w3.heap.size,3,none⟩=some (.int .i64 x4))∧Below W.heap.size W w')
    (first
      | (with_reducible exact HS0.out)
      | (with_reducible exact SS.out)
      | (with_reducible exact LD HS0.out (Below.drew (acQ _ _)))
      | (with_reducible exact LD SS.out (Below.drew (acQ _ _)))
      | fail)
    (first
      | (go_at_call 17
         with_reducible refine (HQ1.out _ (And.right (by assumption))).mono ?_
         rintro e w5 ⟨A',c',rfl,hown5,hb5⟩
         have SS:=aaQ (LD (w1:=w5) (by assumption) hb5)
         have HL5:=aaQ (IX hown5 hn)
         clear hown5)
      | (go_at_call 16
         with_reducible refine (HQ3.out _ _ _ (And.right (by assumption)) (Sols.below HL5.out (acQ _ _) (aaX _))).mono ?_
         rintro e w6 ⟨rfl,hb6⟩
         have SS:=aaQ (LD (w1:=w6) (by assumption) hb6))
      | (go_at_call 18
         with_reducible refine (HQ2.out _ (And.right (by assumption))).mono ?_
         rintro e w7 ⟨rfl,hb7⟩
         have SS:=aaQ (LD (w1:=w7) (by assumption) hb7))
      | fail)
  all_goals (
    go_wp2
    go_ret
    first
      | exact HFW.out _ SS.out.2
      | exact HFW.out _ (Below.drew SS.out.2))
theorem alls_any (a b c d e f:Int):aH Tryz.prog 4 [.agg ⟨[.int .i64 a,.int .i64 b,.int .i64 c,.int .i64 d,.int .i64 e,.int .i64 f]⟩] (.bool true):=fun w hg=>by
 cases h:cS a b c d e f with
 | true=>exact alls_yes h w hg
 | false=>exact alls_no h w hg
end Go.Proofs.YtmididlfnajhiaaGreatDoor
