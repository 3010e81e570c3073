/-
  cells.combine: the walk, as a whole. cells.Union: the walk. cells.Parent, cells.Children: the walks. region.merge: the walk. region.tidied: the walk. region.cover: what its walk.
-/
import Derived.Test.YtlbklncoihhfcaaGreatDoorU10
import Derived.Handy
set_option maxRecDepth 100000
set_option maxHeartbeats 4000000
open Go.RowKit.Below renaming refl→zD
open Go.Lib renaming hid→zA
open _root_.List renaming drop_eq_getElem_cons→zZ,length_append→zU,length_cons→zM,length_nil→xA,length_reverse→zS,mem_append→qR,mem_cons→zI,mem_cons_self→zH,range→qL,reverse_cons→qY,take_length→qX
open _root_.Nat renaming le_refl→zC,le_trans→zJ,lt_of_lt_of_le→zT,pow_succ→yT,zero_le→zO
open _root_.Option renaming some→zL
open Go.Proofs.Tryz renaming prog→zB
open Go.World renaming new_ne→aiQ,setCell→qK,size_alloc→qF
open Go.IntKind (i64 u64)
open Go.Value renaming int→jI
open Go.IntKind renaming i64→jJ
open Go.Obj renaming cells→jC
open Go.Value renaming agg→jA
namespace Go.Proofs.YtlbklncoihhfcaaGreatDoor
section
open Go.RowKit Rg
attribute [local go_sem] Oper.semAt_some
theorem Uj{w0 W w1:World}{a b:Addr}{v u:Value}(h:(W.cell? a=some v/\W.cell? b=some u)/\Below w0.heap.size w0 W)(c:Below W.heap.size W w1):(w1.cell? a=some v/\w1.cell? b=some u)/\Below w0.heap.size w0 w1:=
 ⟨⟨(c.cell (World.block_lt_of_cell? W _ h.1.1)).trans h.1.1,(c.cell (World.block_lt_of_cell? W _ h.1.2)).trans h.1.2⟩,h.2.trans (c.mono h.2.size)⟩
theorem Uk{w0 W w1:World}{a b:Addr}{v u:Value}{row:Option Nat}{B:Nat}(h:(W.cell? a=some v/\W.cell? b=some u)/\Below w0.heap.size w0 W)(c:W.grownBy w1 row)(d:∀k,row=some k->B<=k)(i:a.block<B)(j:b.block<B)(f:w0.heap.size<=B):(w1.cell? a=some v/\w1.cell? b=some u)/\Below w0.heap.size w0 w1:=
 ⟨⟨(c.cell_far _ (World.block_lt_of_cell? W _ h.1.1) (fun e=>by have:=d _ e.symm;omega)).trans h.1.1,(c.cell_far _ (World.block_lt_of_cell? W _ h.1.2) (fun e=>by have:=d _ e.symm;omega)).trans h.1.2⟩,h.2.grown c h.2.size (fun k g=>zJ f (d k g))⟩
theorem WG {A B:List (Nat×Nat)}{va vb:Value}(w:World)(ha:FX w 0 va A)(hb:FX w 0 vb B)(la:∀k,va.ownBlock=some k->k<w.heap.size)(lb:∀k,vb.ownBlock=some k->k<w.heap.size)
    (hA:∀s∈A,s.1<=8589934592/\s.2<=8589934592)(hB:∀s∈B,s.1<=8589934592/\s.2<=8589934592)(nA:A.length<=4000)(n0:0<B.length)(nB:B.length<=4000):
    Calls zB 253 #[va,vb,.func (.func 203) #[] #[]] w fun e w'=>∃v,e=.returned v/\FX w' w.heap.size v (dX (EG A B) (eds (A++B)) []).reverse/\Below w.heap.size w w':=by
  obtain⟨Aa,ca,rfl⟩:=ha.slice
  obtain⟨Ab,cb,rfl⟩:=hb.slice
  obtain⟨n,hn⟩:∃n,n=A.length:=⟨_,rfl⟩
  obtain⟨m,hm⟩:∃m,m=B.length:=⟨_,rfl⟩
  rw[<-hn]at ha la
  rw[<-hm]at hb lb
  rw[<-hn,<-hm]
  have HA:=zA ha
  have HB:=zA hb
  have LA:=zA la
  have LB:=zA lb
  have SA:=zA hA
  have SB:=zA hB
  have j1:=zA nA
  have j2:=zA nB
  have p9:n<=4000:=by omega
  have p6:m<=4000:=by omega
  have p5:0<m:=by omega
  have HN:=zA hn
  have HM:=zA hm
  clear ha hb la lb hA hB nA n0 nB hn hm
  go_enter Tryz.func253,Tryz.ntmps253
  go_upto_region 2 with fail
  obtain⟨W,hW⟩:∃W,W=(w.alloc (jC #[.slice Aa n ca] 222)).alloc (jC #[.slice Ab m cb] 222):=⟨_,rfl⟩
  rw[<-hW]
  have s7:W.heap.size=w.heap.size+2:=by rw[hW];simp
  have d5:=zA (show Below w.heap.size w W from by rw[hW];exact((zD _ _).alloc (zC _) _).alloc (by simp) _)
  have g1:=zA (show IV W w.heap.size (.slice Aa n ca)from by rw[hW];exact(show IV (w.alloc (jC #[.slice Aa n ca] 222)) w.heap.size (.slice Aa n ca)from heap_alloc_new w _).next (Below.new _))
  have g2:=zA (show IV W (w.heap.size+1) (.slice Ab m cb)from by
    rw[hW]
    have:=heap_alloc_new (w.alloc (jC #[.slice Aa n ca] 222)) (jC #[.slice Ab m cb] 222)
    simp only[qF]at this
    exact this)
  have f5:=zA (HA.out.next d5.out)
  have f6:=zA (HB.out.next d5.out)
  clear hW HA HB
  have HX:=zA (show(W.cell? ⟨w.heap.size,0,none⟩=some (.slice Aa n ca)/\W.cell? ⟨w.heap.size+1,0,none⟩=some (.slice Ab m cb))/\Below W.heap.size W W from⟨⟨g1.out.keep.1,g2.out.keep.1⟩,zD _ _⟩)
  have a2:=zA (show(W.drew.cell? ⟨w.heap.size,0,none⟩=some (.slice Aa n ca)/\W.drew.cell? ⟨w.heap.size+1,0,none⟩=some (.slice Ab m cb))/\Below W.heap.size W W.drew from⟨HX.out.1,HX.out.2.drew⟩)
  have G:=zA (show ∀W',Below W.heap.size W W'->Calls zB 277 #[.slice Aa n ca] W' (fun e w'=>∃v',e=.returned v'/\FX w' W.heap.size v' A/\Below W'.heap.size W' w')from fun W' h=>by
    refine(Df (f5.out.next h) (by have:=HN.out;omega)).mono ?_
    rintro e w' ⟨v',h1,h2,h3⟩
    exact⟨v',h1,h2.mono h.size,h3⟩)
  have n6:A.length+B.length<=1000000000:=by have:=HN.out;have:=HM.out;omega
  have l1:=zA n6
  have n5:0<B.length:=by have:=HM.out;omega
  have k9:=zA n5
  clear n6 n5
  go_region_held3 (fun w'=>(w'.cell? ⟨w.heap.size,0,none⟩=some (.slice Aa n ca)/\w'.cell? ⟨w.heap.size+1,0,none⟩=some (.slice Ab m cb))/\Below W.heap.size W w')
    (first
      |(with_reducible exact HX.out)
      |(with_reducible exact a2.out)
      |(with_reducible exact HS.out)
      |(with_reducible exact a7.out)
      |fail)
    (first
      |(go_at_call 277;refine(G.out _ (And.right (by assumption))).mono ?_;rintro e w1 ⟨v1,rfl,h1,m9⟩;have HS:=zA (Uj (by assumption) m9);have H1:=zA h1;clear h1 m9)
      |(refine Hj (E:=SJ) (by rfl) _ _ _ (by rfl) 252 (jA #[jI jJ 0,jI jJ 0]) 16 Tryz.underlying222 uC (by rfl) (by decide) (by omega) W.heap.size v1 A (by rfl) H1.out 0 (.slice Ab m cb) B (by rfl) (f6.out.next HS.out.2) k9.out l1.out HS.out.2.size ?_;intro g r6 w2 ho hg b9 V;have a7:=zA (Uk HS.out hg (fun k hk=>(H1.out.lt k hk).1) (by show w.heap.size<W.heap.size;omega) (by show w.heap.size+1<W.heap.size;omega) (zC _));have HO:=zA ho;clear ho hg b9 V)
      |fail)
  rw[<-HN.out,<-HM.out]
  have b8:=HO.out
  rw[<-HN.out,<-HM.out]at b8
  obtain⟨N,hN⟩:∃N,N=n+m:=⟨_,rfl⟩
  have m6:(n:Int)+(m:Int)=(N:Int):=by omega
  rw[m6]
  rw[<-hN]at b8 ⊢
  have r8:N<=8000:=by omega
  have m5:0<N:=by omega
  obtain⟨C,hC⟩:∃C,C=A++B:=⟨_,rfl⟩
  have m3:C.length=N:=by rw[hC,zU,<-HN.out,<-HM.out,hN]
  rw[<-hC]at b8
  have k2:=zA hC
  have a6:=zA m3
  have l3:=zA b8
  have r5:=zA hN
  have f7:=zA a7.out.2
  clear b8 hC m3 hN m6 HO HX a2 G l1 k9 HS a7 H1 p9 p6 p5
  go_wp2_with fail
  go_loopw [21,7] (fun j0 v7 wr=>∃i:Nat,i<=N/\j0=jI jJ (i:Int)/\RI wr w2.heap.size v7 (Ei (C.take i))/\Below w2.heap.size w2 wr) (fun j0 _ _=>N-(intOf j0).toNat)
  case atStart=>exact⟨0,by omega,rfl,by rw[List.take_zero];exact bT.nil,zD _ _⟩
  case round=>
    obtain⟨i,hi,rfl,o,U⟩:=hrel
    by_cases V:i<N
    · obtain⟨s,hs⟩:∃s,C[i]? =some s:=⟨_,List.getElem?_eq_getElem (by rw[a6.out];exact V)⟩
      obtain⟨g',q4,hv,_,hg,c0,c1⟩:=(l3.out.next U).spa hs
      injection hv with hA hl hc
      injection hA with hA
      injection hA with hA
      subst hA
      clear hl hc
      have k4:=zA (show Ei (C.take (i+1))=Ei (C.take i)++[s.1,s.2] by
        have hl:i<C.length:=by rw[a6.out];exact V
        rw[List.take_add_one,hs]
        simp[Ei])
      have a1:=zA (show(Ei (C.take i)).length=i*2 by rw[GW,List.length_take,a6.out];omega)
      obtain⟨P,hP⟩:∃P:Int,P=(s.1:Int):=⟨_,rfl⟩
      obtain⟨Q,hQ⟩:∃Q:Int,Q=(s.2:Int):=⟨_,rfl⟩
      rw[<-hP]at c0
      rw[<-hQ]at c1
      have o0:=zA (show bN Ps [s.1,s.2]=[jI jJ P,jI jJ Q] by rw[hP,hQ];rfl)
      have b4:=zA o
      have a0:=zA U
      clear hP hQ o U hs
      obtain⟨X,hX⟩:∃X:Obj,X=jC #[jI jJ P,jI jJ Q] 252:=⟨_,rfl⟩
      obtain⟨Y,hY⟩:∃Y:Obj,Y=jC #[jI jJ P,jI jJ Q] 3:=⟨_,rfl⟩
      have e7:=heap_alloc_new (wr.alloc X) Y
      simp only[qF]at e7
      have i0:Below wr.heap.size wr ((wr.alloc X).alloc Y):=(Below.new X).alloc (by simp) Y
      have g6:=b4.out.next i0
      have e5:=a0.out.trans (i0.mono a0.out.size)
      have i4:w2.heap.size<=((wr.alloc X).alloc Y).heap.size:=e5.size
      rw[hX,hY]at e7 g6 e5 i4
      have I:=zA g6
      have j4:=zA e5
      have l9:=zA i4
      have p2:=zA e7
      obtain⟨A7,c7,rfl⟩:=I.out.slice
      obtain⟨L,hL⟩:∃L,L=Ei (C.take i):=⟨_,rfl⟩
      rw[<-hL]at I k4 a1 ⊢
      obtain⟨K,hK⟩:∃K,K=L.length:=⟨_,rfl⟩
      rw[<-hK]at I a1 ⊢
      have o4:=zA (show L.length+[s.1,s.2].length<=1000000000 by rw[<-hK,a1.out];show i*2+2<=1000000000;omega)
      clear hL hK
      clear e7 g6 e5 i4 hX hY i0 b4 a0
      go_wp2_with (at_builtin;refine O1 (E:=Ps) rfl (.tmp 25) (.tmp 30) _ rfl 3 (jI jJ 0) 8 Tryz.underlying123 Xm rfl (by decide) (by omega) w2.heap.size (.slice A7 K c7) L rfl I.out (wr.heap.size+1) [s.1,s.2] 2 rfl ⟨_,_,by rw[o0.out];exact p2.out⟩ (by simp) o4.out l9.out ?_)
      intro g3 b7 w3 ho c5 b9 c8
      have H:=zA (show RI w3 w2.heap.size (.slice (some ⟨g3,0,none⟩) (L.length+[s.1,s.2].length) b7) (Ei (C.take (i+1)))/\Below w2.heap.size w2 w3 from⟨by rw[k4.out];exact ho,j4.out.grown c5 l9.out (fun k hk=>(I.out.lt k hk).1)⟩)
      clear ho c5 b9 c8 c0 c1
      go_wp2_with fail
      refine⟨⟨i+1,V,by go_num,H.out.1,H.out.2⟩,?_⟩
      simp only[intOf]
      omega
    · have hiN:i=N:=by omega
      subst hiN
      rw[List.take_of_length_le (by rw[a6.out];omega)]at o
      rcases o.form with⟨_,h0⟩|⟨b,a,rfl,_,s0⟩
      · have:=GW C
        rw[h0,a6.out]at this
        simp at this
        omega
      have a4:=GW C
      rw[a6.out]at a4
      have i3:=Rf o (by omega)
      obtain⟨M,hM⟩:∃M,M=(Ei C).length:=⟨_,rfl⟩
      rw[<-hM]at i3 o a4 ⊢
      have l6:=zA i3
      have k8:=zA hM
      have a1:=zA a4
      have b4:=zA o
      have a0:=zA U
      clear i3 hM a4 o U
      go_wp2_with fail
      refine l6.out.mono ?_
      rintro e w4 ⟨rfl,i2,f2⟩
      have c4:w2.heap.size<=b:=(b4.out.lt b rfl).1
      have f8:=zA (a0.out.grown f2 a0.out.size (fun k hk=>by cases hk;exact c4))
      have e9:(OP (Ei C)).length=M:=by unfold OP;rw[List.length_mergeSort,k8.out]
      rw[<-e9]at i2
      have c2:=Ot i2 (by have:=a1.out;omega)
      rw[e9,SI,k2.out]at c2
      obtain⟨E,hE⟩:∃E,E=eds (A++B):=⟨_,rfl⟩
      rw[<-hE]at c2
      have HE:=zA hE
      have m4:E.length<=M:=by rw[hE,<-k2.out,<-SI,<-e9];exact Du _
      obtain⟨l,i1⟩:∃l,l=E.length:=⟨_,rfl⟩
      rw[<-i1]at c2 m4
      have k3:=zA c2
      have b3:=zA i1
      have r2:l<=16000:=by have:=a1.out;omega
      clear f2 e9 i2 c2 hE m4 i1 l6
      go_wp2_with fail
      refine k3.out.mono ?_
      rintro e p ⟨rfl,h5,f3⟩
      have j3:=zA (f8.out.grown f3 f8.out.size (fun k hk=>by cases hk;exact c4))
      have a9:=zA (f7.out.trans (j3.out.mono f7.out.size))
      have q1:=a9.out.size
      have q0:=f7.out.size
      have u:CbS w p A B [] E (.slice (some ⟨b,0,none⟩) l a) (.slice none 0 0) 0 p:=by
        have l7:=(h5.lt b rfl).2
        exact⟨⟨_,A,g1.out.next a9.out,Sub2.of (f5.out.next a9.out),fun _ _=>rfl,zC _,fun _ h=>h,LA.out⟩,⟨_,B,g2.out.next a9.out,Sub2.of (f6.out.next a9.out),fun _ _=>rfl,zC _,fun _ h=>h,LB.out⟩,Two.refl _ _ _,bT.nil,h5.mono (by omega),fun k hk=>by cases hk;exact l7,by omega⟩
      have l8:=zA u
      have HC:=zA (show ∀N wr O c,N<=8589934592->CbS w p A B O E (.slice (some ⟨b,0,none⟩) l a) c N wr->(Calls zB 280 #[.pointer (some ⟨w.heap.size,0,none⟩),jI jJ (N:Int)] wr fun e w'=>e=.returned (.bool (gY N A))/\CbS w p A B O E (.slice (some ⟨b,0,none⟩) l a) c N w')/\
          (Calls zB 280 #[.pointer (some ⟨w.heap.size+1,0,none⟩),jI jJ (N:Int)] wr fun e w'=>e=.returned (.bool (gY N B))/\CbS w p A B O E (.slice (some ⟨b,0,none⟩) l a) c N w')from
        fun N wr O c hN h=>aAc h SA.out j1.out SB.out j2.out hN)
      have f0:=zA (show FW E by rw[HE.out];exact BC _)
      have b6:=zA (show ∀x∈E,x<=8589934592 from fun x hx=>by
        rw[HE.out]at hx
        obtain⟨s,h1,h2⟩:=(nW _ _).1 hx
        rcases qR.1 h1 with h1|h1
        · have:=SA.out s h1;omega
        · have:=SB.out s h1;omega)
      have n9:=zA (show Below w.heap.size w p from d5.out.trans (a9.out.mono d5.out.size))
      clear h5 f3 u f8 j3 k3 a0 b4 c4 a1 k8 q1 q0 l3 g1 g2 f5 f6 LA LB SA SB
      go_wp2_with fail
      go_loopw [12,10] (fun i7 c wr=>∃j R N,j<=l/\i7=jI jJ ((j:Int)+1)/\CbS w p A B R.reverse E (.slice (some ⟨b,0,none⟩) l a) c N wr/\(∀x∈E.drop j,N<=x)/\dX (EG A B) (E.drop j) R=dX (EG A B) E []/\R.length<=j) (fun i7 _ _=>l+1-(intOf i7).toNat)
      case atStart=>exact⟨0,[],0,by omega,rfl,l8.out,fun _ _=>zO _,rfl,by simp⟩
      case round=>
        clear l8
        obtain⟨j,R,N,hj,rfl,u,hN,n2,m8⟩:=hrel
        have HS:=zA u
        have g0:=zA hN
        have d6:=zA n2
        have d9:=zA m8
        clear u hN n2 m8
        by_cases V:j+1<l
        · obtain ⟨x,hx⟩:∃x,E[j]? =some x:=⟨_,List.getElem?_eq_getElem (by rw[<-b3.out];omega)⟩
          obtain⟨y,hy⟩:∃y,E[j+ 1]? =some y:=⟨_,List.getElem?_eq_getElem (by rw[<-b3.out];omega)⟩
          have hd:E.drop j=x::E.drop (j+1):=by
            rw[zZ (by rw[<-b3.out];omega)]
            congr 1
            exact(List.getElem?_eq_some_iff.1 hx).2
          have n3:E.drop (j+1)=y::E.drop (j+1+1):=by
            rw[zZ (by rw[<-b3.out];omega)]
            congr 1
            exact(List.getElem?_eq_some_iff.1 hy).2
          have HD:=zA hd
          have f9:=zA n3
          have m7:N<=x:=g0.out x (by rw[hd];exact zH)
          have e3:=zA (HS.out.mono m7)
          have n8:x<=8589934592:=b6.out x (List.mem_of_getElem? hx)
          obtain⟨X,hX⟩:∃X:Int,X=(x:Int):=⟨_,rfl⟩
          obtain⟨Y,hY⟩:∃Y:Int,Y=(y:Int):=⟨_,rfl⟩
          have e4:=zA hX
          have g4:=zA hY
          have o1:=zA hx
          have o2:=zA hy
          have g9:∀wr c O,CbS w p A B O E (.slice (some ⟨b,0,none⟩) l a) c x wr->wr.cell? ⟨b,j,none⟩=some (jI jJ X)/\wr.cell? ⟨b,j+1,none⟩=some (jI jJ Y):=fun wr c O h=>by
            rw[e4.out,g4.out]
            exact⟨h.cellE o1.out,h.cellE o2.out⟩
          have G:=zA g9
          obtain⟨p0,p1⟩:=g9 _ _ _ e3.out
          have g8:(∀wr c O,CbS w p A B O E (.slice (some ⟨b,0,none⟩) l a) c x wr->Calls zB 280 #[.pointer (some ⟨w.heap.size,0,none⟩),jI jJ X] wr fun e w'=>e=.returned (.bool (gY x A))/\CbS w p A B O E (.slice (some ⟨b,0,none⟩) l a) c x w')/\
              (∀wr c O,CbS w p A B O E (.slice (some ⟨b,0,none⟩) l a) c x wr->Calls zB 280 #[.pointer (some ⟨w.heap.size+1,0,none⟩),jI jJ X] wr fun e w'=>e=.returned (.bool (gY x B))/\CbS w p A B O E (.slice (some ⟨b,0,none⟩) l a) c x w'):=by
            rw[e4.out]
            exact⟨fun wr c O h=>(HC.out x _ _ _ n8 h).1,fun wr c O h=>(HC.out x _ _ _ n8 h).2⟩
          have k0:=zA g8.1
          have k1:=zA g8.2
          have r7:(0:Int)<=(j:Int):=by omega
          have s5:j<l:=by omega
          have s4:(j:Int)<(l:Int):=by omega
          have s3:(j:Int)+1<(l:Int):=by omega
          have r0:(j:Int)<=16000:=by omega
          have r3:i64.wrap (j:Int)=(j:Int):=cN (by omega)
          have t0:i64.wrap ((j:Int)+1-1)=(j:Int):=by rw[cN (by omega)];omega
          have HZ:=zA (show wr.cell? ⟨b,j,none⟩=some (jI jJ X)/\CbS w p A B R.reverse E (.slice (some ⟨b,0,none⟩) l a) u10 x wr from⟨p0,e3.out⟩)
          have m0:=zA (show wr.drew.cell? ⟨b,j,none⟩=some (jI jJ X)/\CbS w p A B R.reverse E (.slice (some ⟨b,0,none⟩) l a) u10 x wr.drew from⟨p0,e3.out.drew⟩)
          clear hd n3 m7 hX hY hx hy g9 g8 g0 HS HC b6 p1
          go_upto_region 14 with fail
          go_region_held3 (fun w'=>w'.cell? ⟨b,j,none⟩=some (jI jJ X)/\CbS w p A B R.reverse E (.slice (some ⟨b,0,none⟩) l a) u10 x w')
            (first
              |(with_reducible exact HZ.out)
              |(with_reducible exact m0.out)
              |(with_reducible exact SS.out)
              |(with_reducible exact m2.out)
              |fail)
            (first
              |(go_at_call 280;(first|(with_reducible refine(k0.out _ _ _ (And.right (by assumption))).mono ?_)|(with_reducible refine(k1.out _ _ _ (And.right (by assumption))).mono ?_));rintro e w1 ⟨rfl,h1⟩;have SS:=zA (show w1.cell? ⟨b,j,none⟩=some (jI jJ X)/\CbS w p A B R.reverse E (.slice (some ⟨b,0,none⟩) l a) u10 x w1 from⟨(G.out _ _ _ h1).1,h1⟩);have m2:=zA (show w1.drew.cell? ⟨b,j,none⟩=some (jI jJ X)/\CbS w p A B R.reverse E (.slice (some ⟨b,0,none⟩) l a) u10 x w1.drew from⟨(G.out _ _ _ h1).1,h1.drew⟩);clear h1)
              |fail)
          have a7:=zA SS.out.2
          clear SS m2 HZ m0 p0
          go_wp2_with fail
          refine(aE7 _ _ _).mono ?_
          rintro e w6 ⟨rfl,n1⟩
          have J:=zA (a7.out.next n1)
          clear n1 a7 k0 k1 e3
          have b1:=zA (show ∀z∈E.drop (j+1),x<=z from fun z hz=>by
            have h1:=XW j f0.out
            rw[HD.out]at h1
            exact Nat.le_of_lt (h1.after z hz))
          cases e8:(gY x A||gY x B)with
          |false=>
            have d7:=zA (show EG A B x=false from e8)
            clear e8
            go_wp2_with fail
            refine⟨⟨j+1,R,x,by omega,by go_num,J.out,b1.out,?_,by have:=d9.out;omega⟩,?_⟩
            · rw[<-d6.out,HD.out,f9.out,fU,d7.out]
              rfl
            · simp only[intOf]
              omega
          |true=>
            have d7:=zA (show EG A B x=true from e8)
            clear e8
            obtain⟨a5,D,rfl⟩:=J.out.own.slice
            obtain⟨N1,e6⟩:∃N1,N1=R.reverse.length:=⟨_,rfl⟩
            rw[<-e6]at J ⊢
            have q7:N1<=16000:=by have:=d9.out;rw[e6,zS];omega
            have d8:=zA e6
            clear e6
            have q2:=G.out _ _ _ J.out
            obtain⟨p0,p1⟩:=q2
            go_upto_region 17 with fail
            go_cut [79]from 37 to 101 (fun q3 wx=>q3=.bool (mgE R x)/\CbS w p A B R.reverse E (.slice (some ⟨b,0,none⟩) l a) (.slice a5 N1 D) x wx)
            case first=>
              cases R with
              |nil=>
                have m5:N1=0:=d8.out
                subst m5
                go_quiet (fail)
                go_wp2_with fail
                go_meet
                exact⟨rfl,J.out.next (Below.drewN w6 _)⟩
              |cons ft R=>
                obtain⟨f,t⟩:=ft
                obtain⟨d,Z⟩:∃d,d=R.reverse.length:=⟨_,rfl⟩
                have g5:N1=d+1:=by rw[d8.out,Z];simp
                subst g5
                have b0:((f,t)::R).reverse[d]? =some (f,t):=by rw[Z,qY];simp
                obtain⟨a3,p3,hv,_,_,d0,d1⟩:=J.out.own.spa b0
                injection hv with hA c6 hc
                subst hA
                subst hc
                clear c6 b0
                obtain⟨T,hT⟩:∃T:Int,T=(t:Int):=⟨_,rfl⟩
                change _=some (Value.int jJ (t:Int))at d1
                rw[<-hT]at d1
                have l0:=zA (show mgE ((f,t)::R) x=decide (T=X) by
                  have:=e4.out
                  by_cases q:T=X
                  · rw[decide_eq_true q];exact decide_eq_true (by show t=x;omega)
                  · rw[decide_eq_false q];exact decide_eq_false (by show ¬t=x;omega))
                clear hT Z
                have p4:(0:Int)<=(d:Int):=by omega
                have p7:(d:Int)<(d:Int)+1:=by omega
                have p8:d<d+1:=by omega
                have n4:(d:Int)<=16000:=by omega
                have i6:i64.wrap (d:Int)=(d:Int):=cN (by omega)
                have n7:i64.wrap ((d:Int)+1-1)=(d:Int):=by rw[cN (by omega)];omega
                have HX:=zA (show(w6.cell? ⟨b,j,none⟩=some (jI jJ X)/\w6.cell? ⟨a3,d*2+1,none⟩=some (jI jJ T))/\CbS w p A B ((f,t)::R).reverse E (.slice (some ⟨b,0,none⟩) l a) (.slice (some ⟨a3,0,none⟩) (d+1) D) x w6 from⟨⟨p0,d1⟩,J.out⟩)
                have a2:=zA (Je HX.out)
                clear p0 p1 d0 d1
                by_cases q:T=X
                · go_region_held3 (fun w'=>(w'.cell? ⟨b,j,none⟩=some (jI jJ X)/\w'.cell? ⟨a3,d*2+1,none⟩=some (jI jJ T))/\CbS w p A B ((f,t)::R).reverse E (.slice (some ⟨b,0,none⟩) l a) (.slice (some ⟨a3,0,none⟩) (d+1) D) x w')
                    (first
                      |(with_reducible exact HX.out)
                      |(with_reducible exact a2.out)
                      |fail)
                    (fail)
                  go_wp2_with fail
                  go_meet
                  exact⟨by rw[l0.out,decide_eq_true q]<;>simp[q],a2.out.2⟩
                · go_region_held3 (fun w'=>(w'.cell? ⟨b,j,none⟩=some (jI jJ X)/\w'.cell? ⟨a3,d*2+1,none⟩=some (jI jJ T))/\CbS w p A B ((f,t)::R).reverse E (.slice (some ⟨b,0,none⟩) l a) (.slice (some ⟨a3,0,none⟩) (d+1) D) x w')
                    (first
                      |(with_reducible exact HX.out)
                      |(with_reducible exact a2.out)
                      |fail)
                    (fail)
                  go_wp2_with fail
                  go_meet
                  exact⟨by rw[l0.out,decide_eq_false q]<;>simp[q],a2.out.2⟩
            case rest=>
              obtain⟨rfl,c3⟩:=hcut
              have r:=zA c3
              clear c3 J p0 p1
              obtain⟨p0,p1⟩:=G.out _ _ _ r.out
              cases c9:mgE R x with
              |true=>
                cases R with
                |nil=>cases c9
                |cons ft R=>
                  obtain⟨f,t⟩:=ft
                  have i5:t=x:=of_decide_eq_true c9
                  subst i5
                  have b2:=zA (show dX (EG A B) (E.drop (j+1)) ((f,y)::R)=dX (EG A B) E [] by
                    rw[<-d6.out,HD.out,f9.out,fU,d7.out]
                    simp)
                  obtain⟨d,Z⟩:∃d,d=R.reverse.length:=⟨_,rfl⟩
                  have g5:N1=d+1:=by rw[d8.out,Z];simp
                  subst g5
                  have b0:((f,t)::R).reverse[d]? =some (f,t):=by rw[Z,qY];simp
                  obtain⟨a3,p3,hv,f1,s2,d0,d1⟩:=r.out.own.spa b0
                  injection hv with hA c6 hc
                  subst hA
                  subst hc
                  have r9:=r.out.own.frozen (d*2+1)
                  have u:=bT.setTo (E:=SJ) (i:=d) (j:=1) r.out.own b0 (by decide) (f,y) (jI jJ Y) (by rw[g4.out];rfl) (by
                    intro k hk s6
                    have h2:SJ.k=2:=rfl
                    have:k=0:=by omega
                    subst this
                    rfl)
                  have f4:((f,t)::R).reverse.set d (f,y)=((f,y)::R).reverse:=by rw[Z];simp
                  rw[f4]at u
                  have H:=zA (r.out.grown u.2 (fun k hk=>by cases hk;exact f1) u.1)
                  have b5:=zA (show((f,y)::R).length<=j+1 by have:=d9.out;simp only[zM]at*;omega)
                  clear c6 b0 u f4 Z d0 f1 c9 V
                  have p4:(0:Int)<=(d:Int):=by omega
                  have p7:(d:Int)<(d:Int)+1:=by omega
                  have p8:d<d+1:=by omega
                  have n4:(d:Int)<=16000:=by omega
                  have i6:i64.wrap (d:Int)=(d:Int):=cN (by omega)
                  have n7:i64.wrap ((d:Int)+1-1)=(d:Int):=by rw[cN (by omega)];omega
                  go_wp2_with fail
                  refine⟨⟨j+1,(f,y)::R,t,by omega,by go_num,H.out,b1.out,b2.out,b5.out⟩,?_⟩
                  simp only[intOf]
                  omega
              |false=>
                have b2:=zA (show dX (EG A B) (E.drop (j+1)) ((x,y)::R)=dX (EG A B) E [] by
                  rw[<-d6.out,HD.out,f9.out,fU,d7.out]
                  cases R with
                  |nil=>rfl
                  |cons ft R=>
                    obtain⟨f,t⟩:=ft
                    have i5:¬t=x:=of_decide_eq_false c9
                    simp[i5])
                have b5:=zA (show((x,y)::R).length<=j+1 by have:=d9.out;simp only[zM]at*;omega)
                have HY:=zA (show(wc.cell? ⟨b,j,none⟩=some (jI jJ X)/\wc.cell? ⟨b,j+1,none⟩=some (jI jJ Y))/\CbS w p A B R.reverse E (.slice (some ⟨b,0,none⟩) l a) (.slice a5 N1 D) x wc from⟨⟨p0,p1⟩,r.out⟩)
                have k5:=zA (show SJ.enc (x,y)=(#[jI jJ X,jI jJ Y]:Array Value).toList by rw[e4.out,g4.out];rfl)
                have o3:=zA (show R.reverse.length<=1000000000 by rw[<-d8.out];omega)
                have r1:j+1<l:=V
                have q6:(0:Int)<=(j:Int)+1:=by omega
                have r4:i64.wrap ((j:Int)+1)=(j:Int)+1:=cN (by omega)
                clear c9 p0 p1
                go_wp2_with fail
                have k6:=zA (fun(w':World) (h:(w'.cell? ⟨b,j,none⟩=some (jI jJ X)/\w'.cell? ⟨b,j+1,none⟩=some (jI jJ Y))/\CbS w p A B R.reverse E (.slice (some ⟨b,0,none⟩) l a) (.slice a5 N1 D) x w')=>h.1)
                go_region_held3 (fun w'=>w'.cell? ⟨b,j,none⟩=some (jI jJ X)/\w'.cell? ⟨b,j+1,none⟩=some (jI jJ Y))
                  (first
                    |(with_reducible exact l4.out)
                    | ((with_reducible refine k6.out _ ?_);(repeat' first
                        |(with_reducible exact HY.out)
                        |(with_reducible refine Je ?_)
                        |(with_reducible refine Uq ?_ _)))
                    |fail)
                  (first
                    | (refine NK (E:=SJ) (by rfl) _ _ _ (by rfl) 252 (jA #[jI jJ 0,jI jJ 0]) 16 Tryz.underlying222 uC (by rfl) (by decide) (by omega) p.heap.size (.slice a5 N1 D) R.reverse (by rfl) (CbS.own (N:=x) (w:=w) (A:=A) (B:=B) (E:=E) (v7:=.slice (some ⟨b,0,none⟩) l a) (by (repeat' first|(with_reducible exact r.out)|(with_reducible refine CbS.drew ?_)|(with_reducible refine CbS.alloc ?_ _)))) _ (x,y) #[jI jJ X,jI jJ Y] 1 (by rfl) ⟨_,_,heap_alloc_new _ _⟩ k5.out o3.out (CbS.gr (N:=x) (w:=w) (A:=A) (B:=B) (E:=E) (O:=R.reverse) (v10:=.slice a5 N1 D) (v7:=.slice (some ⟨b,0,none⟩) l a) (by (repeat' first|(with_reducible exact r.out)|(with_reducible refine CbS.drew ?_)|(with_reducible refine CbS.alloc ?_ _)))).size ?_
                       intro g3 b7 w3 ho c5 b9 c8
                       have H:=zA (CbS.grown (N:=x) (w:=w) (A:=A) (B:=B) (E:=E) (O:=R.reverse) (v10:=.slice a5 N1 D) (v7:=.slice (some ⟨b,0,none⟩) l a) (by (repeat' first|(with_reducible exact r.out)|(with_reducible refine CbS.drew ?_)|(with_reducible refine CbS.alloc ?_ _))) c5 (fun k hk=>(r.out.own.lt k hk).1) ho)
                       have l4:=zA (G.out _ _ _ H.out)
                       clear ho c5 b9 c8)
                    |fail)
                have l2:=zA (show CbS w p A B ((x,y)::R).reverse E (.slice (some ⟨b,0,none⟩) l a) (.slice (some ⟨g3,0,none⟩) (R.length+1) b7) x w3 from by
                  have:=H.out
                  rw[<-qY,zS]at this
                  exact this)
                clear H l4 k6 r HY
                go_wp2_with fail
                refine⟨⟨j+1,(x,y)::R,x,by omega,by go_num,l2.out,b1.out,b2.out,b5.out⟩,?_⟩
                simp only[intOf]
                omega
        · have HF:=zA (show ∃v,Ending.returned u10=.returned v/\FX wr w.heap.size v (dX (EG A B) (eds (A++B)) []).reverse/\Below w.heap.size w wr from by
            have h1:=HS.out
            refine⟨u10,rfl,?_,h1.gr.below n9.out (zC _) (by omega)⟩
            rw[<-HE.out,<-d6.out,Vj _ _ _ (by rw[List.length_drop,<-b3.out];omega)]
            exact h1.own.mono (by have:=h1.l5;omega))
          clear HS g0 HC b6 f0
          go_wp2_with fail
          go_ret
          exact HF.out
end
section
open Go.RowKit Rg
attribute [local go_sem] Oper.semAt_some
theorem UW{m:Nat}:∀{S:List (Nat×Nat)},fL S->(∀s∈S,s.2<=m)->∀s∈S,s.1<=m/\s.2<=m
 | [],_,_,s,hs=>by cases hs
 |a::S,b,h,s,hs=>by
  rcases zI.1 hs with rfl|hs
  ·have:=b.one;have:=h s zH;exact⟨by omega,by omega⟩
  ·exact UW b.tail (fun s hs=>h s (List.mem_cons_of_mem _ hs)) s hs
theorem tE(a:Nat->Bool):∀(E:List Nat) (R:List (Nat×Nat)),(dX a E R).length<=E.length+R.length
 | [],R=>by unfold dX;omega
 | [_],R=>by unfold dX;omega
 |e::b::E,R=>by
  rw[fU];split
  ·split
   ·rename_i f t c;split
    ·have:=tE a (b::E) ((f,b)::c);simp only[zM]at*;omega
    ·have:=tE a (b::E) ((e,b)::(f,t)::c);simp only[zM]at*;omega
   ·have:=tE a (b::E) [(e,b)];simp only[zM,xA]at*;omega
  ·have:=tE a (b::E) R;simp only[zM]at*;omega
theorem q9(l:List (Nat×Nat)):(eds l).length<=l.length*2:=by
 rw[<-SI,<-GW];refine zJ (Du _) ?_;unfold OP;rw[List.length_mergeSort];exact zC _
theorem j5{L:List Blk}(h:0<L.length):0<(iZ L).length:=by
 cases L with
 |nil=>simp at h
 |cons a L=>
  show 0<(gJ a.lo a.hi L).length;generalize a.lo=f;generalize a.hi=t;clear h;induction L generalizing f t with
  |nil=>simp[gJ]
  |cons b L c=>
   unfold gJ;split
   ·exact c _ _
   ·simp
def OQ(A B:List Blk):List (Nat×Nat):=(dX (EG (iZ A) (iZ B)) (eds (iZ A++iZ B)) []).reverse
theorem aBz{A B:List Blk}(d:Reg A)(e:Reg B):gB (OQ A B)=iH A B/\(OQ A B).length<=100000000/\(∀s∈OQ A B,s.1<=8589934592/\s.2<=8589934592)/\Al 5 (OQ A B):=by
 have g:=oX d.tidy.2.2 d.top;have h:=oX e.tidy.2.2 e.top;have f:∀x∈eds (iZ A++iZ B),x<=8589934592/\sz 5∣x:=fun x b=>by
  obtain⟨s,h1,c⟩:=(nW _ _).1 b;rcases qR.1 h1 with h1|h1
  ·have:=g s h1;have:=d.al s h1;rcases c with rfl|rfl
   ·exact⟨by omega,by exact this.1⟩
   ·exact⟨by omega,by exact this.2⟩
  ·have:=h s h1;have:=e.al s h1;rcases c with rfl|rfl
   ·exact⟨by omega,by exact this.1⟩
   ·exact⟨by omega,by exact this.2⟩
 obtain⟨u1,u2⟩:=Bb (EG (iZ A) (iZ B)) (BC (iZ A++iZ B));refine⟨rfl,?_,UW u1 fun s a=>mQ _ _ _ [] (fun x b=>(f x b).1) (fun s a=>by cases a) s (by simpa[OQ]using a),fun s a=>uI _ 5 _ [] (fun x b=>(f x b).2) (fun s a=>by cases a) s (by simpa[OQ]using a)⟩;unfold OQ;rw[zS];have h1:=tE (EG (iZ A) (iZ B)) (eds (iZ A++iZ B)) [];have c:=q9 (iZ A++iZ B);have i:=AY A;have j:=AY B;have:=d.few;have:=e.few;rw[zU]at c;simp only[xA]at h1;omega
def uF(w:World)(A B:List Blk)(e:Ending)(w':World):Prop:=
 (((iH A B).length<=4000/\∃v,e=.returned (.tuple #[v,jI jJ 0])/\RC w' w.heap.size v (iH A B))\/(4000<(iH A B).length/\e=.returned (.tuple #[.slice none 0 0,jI jJ 4])))/\Below w.heap.size w w'
theorem Yh(q:CelH){A B:List Blk}{X Y:Value}(i:Reg A)(j:Reg B)(h0:0<B.length)(w:World)(ha:RC w 0 X A)(hb:RC w 0 Y B)(la:∀k,X.ownBlock=some k->k<w.heap.size)(lb:∀k,Y.ownBlock=some k->k<w.heap.size):
  Calls zB 202 #[X,Y,.func (.func 203) #[] #[]] w (uF w A B):=by
 have H:=zA (fun(w:World) (h:RC w 0 X A) l=>DB q i w h l);have I:=zA (fun(w:World) (h:RC w 0 Y B) l=>DB q j w h l);have s:=zA (fun(w:World) (h:RC w 0 X A) l=>DT q.spo (by have:=i.few;omega) i.okc i.tidy.2.2 w h l);have t:=zA (fun(w:World) (h:RC w 0 Y B) l=>DT q.spo (by have:=j.few;omega) j.okc j.tidy.2.2 w h l);have u:=zA (fun(w:World) (sa sb:Value) (h1:FX w 0 sa (iZ A)) (h2:FX w 0 sb (iZ B)) l1 l2=>WG w h1 h2 l1 l2 (oX i.tidy.2.2 i.top) (oX j.tidy.2.2 j.top) (by have:=i.few;have:=AY A;omega) (j5 h0) (by have:=j.few;have:=AY B;omega));obtain⟨u1,u2,u3,u4⟩:=aBz i j;have G:=zA (fun(w:World) (sv:Value) (h:FX w 0 sv (OQ A B)) l=>Au q.cof (OQ A B) sv u2 u3 u4 w h l);have HU:=zA u1;obtain⟨Aa,ca,rfl⟩:=ha.slice;obtain⟨Ab,cb,rfl⟩:=hb.slice;have z:=zA ha;have D:=zA hb;have x:=zA la;have y:=zA lb;clear q i j h0 ha hb la lb u1 u2 u3 u4;go_enter Tryz.func202,Tryz.ntmps202;go_wp2_with fail
 refine(H.out _ z.out x.out).mono ?_;rintro e w1 ⟨rfl,J⟩;have a:=zA J;clear J H;go_wp2_with fail
 refine(I.out _ (D.out.next a.out) (fun k f=>zT (y.out k f) a.out.size)).mono ?_;rintro e w2 ⟨rfl,K⟩;have b:=zA (a.out.trans (K.mono a.out.size));clear K I a;go_wp2_with fail
 refine(s.out _ (z.out.next b.out) (fun k f=>zT (x.out k f) b.out.size)).mono ?_;rintro e w3 ⟨sa,rfl,R,L⟩;have c:=zA (b.out.trans (L.mono b.out.size));have E:=zA R;clear L R s b;go_wp2_with fail
 refine(t.out _ (D.out.next c.out) (fun k f=>zT (y.out k f) c.out.size)).mono ?_;rintro e w4 ⟨sb,rfl,U,p⟩;have m:=zA (c.out.trans (p.mono c.out.size));have d:=zA (E.out.next p);have n:=zA U;clear p U t c E;go_wp2_with fail
 refine(u.out _ _ _ (d.out.mono (zO _)) (n.out.mono (zO _)) (fun k f=>(d.out.lt k f).2) (fun k f=>(n.out.lt k f).2)).mono ?_;rintro e w5 ⟨sv,rfl,V,M⟩;have g:=zA (m.out.trans (M.mono m.out.size));have o:=zA V;clear M V u m d n;go_wp2_with fail
 refine(G.out _ _ (o.out.mono (zO _)) (fun k f=>(o.out.lt k f).2)).mono ?_;rintro e w6 ⟨a1,N⟩;have r:=zA (g.out.trans (N.mono g.out.size));have a0:=zA g.out.size;clear N G g o;rcases a1 with⟨Q,v,rfl,Z⟩|⟨O,rfl⟩
 ·obtain⟨A6,c6,rfl⟩:=Z.slice;have HF:=zA (show uF w A B (.returned (.tuple #[.slice A6 (gB (OQ A B)).length c6,jI jJ 0])) w6 from⟨.inl ⟨by rw[<-HU.out];exact Q,_,rfl,by rw[HU.out]at Z ⊢;exact Z.mono a0.out⟩,r.out⟩);clear Q Z;go_wp2_with fail
  go_ret2
  exact HF.out
 ·have HF:=zA (show uF w A B (.returned (.tuple #[.slice none 0 0,jI jJ 4])) w6 from⟨.inr ⟨by rw[<-HU.out];exact O,rfl⟩,r.out⟩);clear O;go_wp2_with fail
  go_ret2
  exact HF.out
theorem Rs(o:CelH){A B:List Blk}{i j:Value}(m:Reg A)(n:Reg B)(l:0<B.length)(w:World)(f:RC w 0 i A)(a:RC w 0 j B)(p:∀k,i.ownBlock=some k->k<w.heap.size)(lb:∀k,j.ownBlock=some k->k<w.heap.size):
  Calls zB 139 #[i,j] w (uF w A B):=by
 have r:=zA (Yh o m n l w f a p lb);obtain⟨t,y,rfl⟩:=f.slice;obtain⟨u,z,rfl⟩:=a.slice;clear o m n l f a p lb;go_enter Tryz.func139,Tryz.ntmps139;go_wp2_with fail
 refine r.out.mono ?_;rintro e q ⟨g,a⟩;rcases g with⟨c,v,rfl,h⟩|⟨b,rfl⟩
 ·have d:=zA (show uF w A B (.returned (.tuple #[v,jI jJ 0])) q from⟨.inl ⟨c,_,rfl,h⟩,a⟩);obtain⟨s,x,rfl⟩:=h.slice;clear c h a;go_wp2_with fail
  go_ret2
  exact d.out
 ·have d:=zA (show uF w A B (.returned (.tuple #[.slice none 0 0,jI jJ 4])) q from⟨.inr ⟨b,rfl⟩,a⟩);clear b a;go_wp2_with fail
  go_ret2
  exact d.out
end
section
open Go.RowKit Rg
attribute [local go_sem] Oper.semAt_some
theorem Gp:∀(l n:Nat),aM l n<2^l
 | 0,n=>by show 0<1;omega
 |l+1,n=>by
  have:=Gp l (n/4);rw[CI,yT];omega
theorem Dp:∀(l n:Nat),n<2*4^l->aN l n<2*2^l
 | 0,n,h=>by show n<2;simpa using h
 |l+1,n,h=>by
  have:=Dp l (n/4) (by rw[yT]at h;omega);rw[AW,yT];omega
theorem uG{b:Blk}(h:b.l<=5)(a:b.n<2*4^b.l):∃X Y Z:Int,fW b=[jI jJ X,jI jJ Y,jI jJ Z]/\X=(b.l:Int)/\Y=(aM b.l b.n:Int)/\Z=(aN b.l b.n:Int)/\0<=X/\X<=5/\0<=Y/\Y<=31/\0<=Z/\Z<=63:=by
 have c:=Gp b.l b.n;have d:=Dp b.l b.n a;have e:2^b.l<=32:=(Nat.pow_le_pow_right (by omega:2>0) h:2^b.l<=2^5);refine⟨_,_,_,rfl,rfl,rfl,rfl,by omega,by omega,by omega,by omega,by omega,by omega⟩
def Zl(b:Blk):Value:=if b.l=0 then jA #[jI jJ 0,jI jJ 0,jI jJ 0] else dD ⟨b.l-1,b.n/4⟩
theorem aAO{b:Blk}{X Y Z:Int}(e:X=(b.l:Int))(a:Y=(aM b.l b.n:Int))(c:Z=(aN b.l b.n:Int))(h:¬b.l=0):dD ⟨b.l-1,b.n/4⟩=jA #[jI jJ (X-1),jI jJ (Y/2),jI jJ (Z/2)]:=by
 obtain⟨l,n⟩:=b;cases l with
 |zero=>exact absurd rfl h
 |succ l=>
  have e1:Y/2=(aM l (n/4):Int):=by
   have:=CI l n;dsimp only at a;rw[a,this];omega
  have e2:Z/2=(aN l (n/4):Int):=by
   have:=AW l n;dsimp only at c;rw[c,this];omega
  have d:X-1=(l:Int):=by dsimp only at e;omega
  rw[e1,e2,d];rfl
theorem B3.kept{w w':World}{e:TypeId}{g:Nat}{x y z:Int}{row:Option Nat}(h:B3 w e g x y z)(a:w.grownBy w' row)(b:some g≠row):B3 w' e g x y z:=(a.block g h.lt b).trans h
theorem B3.fr{w:World}{e:TypeId}{g:Nat}{x y z:Int}(h:B3 w e g x y z):w.frozen? ⟨g,0,none⟩=false/\w.frozen? ⟨g,1,none⟩=false/\w.frozen? ⟨g,2,none⟩=false:=by
 unfold B3 at h;refine⟨?_,?_,?_⟩<;>simp[World.frozen?,h]
theorem B3.set{w:World}{e:TypeId}{g:Nat}{x y z:Int}(h:B3 w e g x y z)(u v t:Int):B3 (((w.setCell ⟨g,0,none⟩ (jI jJ u)).setCell ⟨g,1,none⟩ (jI jJ v)).setCell ⟨g,2,none⟩ (jI jJ t)) e g u v t:=by
 unfold B3 at*;simp[qK,h,Array.getElem?_modify]
theorem Rr(w:World)(X Y Z:Int)(W:World)(a:W=(w.alloc (jC #[jI jJ X,jI jJ Y,jI jJ Z] 63)).alloc (jC #[jI jJ 0,jI jJ 0,jI jJ 0] 63)):
  Below w.heap.size w W/\B3 W 63 w.heap.size X Y Z/\B3 W 63 (w.heap.size+1) 0 0 0:=by
 subst a;refine⟨((zD _ _).alloc (zC _) _).alloc (by simp) _,(B3.new w _ X Y Z).next (Below.new _),?_⟩;have:=B3.new (w.alloc (jC #[jI jJ X,jI jJ Y,jI jJ Z] 63)) 63 0 0 0;simp only[qF]at this;exact this
theorem aCe{y:Int}(h:0<=y):Int.tdiv y 2=y/2:=Int.tdiv_eq_ediv_of_nonneg h
theorem aAP{X Y Z:Int}(N:0<=X)(x1:X<=5)(L:0<=Y)(y1:Y<=31)(M:0<=Z)(O:Z<=63)(y:∀w,Calls zB 193 #[jA #[jI jJ X,jI jJ Y,jI jJ Z]] w (GP (.bool true) w))(w:World):
  Calls zB 192 #[jA #[jI jJ X,jI jJ Y,jI jJ Z]] w fun e w'=>((X=0/\e=.returned (.tuple #[jA #[jI jJ 0,jI jJ 0,jI jJ 0],jI jJ 12]))\/(X≠0/\e=.returned (.tuple #[jA #[jI jJ (X-1),jI jJ (Y/2),jI jJ (Z/2)],jI jJ 0])))/\Below w.heap.size w w':=by
 have p:=zA y;obtain⟨W,k⟩:∃W,W=(w.alloc (jC #[jI jJ X,jI jJ Y,jI jJ Z] 63)).alloc (jC #[jI jJ 0,jI jJ 0,jI jJ 0] 63):=⟨_,rfl⟩;obtain⟨r,s,t⟩:=Rr w X Y Z W k;have g:=zA r;have q:=zA s;have o:=zA t;have d1:=aCe L;have d2:=aCe M;clear y r s t;go_enter Tryz.func192,Tryz.ntmps192;go_wp2_with fail
 rw[<-k];clear k;refine(p.out _).mono ?_;rintro e f ⟨rfl,a⟩;have i:=zA (g.out.trans (a.mono g.out.size));have j:=zA (q.out.next a);have c:=zA (o.out.next a);clear a g q o p;obtain⟨z,A,B⟩:=j.out.keep;obtain⟨D,E,G⟩:=c.out.keep;obtain⟨H,I,J⟩:=c.out.fr;have n:=zA (fun(u v x:Int)=>(show Below w.heap.size w (((f.setCell ⟨w.heap.size+1,0,none⟩ (jI jJ u)).setCell ⟨w.heap.size+1,1,none⟩ (jI jJ v)).setCell ⟨w.heap.size+1,2,none⟩ (jI jJ x))/\B3 (((f.setCell ⟨w.heap.size+1,0,none⟩ (jI jJ u)).setCell ⟨w.heap.size+1,1,none⟩ (jI jJ v)).setCell ⟨w.heap.size+1,2,none⟩ (jI jJ x)) 63 (w.heap.size+1) u v x from⟨((i.out.setCell (by simp) _).setCell (by simp) _).setCell (by simp) _,c.out.set u v x⟩));by_cases h:X=0
 ·subst h;go_wp2_with fail
  obtain⟨b,d⟩:=n.out 0 0 0;obtain⟨l,s1,m⟩:=d.keep;clear D E G H I J z A B;generalize ((f.setCell ⟨w.heap.size+1,0,none⟩ (jI jJ 0)).setCell ⟨w.heap.size+1,1,none⟩ (jI jJ 0)).setCell ⟨w.heap.size+1,2,none⟩ (jI jJ 0)=K at*;refine bodyPost_ret (v:=.tuple #[jA #[jI jJ 0,jI jJ 0,jI jJ 0],jI jJ 12]) (by simp[results,Tryz.results192,l,s1,m,go_sem];try rfl) rfl ?_;first
   |exact⟨.inl ⟨rfl,rfl⟩,b⟩
   |exact⟨rfl,b⟩
 ·go_wp2_with fail
  obtain⟨b,d⟩:=n.out (X-1) (Y/2) (Z/2);obtain⟨l,s1,m⟩:=d.keep;clear D E G H I J z A B;generalize ((f.setCell ⟨w.heap.size+1,0,none⟩ (jI jJ (X-1))).setCell ⟨w.heap.size+1,1,none⟩ (jI jJ (Y/2))).setCell ⟨w.heap.size+1,2,none⟩ (jI jJ (Z/2))=K at*;refine bodyPost_ret (v:=.tuple #[jA #[jI jJ (X-1),jI jJ (Y/2),jI jJ (Z/2)],jI jJ 0]) (by simp[results,Tryz.results192,l,s1,m,go_sem];try rfl) rfl ?_;exact⟨.inr ⟨h,rfl⟩,b⟩
theorem aAN(p:Bv){b:Blk}(f:b.l<=5)(i:b.n<2*4^b.l)(w:World):Calls zB 192 #[dD b] w (GP (.tuple #[Zl b,jI jJ (if b.l=0 then 12 else 0)]) w):=by
 obtain⟨X,Y,Z,o,j,k,m,q,r,s,t,u,v⟩:=uG f i;have d:=p b f i;have c:dD b=jA #[jI jJ X,jI jJ Y,jI jJ Z]:=by unfold dD;rw[o]
 rw[c]at d ⊢;refine(aAP q r s t u v d w).mono ?_;rintro e x ⟨h|h,g⟩
 ·have a:b.l=0:=by omega
  refine⟨?_,g⟩;rw[h.2,Zl,if_pos a,if_pos a]
 ·have a:¬b.l=0:=by omega
  refine⟨?_,g⟩;rw[h.2,Zl,if_neg a,if_neg a,aAO j k m a]
theorem RV(hv:Bv){b:Blk}(h4:b.l<=4)(hn:b.n<2*4^b.l)(w:World):Calls zB 132 #[dD b] w fun e w'=>∃v,e=.returned (.tuple #[v,jI jJ 0])/\RC w' w.heap.size v [b.kid 0,b.kid 1,b.kid 2,b.kid 3]/\Below w.heap.size w w':=by
 obtain⟨X,Y,Z,hc,hX,hY,hZ,x0,x1,y0,y1,z0,z1⟩:=uG (by omega) hn;have Q:=hv b (by omega) hn;have a1:dD b=jA #[jI jJ X,jI jJ Y,jI jJ Z]:=by unfold dD;rw[hc]
 rw[a1]at Q ⊢;have HV:=zA Q;have x4:X<=4:=by omega
 have a5:(X==16)=false:=beq_eq_false_iff_ne.2 (by omega);have I:=zA (show ∀i,i<4->∀U V:Int,U=2*Y+((i/2:Nat):Int)->V=2*Z+((i%2:Nat):Int)->AH.enc (b.kid i)=[jI jJ (X+1),jI jJ U,jI jJ V]from fun i hi U V hr a4=>by
  obtain⟨e1,e2⟩:=Fg b i hi;show fW (b.kid i)=_;unfold fW;rw[e1,e2,hr,a4,hX,hY,hZ];rfl)
 have HB:=zA (Below.new (w:=w) (jC #[jI jJ X,jI jJ Y,jI jJ Z] 63));have HX:=zA (B3.new w 63 X Y Z);clear hv hc a1 hX hY hZ Q h4 hn;obtain⟨W,hW⟩:∃W,W=w.alloc (jC #[jI jJ X,jI jJ Y,jI jJ Z] 63):=⟨_,rfl⟩;rw[<-hW]at HB HX;go_enter Tryz.func132,Tryz.ntmps132;go_wp2_with fail
 rw[<-hW];clear hW;refine(HV.out _).mono ?_;rintro e w1 ⟨rfl,N⟩;have a0:=zA (HB.out.trans (N.mono HB.out.size));have J:=zA (HX.out.next N);clear N HB HX HV;obtain⟨p0,p1,p2⟩:=J.out.keep;go_wp2_with fail
 clear p0 p1 p2;go_loopw [14,4] (fun R v4 wr=>∃i:Nat,i<=4/\R=jI jJ (i:Int)/\RC wr (w.heap.size+1) v4 ((qL i).map b.kid)/\B3 wr 63 w.heap.size X Y Z/\Below w.heap.size w wr) (fun R _ _=>4-(intOf R).toNat)
 case atStart=>exact⟨0,by omega,rfl,bT.nil,J.out,a0.out⟩
 case round=>
  clear J a0;obtain⟨i,hi,rfl,o,H,B⟩:=hrel;obtain⟨p0,p1,p2⟩:=H.keep;by_cases h4:i=4
  ·subst h4;have HF:=zA (show RC wr w.heap.size u4 [b.kid 0,b.kid 1,b.kid 2,b.kid 3]/\Below w.heap.size w wr from⟨o.mono (by omega),B⟩);obtain⟨A,c,rfl⟩:=o.slice;clear o H B;go_wp2_with fail
   go_ret2
   exact⟨_,rfl,HF.out⟩
  ·have a3:i=0\/i=1\/i=2\/i=3:=by omega
   obtain⟨L,hL⟩:∃L,L=(qL i).map b.kid:=⟨_,rfl⟩;have M:L.length=i:=by rw[hL];simp
   have G:=zA (show(qL (i+1)).map b.kid=L++[b.kid i] by rw[hL,List.range_succ,List.map_append];rfl);rw[<-hL]at o;obtain⟨A,c,rfl⟩:=o.slice;rw[M]at o ⊢;have a2:=zA M;clear hL M;have m:=zA o;have j:=zA H;have f:=zA B;have D:=zA (show L.length<=1000000000 by rw[a2.out];omega);clear o H B;rcases a3 with rfl|rfl|rfl|rfl
   ·have u:=zA (I.out 0 (by omega) (2*Y) (2*Z) (by omega) (by omega));have y:=zA (Below.new (w:=wr) (jC #[jI jJ (X+1),jI jJ (2*Y),jI jJ (2*Z)] 63));have h:=zA (m.out.next y.out);have q:=zA (j.out.next y.out);have p:=zA (f.out.trans (y.out.mono f.out.size));have x:=zA (show w.heap.size+1<=_ from q.out.lt);clear m j f I;go_wp2_with (at_builtin;refine iW (E:=AH) rfl (.tmp 17) (.tmp 34) _ rfl 63 (jA #[jI jJ 0,jI jJ 0,jI jJ 0]) 24 Tryz.underlying60 gW rfl (by decide) (by omega) (w.heap.size+1) (.slice A 0 c) L rfl h.out wr.heap.size (b.kid 0) 1 rfl ⟨_,_,by rw[u.out];exact heap_alloc_new wr _⟩ D.out x.out ?_)
    intro K r z d a s t;have g:=zA (show RC z (w.heap.size+1) (.slice (some ⟨K,0,none⟩) (L.length+1) r) ((qL (0+1)).map b.kid)/\B3 z 63 w.heap.size X Y Z/\Below w.heap.size w z from⟨by rw[G.out];exact d,q.out.kept a (fun e=>by have:=(h.out.lt _ e.symm).1;omega),p.out.grown a p.out.size (fun k O=>by have:=(h.out.lt k O).1;omega)⟩);clear d a s t p0 p1 p2;go_wp2_with fail
    go_roundw
    case rel=>exact⟨1,by omega,by go_num,g.out.1,g.out.2.1,g.out.2.2⟩
    case measure=>decide
   ·have u:=zA (I.out 1 (by omega) (2*Y) (2*Z+1) (by omega) (by omega));have y:=zA (Below.new (w:=wr) (jC #[jI jJ (X+1),jI jJ (2*Y),jI jJ (2*Z+1)] 63));have h:=zA (m.out.next y.out);have q:=zA (j.out.next y.out);have p:=zA (f.out.trans (y.out.mono f.out.size));have x:=zA (show w.heap.size+1<=_ from q.out.lt);clear m j f I;go_wp2_with (at_builtin;refine iW (E:=AH) rfl (.tmp 17) (.tmp 34) _ rfl 63 (jA #[jI jJ 0,jI jJ 0,jI jJ 0]) 24 Tryz.underlying60 gW rfl (by decide) (by omega) (w.heap.size+1) (.slice A 1 c) L rfl h.out wr.heap.size (b.kid 1) 1 rfl ⟨_,_,by rw[u.out];exact heap_alloc_new wr _⟩ D.out x.out ?_)
    intro K r z d a s t;have g:=zA (show RC z (w.heap.size+1) (.slice (some ⟨K,0,none⟩) (L.length+1) r) ((qL (1+1)).map b.kid)/\B3 z 63 w.heap.size X Y Z/\Below w.heap.size w z from⟨by rw[G.out];exact d,q.out.kept a (fun e=>by have:=(h.out.lt _ e.symm).1;omega),p.out.grown a p.out.size (fun k O=>by have:=(h.out.lt k O).1;omega)⟩);clear d a s t p0 p1 p2;go_wp2_with fail
    go_roundw
    case rel=>exact⟨2,by omega,by go_num,g.out.1,g.out.2.1,g.out.2.2⟩
    case measure=>decide
   ·have u:=zA (I.out 2 (by omega) (2*Y+1) (2*Z) (by omega) (by omega));have y:=zA (Below.new (w:=wr) (jC #[jI jJ (X+1),jI jJ (2*Y+1),jI jJ (2*Z)] 63));have h:=zA (m.out.next y.out);have q:=zA (j.out.next y.out);have p:=zA (f.out.trans (y.out.mono f.out.size));have x:=zA (show w.heap.size+1<=_ from q.out.lt);clear m j f I;go_wp2_with (at_builtin;refine iW (E:=AH) rfl (.tmp 17) (.tmp 34) _ rfl 63 (jA #[jI jJ 0,jI jJ 0,jI jJ 0]) 24 Tryz.underlying60 gW rfl (by decide) (by omega) (w.heap.size+1) (.slice A 2 c) L rfl h.out wr.heap.size (b.kid 2) 1 rfl ⟨_,_,by rw[u.out];exact heap_alloc_new wr _⟩ D.out x.out ?_)
    intro K r z d a s t;have g:=zA (show RC z (w.heap.size+1) (.slice (some ⟨K,0,none⟩) (L.length+1) r) ((qL (2+1)).map b.kid)/\B3 z 63 w.heap.size X Y Z/\Below w.heap.size w z from⟨by rw[G.out];exact d,q.out.kept a (fun e=>by have:=(h.out.lt _ e.symm).1;omega),p.out.grown a p.out.size (fun k O=>by have:=(h.out.lt k O).1;omega)⟩);clear d a s t p0 p1 p2;go_wp2_with fail
    go_roundw
    case rel=>exact⟨3,by omega,by go_num,g.out.1,g.out.2.1,g.out.2.2⟩
    case measure=>decide
   ·have u:=zA (I.out 3 (by omega) (2*Y+1) (2*Z+1) (by omega) (by omega));have y:=zA (Below.new (w:=wr) (jC #[jI jJ (X+1),jI jJ (2*Y+1),jI jJ (2*Z+1)] 63));have h:=zA (m.out.next y.out);have q:=zA (j.out.next y.out);have p:=zA (f.out.trans (y.out.mono f.out.size));have x:=zA (show w.heap.size+1<=_ from q.out.lt);clear m j f I;go_wp2_with (at_builtin;refine iW (E:=AH) rfl (.tmp 17) (.tmp 34) _ rfl 63 (jA #[jI jJ 0,jI jJ 0,jI jJ 0]) 24 Tryz.underlying60 gW rfl (by decide) (by omega) (w.heap.size+1) (.slice A 3 c) L rfl h.out wr.heap.size (b.kid 3) 1 rfl ⟨_,_,by rw[u.out];exact heap_alloc_new wr _⟩ D.out x.out ?_)
    intro K r z d a s t;have g:=zA (show RC z (w.heap.size+1) (.slice (some ⟨K,0,none⟩) (L.length+1) r) ((qL (3+1)).map b.kid)/\B3 z 63 w.heap.size X Y Z/\Below w.heap.size w z from⟨by rw[G.out];exact d,q.out.kept a (fun e=>by have:=(h.out.lt _ e.symm).1;omega),p.out.grown a p.out.size (fun k O=>by have:=(h.out.lt k O).1;omega)⟩);clear d a s t p0 p1 p2;go_wp2_with fail
    go_roundw
    case rel=>exact⟨4,by omega,by go_num,g.out.1,g.out.2.1,g.out.2.2⟩
    case measure=>decide
end
section
open Go.RowKit Rg
attribute [local go_sem] Oper.semAt_some
def DJ(w:World)(g:Nat)(v:Value):Prop:=w.heap[g]? =some (jC #[v] 60 (0,0))
theorem DJ.lt{w:World}{g:Nat}{v:Value}(h:DJ w g v):g<w.heap.size:=(Array.getElem?_eq_some_iff.1 h).1
theorem DJ.next{w w':World}{g:Nat}{v:Value}(h:DJ w g v)(a:Below w.heap.size w w'):DJ w' g v:=(a.block g h.lt).trans h
theorem DJ.kept{w w':World}{g:Nat}{v:Value}{row:Option Nat}(h:DJ w g v)(a:w.grownBy w' row)(b:some g≠row):DJ w' g v:=(a.block g h.lt b).trans h
theorem DJ.keep{w:World}{g:Nat}{v:Value}(h:DJ w g v):w.cell? ⟨g,0,none⟩=some v/\w.frozen? ⟨g,0,none⟩=false:=by
 unfold DJ at h;refine⟨?_,?_⟩<;>simp[World.cell?,World.frozen?,h]
theorem DJ.set{w:World}{g:Nat}{v:Value}(h:DJ w g v)(u:Value):DJ (w.setCell ⟨g,0,none⟩ u) g u:=by
 unfold DJ at*;simp[qK,h,Array.getElem?_modify]
structure Gr2 (w w':World) (b:Nat) (o:Option Nat):Prop where
 os:w'.os=w.os
 tape:w'.tape=w.tape
 output:w'.output=w.output
 size:w.heap.size<=w'.heap.size
 block:∀k,k<w.heap.size->k≠b->o≠some k->w'.heap[k]? =w.heap[k]?
theorem Gr2.of{w w':World}{b:Nat}{o:Option Nat}(h:Below w.heap.size w w'):Gr2 w w' b o:=⟨h.os,h.tape,h.output,h.size,fun k a _ _=>h.block k a⟩
theorem Gr2.trans{w w1 g:World}{b:Nat}{o a:Option Nat}(h:Gr2 w w1 b o)(k:Gr2 w1 g b a)(ho:a=o\/∀k,a=some k->w.heap.size<=k):Gr2 w g b o:=
 ⟨k.os.trans h.os,k.tape.trans h.tape,k.output.trans h.output,zJ h.size k.size,fun j c d f=>(k.block j (zT c h.size) d (fun e=>by
  rcases ho with rfl|ho
  ·exact f e
  ·have:=ho j e;omega)).trans (h.block j c d f)⟩
theorem Gr2.grown{w w1 g:World}{b:Nat}{o row:Option Nat}(h:Gr2 w w1 b o)(a:w1.grownBy g row)(i:∀k,row=some k->k=b\/o=some k\/w.heap.size<=k):Gr2 w g b o:=
 ⟨a.os.trans h.os,a.tape.trans h.tape,a.output.trans h.output,zJ h.size a.size,fun j c d f=>(a.block j (zT c h.size) (fun e=>by
  rcases i j e.symm with h4|h4|h4
  ·exact d h4
  ·exact f h4
  ·omega)).trans (h.block j c d f)⟩
structure MgRel (w:World) (B b:Nat) (o:Option Nat) (w':World) (v':Value) (R':List Blk):Prop where
 box:DJ w' b v'
 own:RC w' B v' R'.reverse
 gr:Gr2 w w' b o
 ob:v'.ownBlock=o\/∀k,v'.ownBlock=some k->w.heap.size<=k
theorem s9{w:World}{r g off cap:Nat}{p:Value}{l m:List Blk}(k:RC w r p l)(s:0<l.length)(B:l.length<=1000000000)(D:m.length<=1000000000)
  (t:∀j,j<m.length->∀i v,(fW m[j]!)[i]? =some v->w.cell? ⟨g,off+j*3+i,none⟩=some v):
  Calls zB 19 #[p,.slice (some ⟨g,off,none⟩) m.length cap] w (GP (.bool (decide (l=m))) w):=by
 rcases k.form with⟨rfl,rfl⟩|⟨h,a,rfl,z,A⟩
 ·simp at s
 ·have b:∀j,j<l.length->∀i v,(fW l[j]!)[i]? =some v->w.cell? ⟨h,0+j*3+i,none⟩=some v:=by
   intro j o i v d;obtain⟨u,f,c,_,_,b⟩:=k.at_ (List.getElem?_eq_getElem o);cases c;have hi:i<3:=by have:=(List.getElem?_eq_some_iff.1 d).1;exact this
   have:=b i hi;rw[Nat.zero_add];rw[show l[j]! =l[j] by simp[o]]at d;exact this.trans d
  have c:=AnyQ.slices_Equal Tryz.eqCell 3 Tryz.isAgg63 Tryz.sizeOf63 fW (fun _=>rfl) (fun x y=>decide (x=y)) aBI h 0 l.length a g off m.length cap l m w (zC _) (zC _) (by omega) (by omega) b t;refine Calls.mono (show Calls zB 19 _ _ _ from c) ?_;rintro e E ⟨n,q,rfl⟩;rw[qX,qX,DN]at n;exact⟨n,Below.drewN w q⟩
theorem bT.take{α:Type}{E:Elem α}{e:TypeId}{w:World}{B g cap:Nat}{l m:List α}(h:bT E e w B (.slice (some ⟨g,0,none⟩) (l++m).length cap) (l++m)):bT E e w B (.slice (some ⟨g,0,none⟩) l.length cap) l:=by
 rcases h.2 with⟨b,_⟩|⟨q,i,a,b,n,o,f,c,d,p⟩
 ·cases b
 cases b;refine⟨by rw[eW],.inr ⟨g,cap,a,rfl,n,o,by rw[zU]at f;omega,c,d,?_⟩⟩;have j:=congrArg (List.take (l.length*E.k)) p;rw[mH,List.take_take,zU,Nat.add_mul,Nat.min_eq_left (by omega)]at j;rw[j,List.take_left' (eW E l)]
theorem fV{b:Blk}{i:Nat}(hi:i<4)(h:b.n<2*4^b.l):(b.kid i).n<2*4^(b.kid i).l:=by
 show 4*b.n+i<2*4^(b.l+1);rw[yT];omega
theorem QG{b:Blk}(h:¬b.l=0)(a:b.n<2*4^b.l):b.n/4<2*4^(b.l-1):=by
 obtain⟨l,n⟩:=b;cases l with
 |zero=>exact absurd rfl h
 |succ l=>
  dsimp only at*;rw[yT]at a;show n/4<2*4^(l+1-1);rw[Nat.add_sub_cancel];omega
theorem Qm(d c b a:Blk)(R:List Blk)(h:¬a.l=0):fD (d::c::b::a::R)=if [(⟨a.l-1,a.n/4⟩:Blk).kid 0,(⟨a.l-1,a.n/4⟩:Blk).kid 1,(⟨a.l-1,a.n/4⟩:Blk).kid 2,(⟨a.l-1,a.n/4⟩:Blk).kid 3]=[a,b,c,d] then some (⟨a.l-1,a.n/4⟩::R) else none:=by
 simp only[fD];by_cases q:[(⟨a.l-1,a.n/4⟩:Blk).kid 0,(⟨a.l-1,a.n/4⟩:Blk).kid 1,(⟨a.l-1,a.n/4⟩:Blk).kid 2,(⟨a.l-1,a.n/4⟩:Blk).kid 3]=[a,b,c,d]
 ·rw[if_pos q];simp only[List.cons.injEq,and_true]at q;obtain⟨e,f,g,i⟩:=q;rw[if_pos ⟨by omega,e.symm,f.symm,g.symm,i.symm⟩]
 ·rw[if_neg q];refine if_neg fun p=>q ?_;obtain⟨_,e,f,g,i⟩:=p;rw[<-e,<-f,<-g,<-i]
theorem rJ{α:Type}{E:Elem α}{ops:Array Oper}{o:Oper}{a:Act}{K:Act->World->Prop}{Q:Exit->Act->World->Prop}{Ex:Prop}{w:World}(f:World)(d:Below f.heap.size f w)(q:o.guard=none)(s x:Operand)(t:TypeId)
  (J:o.op=.call {callee:=.builtin .append,args:= #[s,x],argTypes:= #[t,t]})(e:TypeId)(z:Value)(b:Nat)(M:zB.underlying t=some (.slice e))(hi:(zB.info? e).map (fun i=>(i.zero,i.size,i.bytes))=some (some z,E.k,b))
  (r:z.cells.size=E.k)(I:0<E.k)(n:b<=100)(B:Nat)(v:Value)(l:List α)(L:a.eval s=v)(m:bT E e f B v l)(g:Nat)(y:α)(cs:Array Value)(c:Nat)(N:a.eval x=.slice (some ⟨g,0,none⟩) 1 c)
  (H:∃O u,w.heap[g]? =some (jC cs O u))(p:E.enc y=cs.toList)(j:l.length<=1000000000)(G:B<=f.heap.size)
  (h:∀g cap w',Below f.heap.size f w->bT E e w' B (.slice (some ⟨g,0,none⟩) (l.length+1) cap) (l++[y])->w.grownBy w' v.ownBlock->(v.ownBlock=some g\/f.heap.size<=g)->K (a.put o.dst (.slice (some ⟨g,0,none⟩) (l.length+1) cap)) w'):
  if Region.wanted o (yielded ops a.tmps)=true then Oper.wp zB o a w K Q else Ex:=by
 refine NK q s x t J e z b M hi r I n B v l L (m.next d) g y cs c N H p j (zJ G d.size) ?_;intro g cap w' A D h3 R;refine h g cap w' d A D ?_;rcases h3 with h3|h3
 ·exact .inl h3
 ·exact .inr (by rw[h3];exact d.size)
theorem Pw{w w':World}{row:Option Nat}{a b:Nat}{V x y z:Value}(h:w.cell? ⟨a,0,none⟩=some V/\w.cell? ⟨b,0,none⟩=some x/\w.cell? ⟨b,1,none⟩=some y/\w.cell? ⟨b,2,none⟩=some z)(c:w.grownBy w' row)(e:some a≠row)(d:some b≠row):
  w'.cell? ⟨a,0,none⟩=some V/\w'.cell? ⟨b,0,none⟩=some x/\w'.cell? ⟨b,1,none⟩=some y/\w'.cell? ⟨b,2,none⟩=some z:=
 ⟨(c.cell_far _ (World.block_lt_of_cell? w _ h.1) e).trans h.1,(c.cell_far _ (World.block_lt_of_cell? w _ h.2.1) d).trans h.2.1,(c.cell_far _ (World.block_lt_of_cell? w _ h.2.2.1) d).trans h.2.2.1,(c.cell_far _ (World.block_lt_of_cell? w _ h.2.2.2) d).trans h.2.2.2⟩
def sN(w:World)(B b:Nat)(o:Option Nat)(R:List Blk)(e:Ending)(w':World):Prop:=
 ∃v' R',e=.returned (.bool (fD R).isSome)/\(fD R).getD R=R'/\MgRel w B b o w' v' R'
theorem aAE{w t u y:World}{B b g f m a:Nat}{E:Value}{p:Blk}{R Q:List Blk}(l:DJ w b E)(i:Below w.heap.size w t)(c:Below t.heap.size t y)(n:y.grownBy u (some g))(D:RC u B (.slice (some ⟨f,0,none⟩) (m+1) a) (R.reverse++[p]))(j:some g=some f\/t.heap.size<=f)(x:g≠b)(r:fD Q=some (p::R)){o:Option Nat}(s:o=some g):
  sN w B b o Q (.returned (.bool true)) (u.setCell ⟨b,0,none⟩ (.slice (some ⟨f,0,none⟩) (m+1) a)):=by
 have A:=l.lt;have z:=i.size;have v:f≠b:=by
  rcases j with h|h
  ·exact fun e=>x ((zL.inj h).trans e)
  ·omega
 have d:=gM u ⟨b,0,none⟩ (.slice (some ⟨f,0,none⟩) (m+1) a);refine⟨_,p::R,by rw[r];rfl,by rw[r];rfl,⟨(((l.next i).next c).kept n (by simp;omega)).set _,?_,?_,?_⟩⟩
 ·rw[qY];exact D.kept d (.inr (by simp[Value.ownBlock];exact v))
 ·exact((Gr2.of (i.trans (c.mono z))).grown n (fun k q=>.inr (.inl (by rw[s];exact q)))).grown d (fun k q=>.inl (zL.inj q).symm)
 ·rcases j with h|h
  ·exact .inl (by rw[s,h];rfl)
  ·exact .inr fun k q=>by have:f=k:=zL.inj q;omega
theorem uN{w w':World}{B b:Nat}{v:Value}{R:List Blk}(a:fD R=none)(c:DJ w b v)(d:RC w B v R.reverse)(h:Below w.heap.size w w'):sN w B b v.ownBlock R (.returned (.bool false)) w':=
 ⟨v,R,by rw[a];rfl,by rw[a];rfl,c.next h,d.next h,Gr2.of h,.inl rfl⟩
theorem PZ(hc:CelH){R:List Blk}(hk:DH R)(hn:R.length<=100000){w:World}{b B:Nat}{v:Value}(s:DJ w b v)(r:RC w B v R.reverse)(I:v.ownBlock≠some b)(hB:B<=w.heap.size):
  Calls zB 131 #[.pointer (some ⟨b,0,none⟩)] w (sN w B b v.ownBlock R):=by
 have e3:=zA (zD w.heap.size w);rcases R with _|⟨k3,_|⟨k2,_|⟨k1,_|⟨f,R⟩⟩⟩⟩
 ·have N:=zA (uN (w':=w) rfl s r (zD _ _));obtain⟨A,c,rfl⟩:=r.slice;obtain⟨d0,d1⟩:=s.keep;clear r hc hk s I;go_enter Tryz.func131,Tryz.ntmps131;go_wp2_with fail
  go_ret;exact N.out
 ·have N:=zA (uN (w':=w) rfl s r (zD _ _));obtain⟨A,c,rfl⟩:=r.slice;obtain⟨d0,d1⟩:=s.keep;clear r hc hk s I;go_enter Tryz.func131,Tryz.ntmps131;go_wp2_with fail
  go_ret;exact N.out
 ·have N:=zA (uN (w':=w) rfl s r (zD _ _));obtain⟨A,c,rfl⟩:=r.slice;obtain⟨d0,d1⟩:=s.keep;clear r hc hk s I;go_enter Tryz.func131,Tryz.ntmps131;go_wp2_with fail
  go_ret;exact N.out
 ·have N:=zA (uN (w':=w) rfl s r (zD _ _));obtain⟨A,c,rfl⟩:=r.slice;obtain⟨d0,d1⟩:=s.keep;clear r hc hk s I;go_enter Tryz.func131,Tryz.ntmps131;go_wp2_with fail
  go_ret;exact N.out
 ·have a5:(k3::k2::k1::f::R).reverse=R.reverse++[f,k1,k2,k3]:=by simp
  obtain⟨h5,b3⟩:=hk f (by simp);have O:=zA r;have M:=zA s;have e7:=zA I;have e5:=zA hB;rw[a5]at r;rcases r.form with⟨_,h0⟩|⟨g,q,rfl,i7,hg⟩
  ·simp at h0
  obtain⟨m,hm⟩:∃m,m=R.reverse.length:=⟨_,rfl⟩;have d5:(R.reverse++[f,k1,k2,k3]).length=m+4:=by rw[hm];simp
  have d:∀(j:Nat) (x:Blk),[f,k1,k2,k3][j]? =some x->∀i u,(fW x)[i]? =some u->w.cell? ⟨g,m*3+j*3+i,none⟩=some u:=by
   intro j x hx i u hu;obtain⟨g',c7,hh,_,_,f6⟩:=r.at_ (i:=m+j) (x:=x) (by rw[hm,List.getElem?_append_right (by omega),Nat.add_sub_cancel_left];exact hx);cases hh;have hi:i<3:=by have:=(List.getElem?_eq_some_iff.1 hu).1;exact this
   have:=f6 i hi;change w.cell? ⟨g,(m+j)*3+i,none⟩=(fW x)[i]? at this;rw[show(m+j)*3+i=m*3+j*3+i by omega]at this;exact this.trans hu
  have t:=bT.take r;rw[d5]at r s ⊢;have b5:=zA s;rw[<-hm]at t;have g6:m+4<=q:=by
   rcases r.2 with⟨h',_⟩|⟨g',c7,i5,h',_,_,h2,_⟩
   ·cases h'
   ·injection h' with _ _ j0;omega
  have a0:=zA d;have Q:=zA t;have c3:=zA hg;obtain⟨X,Y,Z,a,hX,hY,hZ,x0,x1,y0,y1,z0,z1⟩:=uG h5 b3;have c0:w.cell? ⟨g,m*3,none⟩=some (jI jJ X):=by have:=d 0 f rfl 0 _ (by rw[a];rfl);simpa using this
  have c1:w.cell? ⟨g,m*3+1,none⟩=some (jI jJ Y):=by have:=d 0 f rfl 1 _ (by rw[a];rfl);simpa using this
  have c2:w.cell? ⟨g,m*3+2,none⟩=some (jI jJ Z):=by have:=d 0 f rfl 2 _ (by rw[a];rfl);simpa using this
  have hp:=aAN hc.cva h5 b3;have U:dD f=jA #[jI jJ X,jI jJ Y,jI jJ Z]:=by unfold dD;rw[a]
  rw[U]at hp;have HP:=zA hp;have j1:m<=100000:=by simp only[zM]at hn;rw[hm,zS];omega
  have j3:m<q:=by omega
  obtain⟨d0,d1⟩:=s.keep;have k4:¬q=m:=by omega
  have k6:i64.wrap ((m:Int)+4-4)=(m:Int):=by rw[cN (by omega)];omega
  have j4:(m:Int)+4>=4:=by omega
  have i2:=zA hX;have i3:=zA hY;have i4:=zA hZ;have i1:=zA a;have HM:=zA hm;have HK:=zA hk;clear hp U a d t r s I hB a5 d5 hm hk hX hY hZ;go_enter Tryz.func131,Tryz.ntmps131;go_wp2_with fail
  refine(HP.out _).mono ?_;rintro e w1 ⟨rfl,c9⟩;have G:=zA c9;clear c9 HP e3 c0 c1 c2;by_cases hl:f.l=0
  ·have k:fD (k3::k2::k1::f::R)=none:=by
    simp only[fD];exact if_neg fun p=>by omega
   have N:=zA (fun J (h:Below w.heap.size w J)=>uN k M.out O.out h);have V:Zl f=jA #[jI jJ 0,jI jJ 0,jI jJ 0]:=if_pos hl;rw[V,if_pos hl];have H:=zA (G.out.trans ((Below.new (w:=w1) (jC #[jI jJ 0,jI jJ 0,jI jJ 0] 63)).mono G.out.size));clear V k a0 Q M O HK;go_wp2_with fail
   go_ret;exact N.out _ H.out
  ·have V:Zl f=dD ⟨f.l-1,f.n/4⟩:=if_neg hl;have d8:(⟨f.l-1,f.n/4⟩:Blk).l<=4:=by show f.l-1<=4;omega
   have d9:=QG hl b3;obtain⟨p,hp⟩:∃p:Blk,p=⟨f.l-1,f.n/4⟩:=⟨_,rfl⟩;have k:=Qm k3 k2 k1 f R hl;rw[V,if_neg hl];rw[<-hp]at d8 k ⊢;have a4:p.n<2*4^p.l:=by rw[hp];exact d9
   have b1:=RV hc.cva d8 a4;obtain⟨X',Y',Z',a,hX,hY,hZ,u0,u1,v0,v1,s0,s1⟩:=uG (by omega) a4;have U:dD p=jA #[jI jJ X',jI jJ Y',jI jJ Z']:=by unfold dD;rw[a]
   rw[U]at b1 ⊢;have b6:=zA b1;have a6:=zA k;have e8:=zA a;clear V d9 b1 U a k hX hY hZ hp;have H:=zA (G.out.trans ((Below.new (w:=w1) (jC #[jI jJ X',jI jJ Y',jI jJ Z'] 63)).mono G.out.size));have a2:=zA (B3.new w1 63 X' Y' Z');obtain⟨W,hW⟩:∃W,W=w1.alloc (jC #[jI jJ X',jI jJ Y',jI jJ Z'] 63):=⟨_,rfl⟩;rw[<-hW]at H a2;obtain⟨e0,e1,e2⟩:=a2.out.keep;have k5:=G.out.size;go_upto_region 8 with fail
   rw[<-hW];clear hW;go_wp2_with fail
   refine(b6.out _).mono ?_;rintro e w2 ⟨v2,rfl,b4,a9⟩;have K:=zA (H.out.trans (a9.mono H.out.size));have c6:=zA (a2.out.next a9);have g2:=(Q.out.next K.out);have b8:=zA (s9 (off:=m*3) (cap:=q-m) b4 (by simp) (by simp) (m:=[f,k1,k2,k3]) (by simp) (fun j hj i u hu=>by
    have h1:=a0.out j _ (List.getElem?_eq_getElem hj) i u (by rw[getElem!_pos [f,k1,k2,k3] j hj]at hu;exact hu);exact(K.out.cell (by exact c3.out)).trans h1))
   obtain⟨A2,c2,rfl⟩:=b4.slice;clear a9 b4 H a2 b6 g2 e0 e1 e2;go_wp2_with fail
   refine b8.out.mono ?_;rintro e D ⟨rfl,b0⟩;have L:=zA (K.out.trans (b0.mono K.out.size));have a7:=zA (c6.out.next b0);clear b0 K c6 b8;by_cases hq:[p.kid 0,p.kid 1,p.kid 2,p.kid 3]=[f,k1,k2,k3]
   ·have k:fD (k3::k2::k1::f::R)=some (p::R):=by rw[a6.out,if_pos hq]
    have c4:=zA k;have b2:g≠b:=fun e=>e7.out (by rw[e];rfl);have g9:w1.heap.size<D.heap.size:=a7.out.lt;have y:=zA (b5.out.next L.out);have c5:=zA (Q.out.next L.out);obtain⟨d0,d1⟩:=y.out.keep;obtain⟨e0,e1,e2⟩:=a7.out.keep;have i6:(0:Int)<=(m:Int):=by omega
    have j2:(m:Int)<=(q:Int):=by omega
    have g8:m<=q:=by omega
    have f5:¬q=0:=by omega
    have i0:i64.wrap (m:Int)=(m:Int):=cN (by omega);have a1:=zA (show ∀J,Below D.heap.size D J->J.cell? ⟨b,0,none⟩=some (.slice (some ⟨g,0,none⟩) (m+4) q)/\J.cell? ⟨w1.heap.size,0,none⟩=some (jI jJ X')/\J.cell? ⟨w1.heap.size,1,none⟩=some (jI jJ Y')/\J.cell? ⟨w1.heap.size,2,none⟩=some (jI jJ Z')from fun J h=>by
     obtain⟨f0,f1,f2⟩:=(a7.out.next h).keep;exact⟨(y.out.next h).keep.1,f0,f1,f2⟩)
    have b7:=zA (show AH.enc p=(#[jI jJ X',jI jJ Y',jI jJ Z']:Array Value).toList from e8.out);have e6:=zA (show R.reverse.length<=1000000000 by rw[<-HM.out];omega);have e4:=zA (show B<=D.heap.size by have:=e5.out;have:=L.out.size;omega);rw[decide_eq_true hq];clear k hq a0 Q O HK a6 d0 d1 e0 e1 e2;go_upto_region 11 with fail
    obtain⟨d0,e0,e1,e2⟩:=a1.out D (zD _ _);have g7:=y.out.keep.2;have d6:=aiQ D _ d0;have d7:=aiQ D _ e0;have f8:=aiQ D _ e1;have f9:=aiQ D _ e2;have g0:¬b=D.heap.size:=fun e=>d6 e.symm;have g1:¬w1.heap.size=D.heap.size:=fun e=>d7 e.symm;have f3:=(a1.out (D.drew.alloc (jC #[jI jJ X',jI jJ Y',jI jJ Z'] 63)) ((zD _ _).drew.alloc (zC _) _)).1;have f4:=(a1.out (D.alloc (jC #[jI jJ X',jI jJ Y',jI jJ Z'] 63)) (Below.new _)).1;go_region_law (first
      |(refine rJ (E:=AH) D (by (repeat' first|(with_reducible exact zD _ _)|(with_reducible refine Below.drew ?_)|(with_reducible refine Below.alloc ?_ ?_ _)|exact zC _)) (by rfl) _ _ _ (by rfl) 63 (jA #[jI jJ 0,jI jJ 0,jI jJ 0]) 24 Tryz.underlying60 gW (by rfl) (by decide) (by omega) B (.slice (some ⟨g,0,none⟩) m q) R.reverse (by rfl) c5.out _ p #[jI jJ X',jI jJ Y',jI jJ Z'] 1 (by rfl) ⟨_,_,heap_alloc_new _ _⟩ b7.out e6.out e4.out ?_;intro g3 g5 w4 z ho a3 c8;have g4:=(Pw (a1.out _ z) a3 (fun e=>by have h:b=g:=zL.inj e;exact b2 h.symm) (fun e=>by have h:w1.heap.size=g:=zL.inj e;have:=c3.out;have:=G.out.size;omega));obtain⟨e9,_,_,_⟩:=g4;have f7:=((y.out.next z).kept a3 (fun e=>by have h:b=g:=zL.inj e;exact b2 h.symm)).keep.2;rw[zS]at ho;have b9:=zA (aAE M.out L.out z a3 ho c8 b2 c4.out (o:=some g) rfl);clear z ho a3 c8)
      |fail)
    all_goals (
     clear e9 f7 f3 f4 d6 d7 f8 f9 g0 g1;go_wp2_with fail
     go_ret;exact b9.out)
   ·have k:fD (k3::k2::k1::f::R)=none:=by rw[a6.out,if_neg hq]
    have N:=zA (uN k M.out O.out L.out);rw[decide_eq_false hq];clear k hq a0 Q M O HK;go_wp2_with fail
    go_ret;exact N.out
end
section
open Go.RowKit Rg
attribute [local go_sem] Oper.semAt_some
theorem uO{R a:List Blk}(h:fD R=some a):a.length+3=R.length:=by
 unfold fD at h;split at h
 ·split at h
  ·rw[<-zL.inj h];simp
  ·cases h
 ·cases h
theorem pV:∀(k:Nat) (R:List Blk),R.length<=k->eF k R=eF R.length R
 | 0,R,h=>by rw[Nat.le_zero.1 h]
 |k+1,R,h=>by
  cases hR:R.length with
  |zero=>
   have:R=[]:=List.eq_nil_of_length_eq_zero hR;subst this;show(match fD []with|some a=>eF k a|none=>[])=_;rfl
  |succ n=>
   show(match fD R with|some a=>eF k a|none=>R)=(match fD R with|some a=>eF n a|none=>R);cases b:fD R with
   |none=>rfl
   |some a=>
    have:=uO b;show eF k a=eF n a;rw[pV k a (by omega),pV n a (by omega)]
 termination_by k _=>k
 decreasing_by all_goals omega
theorem EJ{R a:List Blk}(h:fD R=some a)(b:DH R):DH a:=by
 unfold fD at h;split at h
 ·rename_i j i g c S;split at h
  ·rename_i q;obtain⟨f,e⟩:=b c (by simp);rw[<-zL.inj h];intro d hd;rcases zI.1 hd with rfl|hd
   ·exact⟨by show c.l-1<=5;omega,QG (by omega) e⟩
   ·exact b d (by simp[hd])
  ·cases h
 ·cases h
theorem QC:∀(k:Nat) (R:List Blk),DH R->DH (eF k R)
 | 0,R,h=>h
 |k+1,R,h=>by
  unfold eF;split
  ·rename_i a hR;exact QC k a (EJ hR h)
  ·exact h
theorem QA:∀(k:Nat) (R:List Blk),(eF k R).length<=R.length
 | 0,_=>zC _
 |k+1,R=>by
  unfold eF;split
  ·rename_i a hR;have:=QA k a;have:=uO hR;omega
  ·exact zC _
theorem ZL{R:List Blk}{b:Blk}(h:DH R)(a:b.l<=5/\b.n<2*4^b.l):DH (push R b):=QC _ _ fun d hd=>by
 rcases zI.1 hd with rfl|hd
 ·exact a
 ·exact h d hd
theorem Zp(R:List Blk)(b:Blk):(push R b).length<=R.length+1:=QA _ _
theorem Gr2.below{w0 w w':World}{b:Nat}{o:Option Nat}(h:Gr2 w w' b o)(a:Below w0.heap.size w0 w)(f:w0.heap.size<=b)(d:∀k,o=some k->w0.heap.size<=k):Below w0.heap.size w0 w':=
 ⟨h.os.trans a.os,h.tape.trans a.tape,h.output.trans a.output,zJ a.size h.size,fun k c=>(h.block k (zT c a.size) (by omega) (fun e=>by have:=d k e;omega)).trans (a.block k c)⟩
structure PuRel (w:World) (b4:Nat) (A:List Blk) (wr:World) (v:Value) (R:List Blk):Prop where
 box:DJ wr b4 v
 own:RC wr (b4+1) v R.reverse
 all:eF R.length R=A
 okc:DH R
 few:R.length<=100000
 bel:Below w.heap.size w wr
 low:w.heap.size<=b4
theorem aAS{w wr w':World}{j:Nat}{A R:List Blk}{v:Value}{e:Ending}(h:PuRel w j A wr v R)(s:sN wr (j+1) j v.ownBlock R e w'):
  (e=.returned (.bool true)/\∃g i,PuRel w j A w' g i/\i.length<R.length)\/(e=.returned (.bool false)/\R=A/\∃g,PuRel w j A w' g A):=by
 obtain⟨g,i,m,hR,o,p,q,t⟩:=s;have n:=h.low;have c:=q.below h.bel n (fun k r=>by have:=(h.own.lt k r).1;omega);cases f:fD R with
 |some S=>
  rw[f]at m hR;have d:S=i:=hR;subst d;have:=uO f;have u:=h.few;refine .inl ⟨m,g,S,⟨o,p,?_,EJ f h.okc,by omega,c,n⟩,by omega⟩;have b:=h.all;rw[show R.length=(R.length-1)+1 by omega]at b;unfold eF at b;rw[f]at b;dsimp only at b;rw[pV _ S (by omega)]at b;exact b
 |none=>
  rw[f]at m hR;have d:R=i:=hR;subst d;have l:R=A:=by
   have b:=h.all;rcases R with _|⟨a,R⟩
   ·exact b
   ·rw[zM]at b;unfold eF at b;rw[f]at b;exact b
  refine .inr ⟨m,l,g,?_⟩;rw[<-l];exact⟨o,p,by rw[l];have:=h.all;rw[l]at this;exact this,h.okc,h.few,c,n⟩
theorem PuRel.meas{w wr:World}{a:Nat}{A:List Blk}{v:Value}{R:List Blk}(h:PuRel w a A wr v R):NI ((wr.cell? ⟨a,0,none⟩).getD (.slice none 0 0))=R.length:=by
 obtain⟨X,c,b⟩:=h.own.slice;rw[h.box.keep.1,b];show R.reverse.length=_;rw[zS]
theorem aAR(b:CelH){w wr:World}{a:Nat}{A R:List Blk}{v:Value}(h:PuRel w a A wr v R):Calls zB 131 #[.pointer (some ⟨a,0,none⟩)] wr (sN wr (a+1) a v.ownBlock R):=
 PZ b h.okc h.few h.box h.own (fun e=>by have:=(h.own.lt _ e).1;omega) h.box.lt
structure TkRel (w:World) (b4:Nat) (l:List Blk) (wr:World) (v:Value) (i:Nat) (R:List Blk):Prop where
 box:DJ wr b4 v
 own:RC wr (b4+1) v R.reverse
 all:AJ (l.drop i) R=AJ l []
 okc:DH R
 few:R.length<=i
 bel:Below w.heap.size w wr
 low:w.heap.size<=b4
def Cb(w:World)(l:List Blk)(e:Ending)(w':World):Prop:=
 (((AJ l []).length<=4000/\∃v,e=.returned (.tuple #[v,jI jJ 0])/\RC w' w.heap.size v (AJ l []).reverse)\/(4000<(AJ l []).length/\e=.returned (.tuple #[.slice none 0 0,jI jJ 4])))/\Below w.heap.size w w'
theorem Hu(hc:CelH){l:List Blk}(r:DH l)(hn:l.length<=100000)(w:World){v:Value}(h:RC w 0 v l):
  Calls zB 142 #[v] w (Cb w l):=by
 have HC:=zA hc;have HK:=zA r;obtain⟨A,c,rfl⟩:=h.slice;obtain⟨n,Z⟩:∃n,n=l.length:=⟨_,rfl⟩;rw[<-Z]at h hn ⊢;have HR:=zA h;have HN:=zA Z;have HX:=zA (show TkRel w w.heap.size l (w.alloc (jC #[.slice none 0 0] 60)) (.slice none 0 0) 0 []from⟨heap_alloc_new w _,bT.nil,rfl,(fun d hd=>by cases hd),zC _,Below.new _,zC _⟩);clear hc r h Z;go_enter Tryz.func142,Tryz.ntmps142;go_wp2_with fail
 go_loopw [9] (fun v9 wr=>∃i R v,i<=n/\v9=jI jJ (i:Int)/\TkRel w w.heap.size l wr v i R) (fun v9 _=>n-(intOf v9).toNat)
 case atStart=>exact⟨0,[],_,by omega,rfl,HX.out⟩
 case round=>
  clear HX;obtain⟨i,R,v,hi,rfl,q,f,p,D,c7,a,c8⟩:=hrel;by_cases X:i<n
  ·obtain⟨b,hb⟩:∃b,l[i]? =some b:=⟨_,List.getElem?_eq_getElem (by rw[<-HN.out];exact X)⟩;obtain⟨g,d5,hv,_,hg,x,y,z,U,c0,c1,c2⟩:=(HR.out.next a).cex hb;injection hv with hA hl b9;subst hA;clear hl b9;have b2:=zA (show l.drop i=b::l.drop (i+1) by
    rw[zZ (by rw[<-HN.out];exact X)];congr 1;exact(List.getElem?_eq_some_iff.1 hb).2)
   have b0:=zA (HK.out b (List.mem_of_getElem? hb));have b7:=zA U;have N:=Below.new (w:=wr) (jC #[jI jJ x,jI jJ y,jI jJ z] 63);have a1:=B3.new wr 63 x y z;have m:=q.next N;have u:=f.next N;have j:=a.trans (N.mono a.size);obtain⟨W,hW⟩:∃W,W=wr.alloc (jC #[jI jJ x,jI jJ y,jI jJ z] 63):=⟨_,rfl⟩;have b8:W.heap.size=wr.heap.size+1:=by rw[hW];simp
   go_upto_region 5 with fail
   rw[<-hW]at a1 m u j ⊢;clear hW N q f a c0 c1 c2 U hb;obtain⟨d0,d1⟩:=m.keep;obtain⟨e0,e1,e2⟩:=a1.keep;have O:=Below.new (w:=W) (jC #[jI jJ x,jI jJ y,jI jJ z] 63);have s:=zA (u.next O);have K:=zA (m.next O);have V:=zA (j.trans (O.mono j.size));obtain⟨L,hL⟩:∃L,L=R.reverse:=⟨_,rfl⟩;rw[<-hL]at s;have a4:=zA hL;obtain⟨Av,cv,rfl⟩:=s.out.slice;obtain⟨k,r⟩:∃k,k=L.length:=⟨_,rfl⟩;rw[<-r]at d0 s K;have c9:=zA r;have b4:=zA (show L.length<=1000000000 by rw[hL,zS];omega);have b6:=zA (show w.heap.size+1<=(W.alloc (jC #[jI jJ x,jI jJ y,jI jJ z] 63)).heap.size by have:=K.out.lt;omega);have a2:=zA p;have a6:=zA D;have Y:=heap_alloc_new W (jC #[jI jJ x,jI jJ y,jI jJ z] 63);rw[b8]at Y;have b5:=zA Y;clear Y;have b3:=zA (show AH.enc b=[jI jJ x,jI jJ y,jI jJ z]from b7.out);clear hL r O m u j p D a1;go_wp2_with (at_builtin;refine iW (E:=AH) rfl (.tmp 13) (.tmp 15) _ rfl 63 (jA #[jI jJ 0,jI jJ 0,jI jJ 0]) 24 Tryz.underlying60 gW rfl (by decide) (by omega) (w.heap.size+1) (.slice Av k cv) L rfl s.out (wr.heap.size+1) b 1 rfl ⟨_,_,by rw[b3.out];exact b5.out⟩ b4.out b6.out ?_)
   intro g2 H w2 B J a7 a9;have I:=K.out.kept J (fun e=>by have:=(s.out.lt _ e.symm).1;omega);obtain⟨f0,f1⟩:=I.keep;have c3:w.heap.size<g2:=(B.lt g2 rfl).1;have a5:=zA (show PuRel w w.heap.size (push R b) (w2.setCell ⟨w.heap.size,0,none⟩ (.slice (some ⟨g2,0,none⟩) (L.length+1) H)) (.slice (some ⟨g2,0,none⟩) (L.length+1) H) (b::R)from
    ⟨I.set _,by
     have hs:=gM w2 ⟨w.heap.size,0,none⟩ (.slice (some ⟨g2,0,none⟩) (L.length+1) H);have:=B.kept hs (.inr (fun e=>by have h:g2=w.heap.size:=zL.inj e;omega));rw[a4.out,<-qY]at this;rw[a4.out];exact this,by unfold push;rfl,fun d hd=>by
     rcases zI.1 hd with rfl|hd
     ·exact b0.out
     ·exact a6.out d hd,by simp only[zM];omega,(V.out.grown J V.out.size (fun k r=>by have:=(s.out.lt k r).1;omega)).setCell (zC _) _,zC _⟩)
   clear B J a7 a9 I c3 e0 e1 e2 d0 d1 s K V;go_wp2_with fail
   have a3:=zA (fun(G:World) (v2:Value) (Q:PuRel w w.heap.size (push R b) G v2 (push R b))=>(show TkRel w w.heap.size l G v2 (i+1) (push R b)from⟨Q.box,Q.own,by have:=a2.out;rw[b2.out]at this;exact this,Q.okc,by have:=Zp R b;omega,Q.bel,zC _⟩));clear f0 f1;go_loopw [] (fun G=>∃v2 R2,PuRel w w.heap.size (push R b) G v2 R2) (fun G=>NI ((G.cell? ⟨w.heap.size,0,none⟩).getD (.slice none 0 0)))
   case atStart=>exact⟨_,_,a5.out⟩
   case round=>
    clear a5;obtain⟨v2,R2,Q⟩:=hrel;have HP:=zA Q;have b1:=zA (aAR HC.out Q);clear Q;go_wp2_with fail
    refine b1.out.mono ?_;rintro e w5 a0;rcases aAS HP.out a0 with⟨rfl,v3,R3,h3,c6⟩|⟨rfl,_,v3,h3⟩
    ·have M:=zA h3;clear h3 a0;go_wp2_with fail
     refine⟨⟨_,_,M.out⟩,?_⟩;rw[M.out.meas,HP.out.meas];exact c6
    ·have M:=zA (a3.out _ _ h3);clear h3 a0;go_wp2_with fail
     refine⟨⟨i+1,_,_,X,by go_num,M.out⟩,?_⟩;simp only[intOf];omega
  ·have c4:i=n:=by omega
   subst c4;have t:R=AJ l []:=by
    rw[<-p,List.drop_eq_nil_of_le (by rw[<-HN.out];exact zC _)];rfl
   obtain⟨d0,d1⟩:=q.keep;have o:RC wr w.heap.size v R.reverse:=f.mono (by omega);obtain⟨Av,cv,rfl⟩:=f.slice;rw[t]at o d0;by_cases hq:(AJ l []).length<=4000
   ·have HF:=zA (show Cb w l (.returned (.tuple #[.slice Av (AJ l []).reverse.length cv,jI jJ 0])) wr from⟨.inl ⟨hq,_,rfl,o⟩,a⟩);obtain⟨k,r⟩:∃k,k=(AJ l []).reverse.length:=⟨_,rfl⟩;have c5:(k:Int)<=4000:=by rw[r,zS];omega
    rw[<-r]at d0 HF;clear r q f p D a t o hq;go_wp2_with fail
    go_ret2
    exact HF.out
   ·have HF:=zA (show Cb w l (.returned (.tuple #[.slice none 0 0,jI jJ 4])) wr from⟨.inr ⟨by omega,rfl⟩,a⟩);obtain⟨k,r⟩:∃k,k=(AJ l []).reverse.length:=⟨_,rfl⟩;have c5:¬(k:Int)<=4000:=by rw[r,zS];omega
    rw[<-r]at d0;clear r q f p D a t o hq;go_wp2_with fail
    go_ret2
    exact HF.out
end
section
open Go.RowKit Rg
attribute [local go_sem] Oper.semAt_some
def QV(q:Int×Int×Int×Int):Value:=jA #[jI jJ q.1,jI jJ q.2.1,jI jJ q.2.2.1,jI jJ q.2.2.2]
structure BoxH (p:Int×Int×Int×Int) (q:Blk->Int×Int×Int×Int) (meets inside:Blk->Bool):Prop where
 box:∀b:Blk,b.l<=5->b.n<2*4^b.l->∀w,Calls zB 128 #[dD b] w (GP (QV (q b)) w)
 meets:∀b:Blk,b.l<=5->b.n<2*4^b.l->∀w,Calls zB 129 #[QV p,QV (q b)] w (GP (.bool (meets b)) w)
 inside:∀b:Blk,b.l<=5->b.n<2*4^b.l->∀w,Calls zB 130 #[QV (q b),QV p] w (GP (.bool (inside b)) w)
theorem MgRel.trans{w w1 d:World}{B b:Nat}{o:Option Nat}{a c:Value}{R1 R2:List Blk}(h:MgRel w B b o w1 a R1)(k:MgRel w1 B b a.ownBlock d c R2):MgRel w B b o d c R2:=
 ⟨k.box,k.own,h.gr.trans k.gr h.ob,by
  rcases k.ob with h1|h1
  ·rw[h1];exact h.ob
  ·exact .inr fun j e=>zJ h.gr.size (h1 j e)⟩
structure PvRel (w:World) (bo:Nat) (o:Option Nat) (A:List Blk) (wr:World) (v:Value) (R:List Blk):Prop where
 mg:MgRel w (bo+1) bo o wr v R
 all:eF R.length R=A
 okc:DH R
 few:R.length<=100000
theorem aAV{w wr w':World}{j:Nat}{o:Option Nat}{A R:List Blk}{v:Value}{e:Ending}(h:PvRel w j o A wr v R)(r:sN wr (j+1) j v.ownBlock R e w'):
  (e=.returned (.bool true)/\∃g i,PvRel w j o A w' g i/\i.length<R.length)\/(e=.returned (.bool false)/\∃g,PvRel w j o A w' g A):=by
 obtain⟨g,i,k,hR,l⟩:=r;have d:=h.mg.trans l;cases f:fD R with
 |some S=>
  rw[f]at k hR;have c:S=i:=hR;subst c;have:=uO f;have s:=h.few;refine .inl ⟨k,g,S,⟨d,?_,EJ f h.okc,by omega⟩,by omega⟩;have b:=h.all;rw[show R.length=(R.length-1)+1 by omega]at b;unfold eF at b;rw[f]at b;dsimp only at b;rw[pV _ S (by omega)]at b;exact b
 |none=>
  rw[f]at k hR;have c:R=i:=hR;subst c;have q:R=A:=by
   have b:=h.all;rcases R with _|⟨a,R⟩
   ·exact b
   ·rw[zM]at b;unfold eF at b;rw[f]at b;exact b
  refine .inr ⟨k,g,?_⟩;have m:=h.all;have n:=h.okc;have p:=h.few;rw[q]at m n p d;exact⟨d,m,n,p⟩
theorem PvRel.far{w wr:World}{a:Nat}{o:Option Nat}{A R:List Blk}{v:Value}(h:PvRel w a o A wr v R):v.ownBlock≠some a:=fun e=>by
 have:=(h.mg.own.lt _ e).1;omega
theorem aAT(b:CelH){w wr:World}{a:Nat}{o:Option Nat}{A R:List Blk}{v:Value}(h:PvRel w a o A wr v R):Calls zB 131 #[.pointer (some ⟨a,0,none⟩)] wr (sN wr (a+1) a v.ownBlock R):=
 PZ b h.okc h.few h.mg.box h.mg.own h.far h.mg.box.lt
theorem PvRel.meas{w wr:World}{a:Nat}{o:Option Nat}{A R:List Blk}{v:Value}(h:PvRel w a o A wr v R):NI ((wr.cell? ⟨a,0,none⟩).getD (.slice none 0 0))=R.length:=by
 obtain⟨X,c,b⟩:=h.mg.own.slice;rw[h.mg.box.keep.1,b];show R.reverse.length=_;rw[zS]
structure CvEnv (W:World) (n0:Nat) (p:Int×Int×Int×Int) (X Y Z L:Int) (bo:Nat):Prop where
 b0:W.heap[n0]? =some (jC #[jI jJ p.1,jI jJ p.2.1,jI jJ p.2.2.1,jI jJ p.2.2.2] 33 (0,0))
 b1:W.heap[n0+ 1]? =some (jC #[jI jJ X,jI jJ Y,jI jJ Z] 63 (0,0))
 b2:W.heap[n0+2]? =some (jC #[jI jJ L] 3 (0,0))
 b3:W.heap[n0+3]? =some (jC #[.pointer (some ⟨bo,0,none⟩)] 144 (0,0))
theorem CvEnv.gr{W c:World}{a:Nat}{p:Int×Int×Int×Int}{X Y Z L:Int}{b:Nat}{o:Option Nat}(h:CvEnv W a p X Y Z L b)(g:Gr2 W c b o)(l:b<a)(i:∀k,o=some k->k<a\/a+4<=k):CvEnv c a p X Y Z L b:=by
 have f:∀j,j<4->∀d,W.heap[a+j]? =some d->c.heap[a+j]? =some d:=fun j m d h=>by
  rw[g.block (a+j) (Array.getElem?_eq_some_iff.1 h).1 (by omega) (fun e=>by have:=i _ e;omega)];exact h
 exact⟨f 0 (by omega) _ h.b0,f 1 (by omega) _ h.b1,f 2 (by omega) _ h.b2,f 3 (by omega) _ h.b3⟩
theorem CvEnv.next{W b:World}{a:Nat}{p:Int×Int×Int×Int}{X Y Z L:Int}{d:Nat}(h:CvEnv W a p X Y Z L d)(e:Below W.heap.size W b):CvEnv b a p X Y Z L d:=by
 have f:∀j c,W.heap[a+j]? =some c->b.heap[a+j]? =some c:=fun j c h=>by
  rw[e.block (a+j) (Array.getElem?_eq_some_iff.1 h).1];exact h
 exact⟨f 0 _ h.b0,f 1 _ h.b1,f 2 _ h.b2,f 3 _ h.b3⟩
theorem CvEnv.lt{W:World}{a:Nat}{p:Int×Int×Int×Int}{X Y Z L:Int}{b:Nat}(h:CvEnv W a p X Y Z L b):a+3<W.heap.size:=(Array.getElem?_eq_some_iff.1 h.b3).1
theorem CvEnv.keep{W:World}{a:Nat}{p:Int×Int×Int×Int}{X Y Z L:Int}{b:Nat}(h:CvEnv W a p X Y Z L b):
  (W.cell? ⟨a,0,none⟩=some (jI jJ p.1)/\W.cell? ⟨a,1,none⟩=some (jI jJ p.2.1)/\W.cell? ⟨a,2,none⟩=some (jI jJ p.2.2.1)/\W.cell? ⟨a,3,none⟩=some (jI jJ p.2.2.2))/\
  (W.cell? ⟨a+1,0,none⟩=some (jI jJ X)/\W.cell? ⟨a+1,1,none⟩=some (jI jJ Y)/\W.cell? ⟨a+1,2,none⟩=some (jI jJ Z))/\W.cell? ⟨a+2,0,none⟩=some (jI jJ L)/\W.cell? ⟨a+3,0,none⟩=some (.pointer (some ⟨b,0,none⟩)):=by
 obtain⟨c,d,e,f⟩:=h;refine⟨⟨?_,?_,?_,?_⟩,⟨?_,?_,?_⟩,?_,?_⟩<;>simp[World.cell?,c,d,e,f]
theorem CvEnv.new(w:World)(p:Int×Int×Int×Int)(X Y Z L:Int)(h:Nat)(W:World)(e:W=(((w.alloc (jC #[jI jJ p.1,jI jJ p.2.1,jI jJ p.2.2.1,jI jJ p.2.2.2] 33)).alloc (jC #[jI jJ X,jI jJ Y,jI jJ Z] 63)).alloc (jC #[jI jJ L] 3)).alloc (jC #[.pointer (some ⟨h,0,none⟩)] 144)):
  CvEnv W w.heap.size p X Y Z L h/\Below w.heap.size w W/\W.heap.size=w.heap.size+4:=by
 have q:=heap_alloc_new w (jC #[jI jJ p.1,jI jJ p.2.1,jI jJ p.2.2.1,jI jJ p.2.2.2] 33);obtain⟨b,c⟩:∃b,b=w.alloc (jC #[jI jJ p.1,jI jJ p.2.1,jI jJ p.2.2.1,jI jJ p.2.2.2] 33):=⟨_,rfl⟩;have s1:b.heap.size=w.heap.size+1:=by rw[c];simp
 have x:Below w.heap.size w b:=by rw[c];exact Below.new _
 rw[<-c]at q e;have j:=heap_alloc_new b (jC #[jI jJ X,jI jJ Y,jI jJ Z] 63);have c1:Below b.heap.size b (b.alloc (jC #[jI jJ X,jI jJ Y,jI jJ Z] 63)):=Below.new _;obtain⟨a,f⟩:∃a,a=b.alloc (jC #[jI jJ X,jI jJ Y,jI jJ Z] 63):=⟨_,rfl⟩;have s:a.heap.size=w.heap.size+2:=by rw[f];simp[s1]
 rw[<-f]at j e c1;have l:=heap_alloc_new a (jC #[jI jJ L] 3);have n:Below a.heap.size a (a.alloc (jC #[jI jJ L] 3)):=Below.new _;obtain⟨d,g⟩:∃d,d=a.alloc (jC #[jI jJ L] 3):=⟨_,rfl⟩;have t:d.heap.size=w.heap.size+3:=by rw[g];simp[s]
 rw[<-g]at l e n;have m:=heap_alloc_new d (jC #[.pointer (some ⟨h,0,none⟩)] 144);have i:Below d.heap.size d (d.alloc (jC #[.pointer (some ⟨h,0,none⟩)] 144)):=Below.new _;rw[<-e]at m i;have y:W.heap.size=w.heap.size+4:=by rw[e];simp[t]
 have r:∀(k:Nat) (o:Obj),k<a.heap.size->a.heap[k]? =some o->W.heap[k]? =some o:=fun k o u v=>(i.block k (by omega)).trans ((n.block k u).trans v);rw[s1]at j;rw[s]at l;rw[t]at m;refine⟨⟨r _ _ (by omega) ((c1.block _ (by omega)).trans q),r _ _ (by omega) j,(i.block _ (by omega)).trans l,m⟩,?_,y⟩;exact((x.trans (c1.mono (by omega))).trans (n.mono (by omega))).trans (i.mono (by omega))
theorem aAU{w wc G q:World}{c m a y:Nat}{v:Value}{R:List Blk}{b:Blk}{p:Int×Int×Int×Int}{X Y Z L:Int}(z:Below w.heap.size w wc)(s:DJ w c v)(g:Below wc.heap.size wc G)(o:G.grownBy q v.ownBlock)
  (M:RC q (c+1) (.slice (some ⟨m,0,none⟩) (R.length+1) a) (R.reverse++[b]))(r:v.ownBlock=some m\/wc.heap.size<=m)(f:DH R)(A:b.l<=5/\b.n<2*4^b.l)(N:R.length<=4064)(u:∀j,v.ownBlock=some j->j<w.heap.size/\c<j)(t:CvEnv wc y p X Y Z L c)(x:∀j,v.ownBlock=some j->j<y)(B:c<y):
  PvRel w c v.ownBlock (push R b) (q.setCell ⟨c,0,none⟩ (.slice (some ⟨m,0,none⟩) (R.length+1) a)) (.slice (some ⟨m,0,none⟩) (R.length+1) a) (b::R)/\
  CvEnv (q.setCell ⟨c,0,none⟩ (.slice (some ⟨m,0,none⟩) (R.length+1) a)) y p X Y Z L c:=by
 have K:=s.lt;have J:=z.size;have D:m≠c:=by
  rcases r with h|h
  ·have:=u m h;omega
  ·omega
 have i:=gM q ⟨c,0,none⟩ (.slice (some ⟨m,0,none⟩) (R.length+1) a);have E:some c≠v.ownBlock:=fun e=>by have:=u c e.symm;omega
 refine⟨⟨⟨(((s.next z).next g).kept o E).set _,?_,?_,?_⟩,by unfold push;rfl,?_,by simp only[zM];omega⟩,?_⟩
 ·rw[qY];exact M.kept i (.inr (by simp[Value.ownBlock];exact D))
 ·exact((Gr2.of (z.trans (g.mono J))).grown o (fun k f=>.inr (.inl f))).grown i (fun k f=>.inl (zL.inj f).symm)
 ·rcases r with h|h
  ·exact .inl (by rw[h];rfl)
  ·exact .inr fun k f=>by have:m=k:=zL.inj f;omega
 ·intro d hd;rcases zI.1 hd with rfl|hd
  ·exact A
  ·exact f d hd
 ·have H:Gr2 G q c v.ownBlock:=(Gr2.of (zD _ _)).grown o (fun k f=>.inr (.inl f));have I:=H.grown i (fun k f=>.inl (zL.inj f).symm);exact(t.next g).gr I B (fun k f=>.inl (x k f))
theorem aDG{w wr w':World}{a c:Nat}{o:Option Nat}{A R:List Blk}{v:Value}{e:Ending}{p:Int×Int×Int×Int}{X Y Z L:Int}(h:PvRel w a o A wr v R)(l:sN wr (a+1) a v.ownBlock R e w')(b:CvEnv wr c p X Y Z L a)(d:a<c)(i:∀j,o=some j->j<c)(m:c+4<=w.heap.size):CvEnv w' c p X Y Z L a:=by
 obtain⟨_,_,_,_,f⟩:=l;refine b.gr f.gr d fun k g=>?_;rcases h.mg.ob with h1|h1
 ·exact .inl (i k (by rw[<-h1];exact g))
 ·exact .inr (zJ m (h1 k g))
theorem Vm{wc n g:World}{a h:Nat}{v:Value}{p:Int×Int×Int×Int}{X Y Z L:Int}(i:DJ wc a v)(b:Below wc.heap.size wc n)(d:n.grownBy g v.ownBlock)(f:∀j,v.ownBlock=some j->j<h/\a<j)(c:CvEnv wc h p X Y Z L a)(s:a<h):
  g.cell? ⟨h+3,0,none⟩=some (.pointer (some ⟨a,0,none⟩))/\g.cell? ⟨a,0,none⟩=some v/\g.frozen? ⟨a,0,none⟩=false:=by
 have m:some a≠v.ownBlock:=fun e=>by have:=f a e.symm;omega
 have q:Gr2 n g a v.ownBlock:=(Gr2.of (zD _ _)).grown d (fun k l=>.inr (.inl l));have r:=((c.next b).gr q (by omega) (fun k l=>.inl (by have:=f k l;omega))).keep;have o:=((i.next b).kept d m).keep;exact⟨r.2.2.2,o.1,o.2⟩
end
end Go.Proofs.YtlbklncoihhfcaaGreatDoor
