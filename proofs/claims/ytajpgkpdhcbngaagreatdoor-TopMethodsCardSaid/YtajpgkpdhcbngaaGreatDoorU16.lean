/-
  Tables: interpolation by the declination holds the truth. No program here. Tables: the solution by tables holds the truth. No program here. Tables: lookup.Solve at single numbers holds the truth. No.
-/
import Derived.Test.YtajpgkpdhcbngaaGreatDoorU15
import Derived.Test.YtajpgkpdhcbngaaGreatDoorU6
set_option maxRecDepth 100000
set_option maxHeartbeats 4000000
open _root_.Int renaming emod_lt_of_pos→agQ,emod_nonneg→aiQ,le_refl→abJ
open _root_.Nat renaming le_trans→ahJ
open _root_.Rat renaming intCast_add→acQ,intCast_mul→acX,intCast_neg→afQ,intCast_sub→abZ,le_refl→ayJ,le_total→abX,mul_nonneg→aaQ
open Go.IntKind (i64 u64)
namespace Go.Proofs.YtajpgkpdhcbngaaGreatDoor
section
open SM TB TA
open Ev (lt bG)
theorem kcv_eq {a b c d:Int} (h1:0≤a) (h2:a<21600000) (h3:a≤b) (h4:b-a<21600000) (h5:0≤c) (h6:c<21600000) (h7:c≤d) (h8:d-c<21600000):
  DW a b c d=mx (b-a) ((c-a)%21600000+d-c):=by
 have m0:=aiQ (c-a) (show (21600000:Int)≠0 by omega);have m1:=agQ (c-a) (show (0:Int)<21600000 by omega);unfold DW jZ;rw [bR (x:=b-a) (by omega),bR (x:=c-a) (by omega),bR (x:=(c-a)%21600000+d) (by omega),bR (x:=(c-a)%21600000+d-c) (by omega)]
theorem zO {a b c d:Int} {e p q:Rat} (h1:0≤a) (h2:a<21600000) (h3:a≤b) (h4:b-a<21600000) (h5:0≤c) (h6:c<21600000) (h7:c≤d) (h8:d-c<21600000)
  (hp:Dr e a b p) (hq:Dr e c d q):0≤DW a b c d∧DW a b c d≤43200000∧∃k0 k1:Int,Hs e a (a+DW a b c d) (p+21600000*(k0:Rat))∧Hs e a (a+DW a b c d) (q+21600000*(k1:Rat)):=by
 have m0:=aiQ (c-a) (show (21600000:Int)≠0 by omega);have m1:=agQ (c-a) (show (0:Int)<21600000 by omega);have g:=OG (b-a) ((c-a)%21600000+d-c);have u:mx (b-a) ((c-a)%21600000+d-c)≤43200000:=by
  unfold mx;split<;>omega
 rw [kcv_eq h1 h2 h3 h4 h5 h6 h7 h8];obtain ⟨k0,hp⟩:=hp;obtain ⟨k1,hq⟩:=hq;have s:=GG (-((c-a)/21600000)) hq;have e1:c+21600000*-((c-a)/21600000)=a+(c-a)%21600000:=by omega
 have e2:d+21600000*-((c-a)/21600000)=a+(c-a)%21600000+(d-c):=by omega
 rw [e1,e2] at s;generalize mx (b-a) ((c-a)%21600000+d-c)=V at*;refine ⟨by omega,u,k0,k1+-((c-a)/21600000),hp.wide (ayJ) (abJ _) (by omega),?_⟩;rw [acQ];have e3:q+21600000*((k1:Rat)+((-((c-a)/21600000):Int):Rat))=q+21600000*(k1:Rat)+21600000*((-((c-a)/21600000):Int):Rat):=by grind
 rw [e3];exact s.wide (ayJ) (by omega) (by omega)
theorem kde_ok {a b c d e f u v w s1 s2 s3 s4:Int} (ba:-2000000000≤a∧a≤2000000000) (bb:-2000000000≤b∧b≤2000000000) (be:-2000000000≤e∧e≤2000000000) (bf:-2000000000≤f∧f≤2000000000)
  (hs:AZ a b c d e f u v w w=(s1,s2,s3,s4,0)):∃M:Int,a≥-(M-60000)∧b≤M-60000∧e≥-(M-60000)∧f≤M-60000∧M≤5100000∧(M-60000=b∨M-60000=-a∨M-60000=f∨M-60000=-e)∧
   (nB (aK M M).1 (aK M M).2.1 (aI M M).1 (aI M M).2.1 131).2.2=0∧
   (s1,s2)=EX a b e f w w (nB (aK M M).1 (aK M M).2.1 (aI M M).1 (aI M M).2.1 131).2.1∧
   ((s3,s4)=(0,21600000)∨(XZ c d=false∧XZ u v=false∧((DW u v c d<10800000∧(s3,s4)=BA u (i64.wrap (u+DW u v c d)))∨(DW c d u v<10800000∧(s3,s4)=BA c (i64.wrap (c+DW c d u v)))))):=by
 have hm:∃m,m=mx (mx (mx b (-a)) f) (-e)∧b≤m∧-a≤m∧f≤m∧-e≤m∧m≤2000000000∧(m=b∨m=-a∨m=f∨m=-e):=by
  refine ⟨_,rfl,?_⟩;unfold mx;split<;>split<;>split<;>omega
 obtain ⟨m,em,m1,m2,m3,m4,m5,m6⟩:=hm;have qM:i64.wrap (mx (mx (mx b (i64.wrap (0-a))) f) (i64.wrap (0-e))+60000)=m+60000:=by
  rw [bR (x:=0-a) (by omega),bR (x:=0-e) (by omega),show 0-a=-a by omega,show 0-e=-e by omega,←em,bR (by omega)]
 unfold AZ kdeK at hs;simp only [lt,LS] at hs;rw [qM] at hs;refine ⟨m+60000,by omega,by omega,by omega,by omega,?_⟩;by_cases hb:m+60000>5100000
 ·rw [decide_eq_true hb] at hs;simp at hs
 rw [decide_eq_false hb,cond_false] at hs;generalize nB (aK (m+60000) (m+60000)).1 (aK (m+60000) (m+60000)).2.1 (aI (m+60000) (m+60000)).1 (aI (m+60000) (m+60000)).2.1 131=Q at*;refine ⟨by omega,by omega,?_⟩;by_cases hq:Q.2.2=0
 case neg=>
  rw [bne_iff_ne.2 hq] at hs;simp at hs;exact absurd hs.2.2.2.2 hq
 refine ⟨hq,?_⟩;rw [hq] at hs;rw [show ((0:Int) != 0)=false by rfl,cond_false] at hs;generalize EX a b e f w w Q.2.1=K at*;have kr:kar=(0,21600000):=rfl;rw [kr] at hs;cases h1:XZ c d with
 | true=>
  rw [h1] at hs;simp only [cond_true,Prod.mk.injEq] at hs;obtain ⟨r1,r2,r3,r4,_⟩:=hs;exact ⟨Prod.ext r1.symm r2.symm,.inl (Prod.ext r3.symm r4.symm)⟩
 | false=>
  cases h2:XZ u v with
  | true=>
   rw [h1,h2] at hs;simp only [cond_true,cond_false,Prod.mk.injEq] at hs;obtain ⟨r1,r2,r3,r4,_⟩:=hs;exact ⟨Prod.ext r1.symm r2.symm,.inl (Prod.ext r3.symm r4.symm)⟩
  | false=>
   rw [h1,h2] at hs;simp only [cond_false] at hs;by_cases c1:DW u v c d<DW c d u v
   ·rw [decide_eq_true c1,cond_true] at hs;by_cases c2:DW u v c d<10800000
    ·rw [decide_eq_true c2] at hs;simp only [cond_true,Prod.mk.injEq] at hs;obtain ⟨r1,r2,r3,r4,_⟩:=hs;exact ⟨Prod.ext r1.symm r2.symm,.inr ⟨rfl,rfl,.inl ⟨c2,Prod.ext r3.symm r4.symm⟩⟩⟩
    ·rw [decide_eq_false c2] at hs;simp only [cond_false,Prod.mk.injEq] at hs;obtain ⟨r1,r2,r3,r4,_⟩:=hs;exact ⟨Prod.ext r1.symm r2.symm,.inl (Prod.ext r3.symm r4.symm)⟩
   ·rw [decide_eq_false c1,cond_false] at hs;by_cases c2:DW c d u v<10800000
    ·rw [decide_eq_true c2] at hs;simp only [cond_true,Prod.mk.injEq] at hs;obtain ⟨r1,r2,r3,r4,_⟩:=hs;exact ⟨Prod.ext r1.symm r2.symm,.inr ⟨rfl,rfl,.inr ⟨c2,Prod.ext r3.symm r4.symm⟩⟩⟩
    ·rw [decide_eq_false c2] at hs;simp only [cond_false,Prod.mk.injEq] at hs;obtain ⟨r1,r2,r3,r4,_⟩:=hs;exact ⟨Prod.ext r1.symm r2.symm,.inl (Prod.ext r3.symm r4.symm)⟩
theorem tan_by {M:Int} (h0:0≤M) (h1:M≤5100000) (hq:(nB (aK M M).1 (aK M M).2.1 (aI M M).1 (aI M M).2.1 131).2.2=0):
  131*si (M:Rat)≤(((nB (aK M M).1 (aK M M).2.1 (aI M M).1 (aI M M).2.1 131).2.1:Rat)+1/2^60)*co (M:Rat)∧1/20≤co (M:Rat)∧0≤(nB (aK M M).1 (aK M M).2.1 (aI M M).1 (aI M M).2.1 131).2.1∧(nB (aK M M).1 (aK M M).2.1 (aI M M).1 (aI M M).2.1 131).2.1≤4000:=by
 have ew:=qW_bd;have hv:aE M M=true:=aR (by omega) (by omega) (by omega);have a:=kG hv (Hs.at (abJ M) (abJ M));have b:=jI hv (Hs.at (abJ M) (abJ M));have m0:=aV h0;have m1:=aV h1;rw [show ((0:Int):Rat)=0 by rfl] at m0;rw [show ((5100000:Int):Rat)=5100000 by rfl] at m1;have hc:=uF (h:=(M:Rat)) (by grind) (by grind);have hs:=gG (q:=(M:Rat)) m0 (by grind);have q:=(quo_hs (n:=131) (by omega) (by omega) hq (a.2.2.wide ew.2.2.2.2 (abJ _) (abJ _)) (b.2.2.wide ew.2.2.2.2 (abJ _) (abJ _)) (by grind) ew.1 (by grind)).2;obtain ⟨_,_,q3,q4,q5⟩:=quo_ok hq;have cw:=qS hv;obtain ⟨k1,k2,k3,_⟩:=aW hv;obtain ⟨l1,l2,l3,_⟩:=aU hv;have cb:50000000≤(aI M M).1:=by
  have:50000001≤(aI M M).2.1:=vM (e:=1/2) (by
   have:=b.2.2;have e5:=ew.2.2.2.2;unfold Hs at this;rw [show ((50000001:Int):Rat)=50000001 by rfl];grind) (by grind)
  omega
 rw [show ((131:Int):Rat)=131 by rfl] at q;have up:(nB (aK M M).1 (aK M M).2.1 (aI M M).1 (aI M M).2.1 131).2.1≤4000:=by
  rw [q3];have fq:∀P d:Int,50000000≤d→P≤140660178944→ceQ P d≤4000:=fun P d h hP=>by
   unfold ceQ WO;rw [if_neg (by omega)];have:-4000≤(-P)/d:=Int.le_ediv_of_mul_le (by omega) (by omega);omega
  have g1:=fq ((aK M M).1*131) (aI M M).1 cb (by omega);have g2:=fq ((aK M M).1*131) (aI M M).2.1 (by omega) (by omega);have g3:=fq ((aK M M).2.1*131) (aI M M).1 cb (by omega);have g4:=fq ((aK M M).2.1*131) (aI M M).2.1 (by omega) (by omega);show CI (aK M M).1 (aK M M).2.1 (aI M M).1 (aI M M).2.1 131≤4000;unfold CI mx;split<;>split<;>split<;>split<;>omega
 generalize (nB (aK M M).1 (aK M M).2.1 (aI M M).1 (aI M M).2.1 131).2.1=Q at*;have main:131*si (M:Rat)≤((Q:Rat)+1/2^60)*co (M:Rat):=by
  have m:=aaQ (show 0≤co (M:Rat) by grind) (show 0≤1/2^60-2^20*qW by grind);have e1:co (M:Rat)*(1/2^60-2^20*qW)=1/2^60*co (M:Rat)-2^20*qW*co (M:Rat):=by grind
  rw [e1] at m;have q':131*(1073741824*si (M:Rat))≤1073741824*((Q:Rat)*co (M:Rat)+2^20*qW*co (M:Rat)):=by
   have e3:((Q:Rat)+2^20*qW)*(1073741824*co (M:Rat))=1073741824*((Q:Rat)*co (M:Rat)+2^20*qW*co (M:Rat)):=by grind
   rw [←e3];exact q
  have e2:((Q:Rat)+1/2^60)*co (M:Rat)=(Q:Rat)*co (M:Rat)+1/2^60*co (M:Rat):=by grind
  rw [e2];clear a b q3 q4 q5 up hv q e1 e2 hq cw k1 k2 k3 l1 l2 l3 cb;generalize (2:Rat)^20*qW*co (M:Rat)=w1 at*;generalize 1/2^60*co (M:Rat)=w2 at*;generalize (Q:Rat)*co (M:Rat)=w3 at*;grind
 refine ⟨main,hc,?_,up⟩;rcases Int.lt_or_le Q 0 with n | n
 ·exfalso;have:=aV (show Q≤-1 by omega);rw [show ((-1:Int):Rat)=-1 by rfl] at this;have m:=aaQ (show 0≤co (M:Rat) by grind) (show 0≤-1-(Q:Rat) by grind);grind
 ·exact n
theorem dec_hold {x t y w:Rat} {W a b c d e f u v s1 s2 s3 s4:Int} (qW:w=(W:Rat)) (w0:0≤W) (w1:W≤60000)
  (ba:-2000000000≤a∧a≤2000000000) (bb:-2000000000≤b∧b≤2000000000) (be:-2000000000≤e∧e≤2000000000) (bf:-2000000000≤f∧f≤2000000000)
  (hs:AZ a b c d e f u v W W=(s1,s2,s3,s4,0))
  (H0:-5040000≤a→b≤5040000→a≤b+1∧Fm4 c d∧∀h z:Rat,dE x y t h z→Hs (1/2^50) a b h∧Dr (1/2^50) c d z)
  (H1:-5040000≤e→f≤5040000→e≤f+1∧Fm4 u v∧∀h z:Rat,dE x (y+60000) t h z→Hs (1/2^50) e f h∧Dr (1/2^50) u v z):
  Fm4 s3 s4∧-10000000000≤s1∧s2≤10000000000∧∀h z:Rat,dE x (y+w) t h z→Hs (1/2^10) s1 s2 h∧Dr (1/2^40) s3 s4 z∧1/20≤co h:=by
 subst qW;have l:=xP;have ek:=gT;obtain ⟨M,g1,g2,g3,g4,g5,g6,g7,g8,g9⟩:=kde_ok ba bb be bf hs;obtain ⟨o0,F0,T0⟩:=H0 (by omega) (by omega);obtain ⟨o1,F1,T1⟩:=H1 (by omega) (by omega);obtain ⟨tb1,cM,tb2,tb3⟩:=tan_by (M:=M) (by omega) g5 g7;generalize (nB (aK M M).1 (aK M M).2.1 (aI M M).1 (aI M M).2.1 131).2.1=Q at*;have q0:=aV w0;have q1:=aV w1;rw [show ((0:Int):Rat)=0 by rfl] at q0;rw [show ((60000:Int):Rat)=60000 by rfl] at q1;obtain ⟨h0,z0,S0⟩:=vW x y t;obtain ⟨h1,z1,S1⟩:=vW x (y+60000) t;obtain ⟨U0,D0⟩:=T0 h0 z0 S0;obtain ⟨U1,D1⟩:=T1 h1 z1 S1;have c1:=aV g1;have c2:=aV g2;have c3:=aV g3;have c4:=aV g4;have c5:=aV g5;have c0:=aV (show 60000≤M by omega);rw [afQ,abZ] at c1 c3;rw [abZ] at c2 c4;rw [show ((60000:Int):Rat)=60000 by rfl] at c0 c1 c2 c3 c4;rw [show ((5100000:Int):Rat)=5100000 by rfl] at c5;obtain ⟨MR,eMR⟩:∃MR:Rat,MR=(M:Rat)-60000+1/2^50:=⟨_,rfl⟩;have bh:-MR≤h0∧h0≤MR∧-MR≤h1∧h1≤MR:=by
  unfold Hs at U0 U1;refine ⟨?_,?_,?_,?_⟩<;>grind
 have co0:=uF (h:=h0) (by grind) (by grind);have co1:=uF (h:=h1) (by grind) (by grind);have kv:=fun (f' B Z:Rat) (hB:B≤(Q:Rat)) (hZ:Cl (B+f') Z _)=>RX (u:=W) (by':=Q) (f:=f') (B:=B) (Z:=Z) (show B9 a by unfold B9;omega) (show B9 b by unfold B9;omega) (show B9 e by unfold B9;omega) (show B9 f by unfold B9;omega) w0 w1 U0 U1 tb2 (by omega) hB hZ;have kb:=(RV (u:=W) (show B9 a by unfold B9;omega) (show B9 b by unfold B9;omega) (show B9 e by unfold B9;omega) (show B9 f by unfold B9;omega) w0 w1 U0 U1).2;have Q0:=aV tb2;have Q1:=aV (show Q≤1099511627776 by omega);rw [show ((0:Int):Rat)=0 by rfl] at Q0;rw [show ((1099511627776:Int):Rat)=1099511627776 by rfl] at Q1;have kE:=(kv 0 0 _ Q0 (Cl.refl _ (by grind))).2;rw [kE] at g8;simp only [Prod.mk.injEq] at g8;refine ⟨?_,by omega,by omega,?_⟩
 ·rcases g9 with g9 | ⟨n1,n2,g9⟩
  ·simp only [Prod.mk.injEq] at g9;exact .inl g9
  ·rcases F0 with F0 | F0
   ·rw [F0.1,F0.2] at n1;cases n1
   rcases F1 with F1 | F1
   ·rw [F1.1,F1.2] at n2;cases n2
   rcases g9 with ⟨n3,g9⟩ | ⟨n3,g9⟩
   ·obtain ⟨v0,v1,_⟩:=zO F1.1 F1.2.1 F1.2.2.1 F1.2.2.2 F0.1 F0.2.1 F0.2.2.1 F0.2.2.2 D1 D0;rw [bR (by omega)] at g9;have e1:=congrArg Prod.fst g9;have e2:=congrArg Prod.snd g9;dsimp only at e1 e2;rw [e1,e2];exact AE (by omega) (by omega) (by omega)
   ·obtain ⟨v0,v1,_⟩:=zO F0.1 F0.2.1 F0.2.2.1 F0.2.2.2 F1.1 F1.2.1 F1.2.2.1 F1.2.2.2 D0 D1;rw [bR (by omega)] at g9;have e1:=congrArg Prod.fst g9;have e2:=congrArg Prod.snd g9;dsimp only at e1 e2;rw [e1,e2];exact AE (by omega) (by omega) (by omega)
 intro h z S;have dh:=QX S0 S (by grind);have coh:=uF (h:=h) (by grind) (by grind);refine ⟨?_,?_,coh⟩
 ·
  have dd:=dec_h S0 S1 S q0 q1 bh (by grind);have lp:=lip (p:=(M:Rat)) (q:=MR+60000) (by grind) (by grind);have ee:e0≤1/2^70:=by have:=dY;grind
  have b1:=lG (MR+60000);have hdev:Cl ((Q:Rat)+1/2^12) h (h0+(h1-h0)*(W:Rat)/60000):=by
   generalize h0+(h1-h0)*(W:Rat)/60000= ℓ at*;have cQ:=uF (h:=MR+60000) (by grind) (by grind);unfold Cl at lp ⊢;have sM:si (MR+60000)≤si (M:Rat)+1/2^60:=by grind
   have dC:co (M:Rat)≤co (MR+60000)+1/2^60:=by grind
   clear lp bh co0 co1 coh dh S S0 S1 U0 U1 D0 D1 T0 T1 kv b1;generalize co (MR+60000)=C at*;generalize si (MR+60000)=s at*;generalize co (M:Rat)=C0 at*;generalize si (M:Rat)=s0 at*;generalize h- ℓ=Y at*;have m1:=aaQ (show 0≤(Q:Rat)+1/2^60 by grind) (show 0≤C+1/2^60-C0 by grind);constructor
   ·rcases (abX:-((Q:Rat)+1/2^12)≤Y∨Y≤-((Q:Rat)+1/2^12)) with k | k
    ·exact k
    ·exfalso;have m2:=aaQ (show 0≤C by grind) (show 0≤-((Q:Rat)+1/2^12)-Y by grind);grind
   ·rcases (abX:Y≤(Q:Rat)+1/2^12∨(Q:Rat)+1/2^12≤Y) with k | k
    ·exact k
    ·exfalso;have m2:=aaQ (show 0≤C by grind) (show 0≤Y-((Q:Rat)+1/2^12) by grind);grind
  have:=(kv (1/2^12) (Q:Rat) h (ayJ) hdev).1;rw [kE] at this;rw [g8.1,g8.2];exact this.wide (by grind) (abJ _) (abJ _)
 ·
  rcases g9 with g9 | ⟨n1,n2,g9⟩
  ·simp only [Prod.mk.injEq] at g9;rw [g9.1,g9.2];exact Dr.all (by grind) z
  rcases F0 with F0 | F0
  ·rw [F0.1,F0.2] at n1;cases n1
  rcases F1 with F1 | F1
  ·rw [F1.1,F1.2] at n2;cases n2
  have fin:∀(A V k0 k1:Int),0≤A→A<21600000→0≤V→V<10800000→Hs (1/2^50) A (A+V) (z0+21600000*(k0:Rat))→Hs (1/2^50) A (A+V) (z1+21600000*(k1:Rat))→Dr (1/2^40) (BA A (A+V)).1 (BA A (A+V)).2 z:=fun A V k0 k1 a0 a1 v0 v1 p0 p1=>by
   refine ktu_dr (by omega) (by omega) (by omega) (by grind) ?_;have V0:=aV v0;have V1:=aV (show V≤10799999 by omega);rw [show ((0:Int):Rat)=0 by rfl] at V0;rw [show ((10799999:Int):Rat)=10799999 by rfl] at V1;unfold Hs at p0 p1;rw [acQ] at p0 p1;obtain ⟨k,r0,r1⟩:=dec_z (m:=(A:Rat)+(V:Rat)/2) (v:=(V:Rat)/2+1/2^50) (k0:=k0) (k1:=k1) S0 S1 S q0 q1 co0 co1 coh (by grind) (by grind) (by constructor<;>grind) (by constructor<;>grind);refine ⟨k,?_⟩;unfold Hs;rw [acQ];constructor<;>grind
  rcases g9 with ⟨n3,g9⟩ | ⟨n3,g9⟩
  ·obtain ⟨v0,v1,k1,k0,r1,r0⟩:=zO F1.1 F1.2.1 F1.2.2.1 F1.2.2.2 F0.1 F0.2.1 F0.2.2.1 F0.2.2.2 D1 D0;rw [bR (by omega)] at g9;have e1:=congrArg Prod.fst g9;have e2:=congrArg Prod.snd g9;dsimp only at e1 e2;rw [e1,e2];exact fin _ _ k0 k1 F1.1 F1.2.1 v0 n3 r0 r1
  ·obtain ⟨v0,v1,k0,k1,r0,r1⟩:=zO F0.1 F0.2.1 F0.2.2.1 F0.2.2.2 F1.1 F1.2.1 F1.2.2.1 F1.2.2.2 D0 D1;rw [bR (by omega)] at g9;have e1:=congrArg Prod.fst g9;have e2:=congrArg Prod.snd g9;dsimp only at e1 e2;rw [e1,e2];exact fin _ _ k0 k1 F0.1 F0.2.1 v0 n3 r0 r1
end
section
open SM TB TA
open Ev (lt bG)
theorem quo_err {a b c d n:Int} (h:fS a b c d=true):(nB a b c d n).2.2≠1:=by
 unfold nB;rw [if_pos h];split
 ·simp
 ·split<;>simp
theorem kde_err {a b c d e f u v w:Int} (ba:-2000000000≤a∧a≤2000000000) (bb:-2000000000≤b∧b≤2000000000) (be:-2000000000≤e∧e≤2000000000) (bf:-2000000000≤f∧f≤2000000000):
  (AZ a b c d e f u v w w).2.2.2.2≠1:=by
 have hm:∃m,m=mx (mx (mx b (-a)) f) (-e)∧-2000000000≤m∧m≤2000000000:=by
  refine ⟨_,rfl,?_⟩;unfold mx;split<;>split<;>split<;>omega
 obtain ⟨m,em,m1,m5⟩:=hm;have qM:i64.wrap (mx (mx (mx b (i64.wrap (0-a))) f) (i64.wrap (0-e))+60000)=m+60000:=by
  rw [bR (x:=0-a) (by omega),bR (x:=0-e) (by omega),show 0-a=-a by omega,show 0-e=-e by omega,←em,bR (by omega)]
 have hv:aE (m+60000) (m+60000)=true:=aR (by omega) (by omega) (by omega);have bo:fS (aK (m+60000) (m+60000)).1 (aK (m+60000) (m+60000)).2.1 (aI (m+60000) (m+60000)).1 (aI (m+60000) (m+60000)).2.1=true:=oC (aU hv).val (aW hv).val;have qe:=quo_err (n:=131) bo;unfold AZ kdeK;simp only [lt,LS];rw [qM];generalize nB (aK (m+60000) (m+60000)).1 (aK (m+60000) (m+60000)).2.1 (aI (m+60000) (m+60000)).1 (aI (m+60000) (m+60000)).2.1 131=Q at*;generalize EX a b e f w w Q.2.1=K at*;cases decide (m+60000>5100000)
 ·cases h:(Q.2.2 != 0)
  ·cases XZ c d<;>cases XZ u v<;>cases decide (DW u v c d<DW c d u v)<;>cases decide (DW u v c d<10800000)<;>cases decide (DW c d u v<10800000)<;>simp
  ·simpa using qe
 ·simp
theorem kdg_ok {a c d:Int} (h1:-1000000000≤a) (h2:a≤1000000000) (h3:-1000≤d) (h4:d≤1000):
  kdg a a c d=(mn (a/60000) d,a-mn (a/60000) d*60000,a-mn (a/60000) d*60000,decide (mn (a/60000) d≥c)&&(decide (a-mn (a/60000) d*60000≥0)&&decide (a-mn (a/60000) d*60000≤60000))):=by
 have hm:-20000≤mn (a/60000) d∧mn (a/60000) d≤20000:=by
  unfold mn;split<;>omega
 unfold kdg kdgK;rw [dnI_eq (by omega) (by omega) (by omega)];generalize mn (a/60000) d=k at*;rw [bR (x:=k*60000) (by omega),bR (x:=a-k*60000) (by omega)];cases decide (k≥c)<;>cases decide (a-k*60000≥0)<;>rfl
theorem ZY {a j k w u:Int} (ha:gK a a=true) (j0:-90≤j) (j1:j≤89) (k0:0≤k) (k1:k≤179) (w0:0≤w) (w1:w≤60000) (u0:0≤u) (u1:u≤60000):
  ∃A1 A2 P1 P2 B1 B2 R1 R2 eh ez C1 C2 O1 O2 D1 D2 N1 N2 fh fz:Int,gQ a a (j*60000) (j*60000) (k*60000) (k*60000)=(A1,A2,P1,P2,0)∧gQ a a (j*60000) (j*60000) (k*60000+60000) (k*60000+60000)=(B1,B2,R1,R2,0)∧kwr a a (j*60000) (j*60000) k=(eh,ez,0)∧
   gQ a a (j*60000+60000) (j*60000+60000) (k*60000) (k*60000)=(C1,C2,O1,O2,0)∧gQ a a (j*60000+60000) (j*60000+60000) (k*60000+60000) (k*60000+60000)=(D1,D2,N1,N2,0)∧kwr a a (j*60000+60000) (j*60000+60000) k=(fh,fz,0)∧
   ∃F1 F2 F3 F4 G1 G2 G3 G4:Int,khr A1 A2 P1 P2 B1 B2 R1 R2 eh ez u u=(F1,F2,F3,F4)∧khr C1 C2 O1 O2 D1 D2 N1 N2 fh fz u u=(G1,G2,G3,G4)∧(AZ F1 F2 F3 F4 G1 G2 G3 G4 w w).2.2.2.2≠1∧
   ∀s1 s2 s3 s4:Int,AZ F1 F2 F3 F4 G1 G2 G3 G4 w w=(s1,s2,s3,s4,0)→Fm4 s3 s4∧-10000000000≤s1∧s2≤10000000000∧
    ∀h z:Rat,dE (a:Rat) ((j:Rat)*60000+(w:Rat)) ((k:Rat)*60000+(u:Rat)) h z→Hs (1/2^10) s1 s2 h∧Dr (1/2^40) s3 s4 z∧1/20≤co h:=by
 have hy0:gK (j*60000) (j*60000)=true:=CA (by omega) (by omega) (by omega);have hy1:gK (j*60000+60000) (j*60000+60000)=true:=CA (by omega) (by omega) (by omega);have v0:aE (k*60000) (k*60000)=true:=aR (by omega) (by omega) (by omega);have v1:aE (k*60000+60000) (k*60000+60000)=true:=aR (by omega) (by omega) (by omega);obtain ⟨A1,A2,P1,P2,eA,_⟩:=qT (wH ha hy0 v0);obtain ⟨B1,B2,R1,R2,eB,_⟩:=qT (wH ha hy0 v1);obtain ⟨C1,C2,O1,O2,eC,_⟩:=qT (wH ha hy1 v0);obtain ⟨D1,D2,N1,N2,eD,_⟩:=qT (wH ha hy1 v1);obtain ⟨eh,ez,qK,_⟩:=BQ ha hy0 k0 k1;obtain ⟨fh,fz,fK,_⟩:=BQ ha hy1 k0 k1;obtain ⟨F1,F2,F3,F4,eF⟩:∃F1 F2 F3 F4,khr A1 A2 P1 P2 B1 B2 R1 R2 eh ez u u=(F1,F2,F3,F4):=⟨_,_,_,_,rfl⟩;obtain ⟨G1,G2,G3,G4,eG⟩:∃G1 G2 G3 G4,khr C1 C2 O1 O2 D1 D2 N1 N2 fh fz u u=(G1,G2,G3,G4):=⟨_,_,_,_,rfl⟩;have hF:=NU ha hy0 k0 k1 u0 u1 eA eB qK eF;have hG:=NU ha hy1 k0 k1 u0 u1 eC eD fK eG;refine ⟨A1,A2,P1,P2,B1,B2,R1,R2,eh,ez,C1,C2,O1,O2,D1,D2,N1,N2,fh,fz,eA,eB,qK,eC,eD,fK,F1,F2,F3,F4,G1,G2,G3,G4,eF,eG,?_,?_⟩
 ·exact kde_err ⟨hF.1.1,hF.1.2.1⟩ ⟨hF.1.2.2.1,hF.1.2.2.2⟩ ⟨hG.1.1,hG.1.2.1⟩ ⟨hG.1.2.2.1,hG.1.2.2.2⟩
 ·intro s1 s2 s3 s4 hs;have z6:((60000:Int):Rat)=60000:=rfl;have h0:=hF.2;have h1:=hG.2;rw [acX,z6] at h0;rw [acQ,acX,z6] at h1;exact dec_hold (x:=(a:Rat)) (t:=(k:Rat)*60000+(u:Rat)) (y:=(j:Rat)*60000) (w:=(w:Rat)) rfl w0 w1 ⟨hF.1.1,hF.1.2.1⟩ ⟨hF.1.2.2.1,hF.1.2.2.2⟩ ⟨hG.1.1,hG.1.2.1⟩ ⟨hG.1.2.2.1,hG.1.2.2.2⟩ hs h0 h1
theorem ON {x y t h z:Rat} (q:Int) (s:dE x y (t+21600000*(q:Rat)) h z):dE x y t h z:=by
 have e:=eQ t q;unfold dE gJ gS iQ at*;rwa [e.1,e.2] at s
theorem mir_t {t:Rat} (t0:10800000<t) (t1:t<21600000):co (21600000-t)=co t∧si (21600000-t)=-si t:=by
 have n:=gL (q:=21600000-t) (by grind) (by grind);have e:=eQ t (-1);rw [afQ,show ((1:Int):Rat)=1 by rfl] at e;have q:t+21600000*-1=-(21600000-t):=by grind
 rw [q,n.1,n.2] at e;exact ⟨e.1,by grind⟩
theorem uT:2^60*u0≤eT:=by decide+kernel
theorem YN {x y t h z h' z':Rat} (t0:10800000<t) (t1:t<21600000) (S:dE x y t h z) (S':dE x y (21600000-t) h' z') (hc:1/20≤co h'):
  Cl (1/2^60) h h'∧∃k:Int,Cl (1/2^60) (-z+21600000*(k:Rat)) z':=by
 have e:=gT;have es:=KB;have ut:=uT;have u:=aY;have ee:e0=1048576*u0:=rfl;obtain ⟨c1,c2⟩:=mir_t t0 t1;obtain ⟨a0,a1,_,_,k1,k2,k3⟩:=S;obtain ⟨b0,b1,_,_,l1,l2,l3⟩:=S';have eu:gJ x y (21600000-t)=gJ x y t:=by unfold gJ;rw [c1]
 have en:gS x y (21600000-t)=gS x y t:=by unfold gS;rw [c1]
 have ea:iQ y (21600000-t)=-iQ y t:=by unfold iQ;rw [c2];grind
 rw [eu] at l1;rw [en] at l2;rw [ea] at l3;clear eu en ea c1 c2 t0 t1;constructor
 ·have sq:∀p q:Rat,-5400000≤p→p≤q→q≤5400000→Cl (10*e0) (si p) (si q)→q-p≤1/2^60:=fun p q g0 g1 g2 g3=>by
   have g:=JE g0 g1 g2;have:(q-p)*(q-p)≤1/2^120:=by unfold Cl at g3;grind
   have:=gX (f:=1/2^60) (by grind) this (by grind);exact this.2
  unfold Cl at k1 l1 ⊢;rcases (abX:h≤h'∨h'≤h) with g | g
  ·have:=sq h h' a0 g b1 (by unfold Cl;constructor<;>grind);constructor<;>grind
  ·have:=sq h' h b0 g a1 (by unfold Cl;constructor<;>grind);constructor<;>grind
 have r:=mT a0 a1;generalize gS x y t=N at*;generalize iQ y t=E at*;have o:=(lG h).1;have o':=(lG h').1;have bz:=cL z;have bz':=cL z';have ad:=wZ z z';have uz':=nE z';have uz:=nE z;have bs:=cL (z+z');generalize co h=p at*;generalize co h'=p' at*;have qX:=aB (a:=p) (b:=co z) (A:=101/100) (B:=2) (by grind) (by grind) bz.1.1 bz.1.2;have qY:=aB (a:=p) (b:=si z) (A:=101/100) (B:=2) (by grind) (by grind) bz.2.1 bz.2.2;have qX':=aB (a:=p') (b:=co z') (A:=101/100) (B:=2) (by grind) (by grind) bz'.1.1 bz'.1.2;have qY':=aB (a:=p') (b:=si z') (A:=101/100) (B:=2) (by grind) (by grind) bz'.2.1 bz'.2.2;have hP:∀{a b A B:Rat},Cl eT a A→Cl eT b B→-4≤a∧a≤4→-4≤b∧b≤4→Cl (9*eT) (a*b) (A*B):=fun {a b A B} h1 h2 h3 h4=>by
  unfold Cl at h1 h2;have m1:=aB (a:=a-A) (b:=b) (A:=eT) (B:=4) h1.1 h1.2 h4.1 h4.2;have m2:=aB (a:=A) (b:=b-B) (A:=5) (B:=eT) (by grind) (by grind) h2.1 h2.2;unfold Cl;have:a*b-A*B=(a-A)*b+A*(b-B):=by grind
  rw [this];generalize (a-A)*b=V1 at*;generalize A*(b-B)=V2 at*;constructor<;>grind
 have c1:=hP k2 l2 (by grind) (by grind);have c2:=hP k3 l3 (by grind) (by grind);have c3:=hP l2 l2 (by grind) (by grind);have c4:=hP l3 l3 (by grind) (by grind);have c5:=hP k2 k2 (by grind) (by grind);have c6:=hP k3 k3 (by grind) (by grind);have c7:=hP k3 l2 (by grind) (by grind);have c8:=hP k2 l3 (by grind) (by grind);have eT1:16777216*eT≤qK:=by grind
 clear hP qX qY qX' qY' k1 l1 k2 k3 l2 l3;have norm:∀(p z N E:Rat),-(101/100)≤p∧p≤101/100→Cl (8192*u0) (co z*co z+si z*si z) 1→Cl (18*eT) (p*co z*(p*co z)+p*si z*(p*si z)) (N*N+E*E)→Cl (20*eT) (p*p) (N*N+E*E):=fun p z N E hp hu hv=>by
  unfold Cl at hu;have m:=aB (a:=p) (b:=p) (A:=101/100) (B:=101/100) hp.1 hp.2 hp.1 hp.2;have m2:=aB (a:=p*p) (b:=co z*co z+si z*si z-1) (A:=2) (B:=8192*u0) (by grind) (by grind) hu.1 hu.2;have i:p*co z*(p*co z)+p*si z*(p*si z)=p*p+p*p*(co z*co z+si z*si z-1):=by grind
  unfold Cl at*;rw [i] at hv;generalize p*p*(co z*co z+si z*si z-1)=V at*;generalize p*p=W at*;generalize N*N+E*E=U at*;constructor<;>grind
 have n1:=norm p' z' N (-E) o' uz' ((c3.add c4).wide (by grind));have n2:=norm p z N E o uz ((c5.add c6).wide (by grind));have pJ:-E*-E=E*E:=by grind
 rw [pJ] at n1;clear norm c3 c4 c5 c6 uz uz';have pp:p'*p'≥1/400:=by
  have:=aaQ (show 0≤p'-1/20 by grind) (show 0≤p'+1/20 by grind);grind
 have p1:1/30≤p:=by
  rcases (abX:1/30≤p∨p≤1/30) with g | g
  ·exact g
  ·exfalso;have:=aB (a:=p) (b:=p) (A:=1/30) (B:=1/30) (by grind) g (by grind) g;unfold Cl at n1 n2;grind
 have pq:=aaQ (show 0≤p-1/30 by grind) (show 0≤p'-1/20 by grind);have pq1:1/600≤p*p':=by grind
 have pq2:=(aB (a:=p) (b:=p') (A:=101/100) (B:=101/100) (by grind) (by grind) (by grind) (by grind)).2;have sC:Cl (40*eT) (p*p'*co (z+z')) (N*N+E*E):=by
  have m:=aB (a:=p*p') (b:=co (z+z')-(co z*co z'-si z*si z')) (A:=2) (B:=1300*u0) (by grind) (by grind) ad.1.1 ad.1.2;have i:p*p'*co (z+z')=p*p'*(co (z+z')-(co z*co z'-si z*si z'))+(p*co z*(p'*co z')-p*si z*(p'*si z')):=by grind
  have s:=c1.sub c2;have j:N*N-E*-E=N*N+E*E:=by grind
  rw [j] at s;unfold Cl at s ⊢;rw [i];generalize p*p'*(co (z+z')-(co z*co z'-si z*si z'))=V at*;generalize p*co z*(p'*co z')-p*si z*(p'*si z')=W at*;generalize N*N+E*E=U at*;constructor<;>grind
 have sS:Cl (40*eT) (p*p'*si (z+z')) 0:=by
  have m:=aB (a:=p*p') (b:=si (z+z')-(si z*co z'+co z*si z')) (A:=2) (B:=1300*u0) (by grind) (by grind) ad.2.1 ad.2.2;have i:p*p'*si (z+z')=p*p'*(si (z+z')-(si z*co z'+co z*si z'))+(p*si z*(p'*co z')+p*co z*(p'*si z')):=by grind
  have s:=c7.add c8;have j:E*N+N*-E=0:=by grind
  rw [j] at s;unfold Cl at s ⊢;rw [i];generalize p*p'*(si (z+z')-(si z*co z'+co z*si z'))=V at*;generalize p*si z*(p'*co z')+p*co z*(p'*si z')=W at*;constructor<;>grind
 clear c1 c2 c7 c8 ad;have hco:1/2^60≤co (z+z'):=by
  unfold Cl at sC n1;generalize co (z+z')=C at*;generalize N*N+E*E=U at*;generalize p*p'=D at*;rcases (abX:1/2^60≤C∨C≤1/2^60) with g | g
  ·exact g
  ·exfalso;have m:=aaQ (show 0≤D by grind) (show 0≤1/2^60-C by grind);grind
 have hsi:-(2^30*qK)≤si (z+z')∧si (z+z')≤2^30*qK:=by
  unfold Cl at sS;generalize si (z+z')=C at*;generalize p*p'=D at*;constructor
  ·rcases (abX:-(2^30*qK)≤C∨C≤-(2^30*qK)) with g | g
   ·exact g
   ·exfalso;have m:=aaQ (show 0≤D-1/600 by grind) (show 0≤-C by grind);grind
  ·rcases (abX:C≤2^30*qK∨2^30*qK≤C) with g | g
   ·exact g
   ·exfalso;have m:=aaQ (show 0≤D-1/600 by grind) (show 0≤C by grind);grind
 obtain ⟨k,g0,g1,gs,_⟩:=XA hco;rw [←gs] at hsi;have i1:=wW g0 hsi.1;have i2:=wW (q:=-(z+z'+21600000*(k:Rat))) (by grind) (by
  rw [(gL (q:=z+z'+21600000*(k:Rat)) (by grind) (by grind)).1];grind)
 refine ⟨-k,?_⟩;rw [afQ];unfold Cl;constructor<;>grind
end
section
open SM TB TA
open Ev (lt bG)
theorem hs_cl {d e:Rat} {a b:Int} {x y:Rat} (h:Hs d a b x) (k:Cl e y x):Hs (d+e) a b y:=by
 unfold Hs Cl at*;constructor<;>grind
theorem klk_ok {a c e:Int} (hv:dV a a c c e e=true):(klk a a c c e e).2.2.2.2≠1∧∀s1 s2 s3 s4:Int,klk a a c c e e=(s1,s2,s3,s4,0)→
  Fm4 s3 s4∧-10000000000≤s1∧s2≤10000000000∧∀h z:Rat,dE (a:Rat) (c:Rat) (e:Rat) h z→Hs (1/2^5) s1 s2 h∧Dr (1/2^30) s3 s4 z:=by
 obtain ⟨h1,h2,h3⟩:=gA hv;have l1:=bW h1;have l2:=bW h2;have l3:=cG h3;have e0:(a != a)=false:=by simp
 have z0:((0:Int) != 0)=false:=rfl;obtain ⟨j,hj⟩:∃j,j=mn (c/60000) 89:=⟨_,rfl⟩;have bj:-90≤j∧j≤89∧0≤c-j*60000∧c-j*60000≤60000:=by
  rw [hj];unfold mn;split<;>omega
 have eD:kdg c c (-90) 89=(j,c-j*60000,c-j*60000,true):=by
  rw [kdg_ok (by omega) (by omega) (by omega) (by omega),←hj,decide_eq_true (show j≥-90 by omega),decide_eq_true (show c-j*60000≥0 by omega),decide_eq_true (show c-j*60000≤60000 by omega)];rfl
 obtain ⟨w,hw⟩:∃w,w=c-j*60000:=⟨_,rfl⟩;rw [←hw] at eD bj;have m0:=aiQ e (show (21600000:Int)≠0 by omega);have m1:=agQ e (show (0:Int)<21600000 by omega);have qL:BA e e=(e%21600000,e%21600000):=by
  rcases RY (a:=e) (b:=e) (by omega) (by omega) (by omega) (by omega) with ⟨n,_⟩ | ⟨_,q⟩
  ·omega
  ·rw [q,Int.sub_self,Int.add_zero]
 obtain ⟨l,hl⟩:∃l,l=e%21600000:=⟨_,rfl⟩;rw [←hl] at qL m0 m1;have wj:i64.wrap (i64.wrap (j+0)*60000)=j*60000:=by
  rw [bR (x:=j+0) (by omega),bR (x:=(j+0)*60000) (by omega),Int.add_zero]
 have wj1:i64.wrap (i64.wrap (j+1)*60000)=j*60000+60000:=by
  rw [bR (x:=j+1) (by omega),bR (x:=(j+1)*60000) (by omega)];omega
 have cc:(c:Rat)=(j:Rat)*60000+(w:Rat):=by
  have:c=j*60000+w:=by omega
  rw [this,acQ,acX];rfl
 have ce:(e:Rat)=(l:Rat)+21600000*((e/21600000:Int):Rat):=by
  have:e=l+21600000*(e/21600000):=by omega
  have q:=congrArg (fun n:Int=>(n:Rat)) this;rw [acQ,acX] at q;exact q
 by_cases h60:Int.tmod a 60000=0
 case neg=>
  have ev:klk a a c c e e=(0,0,0,0,2):=by
   unfold klk klkK;rw [hv,e0,bne_iff_ne.2 h60];rfl
  rw [ev];refine ⟨by simp,fun s1 s2 s3 s4 q=>?_⟩;simp at q
 have t0:(Int.tmod a 60000 != 0)=false:=by rw [h60];rfl
 have deg:∀m:Int,0≤m→m≤10800000→∃k u:Int,kdg m m 0 179=(k,u,u,true)∧0≤k∧k≤179∧0≤u∧u≤60000∧m=k*60000+u∧i64.wrap (i64.wrap (k+0)*60000)=k*60000∧i64.wrap (i64.wrap (k+1)*60000)=k*60000+60000:=fun m g0 g1=>by
  obtain ⟨k,hk⟩:∃k,k=mn (m/60000) 179:=⟨_,rfl⟩;have bk:0≤k∧k≤179∧0≤m-k*60000∧m-k*60000≤60000:=by
   rw [hk];unfold mn;split<;>omega
  refine ⟨k,m-k*60000,?_,bk.1,bk.2.1,bk.2.2.1,bk.2.2.2,by omega,?_,?_⟩
  ·rw [kdg_ok (by omega) (by omega) (by omega) (by omega),←hk,decide_eq_true (show k≥0 by omega),decide_eq_true (show m-k*60000≥0 by omega),decide_eq_true (show m-k*60000≤60000 by omega)];rfl
  ·rw [bR (x:=k+0) (by omega),bR (x:=(k+0)*60000) (by omega),Int.add_zero]
  ·rw [bR (x:=k+1) (by omega),bR (x:=(k+1)*60000) (by omega)];omega
 have cm:∀{m k u:Int},m=k*60000+u→(m:Rat)=(k:Rat)*60000+(u:Rat):=fun {m k u} q=>by
  rw [q,acQ,acX];rfl
 by_cases hm:l>10800000
 ·obtain ⟨k,u,qM,k0,k1,u0,u1,em,wk,wk1⟩:=deg (21600000-l) (by omega) (by omega);obtain ⟨A1,A2,P1,P2,B1,B2,R1,R2,eh,ez,C1,C2,O1,O2,D1,D2,N1,N2,fh,fz,eA,eB,qK,eC,eD',fK,F1,F2,F3,F4,G1,G2,G3,G4,eF,eG,ne,hT⟩:=ZY h1 bj.1 bj.2.1 k0 k1 bj.2.2.1 bj.2.2.2 u0 u1;have ev:klk a a c c e e=cond ((AZ F1 F2 F3 F4 G1 G2 G3 G4 w w).2.2.2.2 != 0) (0,0,0,0,(AZ F1 F2 F3 F4 G1 G2 G3 G4 w w).2.2.2.2) ((AZ F1 F2 F3 F4 G1 G2 G3 G4 w w).1,(AZ F1 F2 F3 F4 G1 G2 G3 G4 w w).2.1,
    (BA (i64.wrap (0-(AZ F1 F2 F3 F4 G1 G2 G3 G4 w w).2.2.2.1)) (i64.wrap (0-(AZ F1 F2 F3 F4 G1 G2 G3 G4 w w).2.2.1))).1,(BA (i64.wrap (0-(AZ F1 F2 F3 F4 G1 G2 G3 G4 w w).2.2.2.1)) (i64.wrap (0-(AZ F1 F2 F3 F4 G1 G2 G3 G4 w w).2.2.1))).2,0):=by
   have wl:i64.wrap (21600000-l)=21600000-l:=bR (by omega);have d1:decide (l>10800000)=true:=decide_eq_true hm;have d2:decide (l<10800000)=false:=decide_eq_false (by omega);have d3:decide (l>21600000)=false:=decide_eq_false (by omega);unfold klk klkK;simp only [lt,LS,hv,e0,t0,eD,qL,wl,d1,d2,d3,qM,wj,wj1,wk,wk1,eA,eB,qK,eC,eD',fK,eF,eG,z0,Bool.not_true,cond_true,cond_false]
  generalize AZ F1 F2 F3 F4 G1 G2 G3 G4 w w=T at*;by_cases hq:T.2.2.2.2=0
  case neg=>
   rw [bne_iff_ne.2 hq,cond_true] at ev;rw [ev];refine ⟨ne,fun s1 s2 s3 s4 q=>?_⟩;simp only [Prod.mk.injEq] at q;exact absurd q.2.2.2.2 hq
  rw [hq,z0,cond_false] at ev;rw [ev];refine ⟨by simp,fun s1 s2 s3 s4 q=>?_⟩;simp only [Prod.mk.injEq,and_true] at q;obtain ⟨rfl,rfl,rfl,rfl⟩:=q;obtain ⟨T1,T2,T3,T4,T5⟩:=T;dsimp only at hq hT ⊢;subst hq;obtain ⟨fo,b1,b2,tr⟩:=hT T1 T2 T3 T4 rfl;have b3:0≤T3∧T3≤T4∧T4≤43200000:=by unfold Fm4 at fo;omega
  rw [bR (x:=0-T4) (by omega),bR (x:=0-T3) (by omega)];refine ⟨AE (by omega) (by omega) (by omega),b1,b2,fun h z S=>?_⟩;rw [cc,ce] at S;have S1:=ON _ S;obtain ⟨h',z',S'⟩:=vW (a:Rat) ((j:Rat)*60000+(w:Rat)) ((k:Rat)*60000+(u:Rat));obtain ⟨t1,t2,t3⟩:=tr h' z' S';have cl:=cm em;rw [abZ,show ((21600000:Int):Rat)=21600000 by rfl] at cl;have g0:=xD hm;have g1:=xD m1;rw [show ((10800000:Int):Rat)=10800000 by rfl] at g0;rw [show ((21600000:Int):Rat)=21600000 by rfl] at g1;rw [←cl] at S';obtain ⟨n1,k',n2⟩:=YN (by grind) (by grind) S1 S' t3;refine ⟨(hs_cl t1 n1).wide (by grind) (abJ _) (abJ _),?_⟩;refine ktu_dr (by omega) (by omega) (by omega) (by grind) ?_;obtain ⟨m,hm'⟩:=t2;refine ⟨-(k'+m),?_⟩;have p:=hs_cl hm' (y:=-z+21600000*(k':Rat)+21600000*(m:Rat)) (e:=1/2^60) (by unfold Cl at n2 ⊢;constructor<;>grind);have p':=p.neg;rw [show 0-T4=-T4 by omega,show 0-T3=-T3 by omega];rw [afQ,acQ];rw [show -(-z+21600000*(k':Rat)+21600000*(m:Rat))=z+21600000*-((k':Rat)+(m:Rat)) by grind] at p';exact p'.wide (by grind) (abJ _) (abJ _)
 ·obtain ⟨k,u,qM,k0,k1,u0,u1,em,wk,wk1⟩:=deg l m0 (by omega);obtain ⟨A1,A2,P1,P2,B1,B2,R1,R2,eh,ez,C1,C2,O1,O2,D1,D2,N1,N2,fh,fz,eA,eB,qK,eC,eD',fK,F1,F2,F3,F4,G1,G2,G3,G4,eF,eG,ne,hT⟩:=ZY h1 bj.1 bj.2.1 k0 k1 bj.2.2.1 bj.2.2.2 u0 u1;have ev:klk a a c c e e=cond ((AZ F1 F2 F3 F4 G1 G2 G3 G4 w w).2.2.2.2 != 0) (0,0,0,0,(AZ F1 F2 F3 F4 G1 G2 G3 G4 w w).2.2.2.2) ((AZ F1 F2 F3 F4 G1 G2 G3 G4 w w).1,(AZ F1 F2 F3 F4 G1 G2 G3 G4 w w).2.1,(AZ F1 F2 F3 F4 G1 G2 G3 G4 w w).2.2.1,(AZ F1 F2 F3 F4 G1 G2 G3 G4 w w).2.2.2.1,0):=by
   have d1:decide (l>10800000)=false:=decide_eq_false hm;unfold klk klkK;simp only [lt,LS,hv,e0,t0,eD,qL,d1,qM,wj,wj1,wk,wk1,eA,eB,qK,eC,eD',fK,eF,eG,z0,Bool.not_true,cond_false]
  generalize AZ F1 F2 F3 F4 G1 G2 G3 G4 w w=T at*;by_cases hq:T.2.2.2.2=0
  case neg=>
   rw [bne_iff_ne.2 hq,cond_true] at ev;rw [ev];refine ⟨ne,fun s1 s2 s3 s4 q=>?_⟩;simp only [Prod.mk.injEq] at q;exact absurd q.2.2.2.2 hq
  rw [hq,z0,cond_false] at ev;rw [ev];refine ⟨by simp,fun s1 s2 s3 s4 q=>?_⟩;simp only [Prod.mk.injEq,and_true] at q;obtain ⟨rfl,rfl,rfl,rfl⟩:=q;obtain ⟨T1,T2,T3,T4,T5⟩:=T;dsimp only at hq hT ⊢;subst hq;obtain ⟨fo,b1,b2,tr⟩:=hT T1 T2 T3 T4 rfl;refine ⟨fo,b1,b2,fun h z S=>?_⟩;rw [cc,ce] at S;have S1:=ON _ S;rw [cm em] at S1;obtain ⟨t1,t2,_⟩:=tr h z S1;exact ⟨t1.wide (by grind) (abJ _) (abJ _),t2.wide (by grind)⟩
end
abbrev jW:=Int×Int×Int×Int
def CC:jW:=(0,0,0,0)
def WE (a b c d k:Int):Option (Int×Int):=if mx a (c+k)>mn b (d+k) then none else some (mx a (c+k),mn b (d+k))
def aA3:List Int:=[-21600000,0,21600000]
def xB (a b c d:Int) (i:Nat):List (Int×Int):=(aA3.take i).filterMap (WE a b c d)
def dirF (a b c d:Int):List (Int×Int)→Int×Int×Int
 | []=>(0,0,23)
 | [p]=>dO p.1 p.2
 | _=>if d-c<b-a then (c,d,0) else (a,b,0)
def fM (a b c d:Int):Int×Int×Int:=
 if a=0∧b=21600000 then (c,d,0) else if c=0∧d=21600000 then (a,b,0) else dirF a b c d (xB a b c d 3)
theorem uJ {α β:Type} (f:α→Option β) (l:List α) (x:α):(l++[x]).filterMap f=l.filterMap f++(f x).toList:=by
 rw [List.filterMap_append];cases h:f x<;>simp [h]
theorem dirL_succ (a b c d:Int) (i:Nat) (h:i<3):xB a b c d (i+1)=xB a b c d i++(WE a b c d (-21600000+21600000*(i:Int))).toList:=by
 unfold xB;have e:aA3.take (i+1)=aA3.take i++[-21600000+21600000*(i:Int)]:=by
  have:i=0∨i=1∨i=2:=by omega
  rcases this with rfl | rfl | rfl<;>rfl
 rw [e,uJ]
theorem IL (a b c d:Int) (i:Nat):(xB a b c d i).length≤3:=by
 refine ahJ (List.length_filterMap_le _ _) ?_;simp [aA3];omega
def jX (s:jW):Bool:=aE s.1 s.2.1&&(aE s.2.2.1 s.2.2.2&&((s.2.2.1==0&&s.2.2.2==21600000)||(decide (0≤s.2.2.1)&&(decide (s.2.2.1<21600000)&&decide (s.2.2.2-s.2.2.1<21600000)))))
theorem jV {s:jW} (h:jX s=true):aE s.1 s.2.1=true∧aE s.2.2.1 s.2.2.2=true∧0≤s.2.2.1∧s.2.2.1<21600000∧s.2.2.2≤43200000:=by
 unfold jX at h;simp only [Bool.and_eq_true,Bool.or_eq_true,beq_iff_eq,decide_eq_true_eq] at h;obtain ⟨h1,h2,h3⟩:=h;exact ⟨h1,h2,by omega,by omega,by omega⟩
def AL (o s:jW):Option jW:=
 if (cR o.1 o.2.1 s.1 s.2.1).2.2=0∧(fM o.2.2.1 o.2.2.2 s.2.2.1 s.2.2.2).2.2=0 then some ((cR o.1 o.2.1 s.1 s.2.1).1,(cR o.1 o.2.1 s.1 s.2.1).2.1,(fM o.2.2.1 o.2.2.2 s.2.2.1 s.2.2.2).1,(fM o.2.2.1 o.2.2.2 s.2.2.1 s.2.2.2).2.1) else none
def uY:jW→List jW→Option jW
 | o,[]=>some o
 | o,s::l=>match AL o s with
  | none=>none
  | some x=>uY x l
def iM:List jW→Int×Int×Int×Int×Int
 | []=>(0,0,0,0,14)
 | s::r=>if 1000<(s::r).length then (0,0,0,0,4) else if (s::r).any (fun s=> !jX s) then (0,0,0,0,1) else
  match uY s r with
  | none=>(0,0,0,0,23)
  | some x=>(x.1,x.2.1,x.2.2.1,x.2.2.2,0)
theorem meetR_many {s:jW} {r:List jW} (h:1000<(s::r).length):iM (s::r)=(0,0,0,0,4):=by
 simp only [iM];rw [if_pos h]
theorem OC {s:jW} {r:List jW} (h:¬1000<(s::r).length) (hb:(s::r).any (fun s=> !jX s)=true):iM (s::r)=(0,0,0,0,1):=by
 simp only [iM];rw [if_neg h,if_pos hb]
theorem JS {s:jW} {r:List jW} (h:¬1000<(s::r).length) (hb:(s::r).any (fun s=> !jX s)=false):iM (s::r)=match uY s r with
  | none=>(0,0,0,0,23)
  | some x=>(x.1,x.2.1,x.2.2.1,x.2.2.2,0):=by
 simp only [iM];rw [if_neg h,if_neg (by rw [hb];simp)]
theorem WF (htv:∀a b,aE a b=true→(dO a b).2.2=0→aE (dO a b).1 (dO a b).2.1=true) {a b c d:Int} (h:aE a b=true) (h':aE c d=true) (_hb:-500000000000≤c∧d≤500000000000) (h0:(fM a b c d).2.2=0):aE (fM a b c d).1 (fM a b c d).2.1=true:=by
 unfold fM at*;by_cases h1:a=0∧b=21600000
 ·rw [if_pos h1] at*;exact h'
 ·rw [if_neg h1] at*;by_cases h2:c=0∧d=21600000
  ·rw [if_pos h2] at*;exact h
  ·rw [if_neg h2] at*;cases hL:xB a b c d 3 with
   | nil=>rw [hL] at h0;cases h0
   | cons p L=>
    rw [hL] at h0;cases L with
    | nil=>
     have hp:p∈xB a b c d 3:=by rw [hL];simp
     unfold xB at hp;rw [List.mem_filterMap] at hp;obtain ⟨k,hk,hp⟩:=hp;have bd:=cG h;unfold WE at hp;split at hp
     ·cases hp
     ·cases hp;refine htv _ _ ?_ h0;have m1:a≤mx a (c+k)∧mn b (d+k)≤b:=by unfold mx mn;constructor<;>split<;>omega
      unfold aE;simp;omega
    | cons q L=>
     simp only [dirF];split
     ·exact h'
     ·exact h
theorem YL (htv:∀a b,aE a b=true→(dO a b).2.2=0→aE (dO a b).1 (dO a b).2.1=true) {o s x:jW} (h:aE o.2.2.1 o.2.2.2=true) (hs:jX s=true) (hx:AL o s=some x):aE x.2.2.1 x.2.2.2=true:=by
 have b:=jV hs;unfold AL at hx;split at hx
 ·cases hx;rename_i h1;exact WF htv h b.2.1 (by omega) h1.2
 ·cases hx
def okS (r:Int×Int×Int×Int×Int):Option jW:=if r.2.2.2.2=0 then some (r.1,r.2.1,r.2.2.1,r.2.2.2.1) else none
def tQ (by_:Int→Int×Int×Int×Int×Int) (i:Nat):List jW:=(List.range i).filterMap fun (j:Nat)=>okS (by_ ((j:Int)+1))
theorem lK (by_:Int→Int×Int×Int×Int×Int) (i:Nat):tQ by_ (i+1)=tQ by_ i++(okS (by_ ((i:Int)+1))).toList:=by
 unfold tQ;rw [List.range_succ,uJ]
theorem GK (by_:Int→Int×Int×Int×Int×Int) (i:Nat):(tQ by_ i).length≤i:=by
 refine ahJ (List.length_filterMap_le _ _) ?_;simp
end Go.Proofs.YtajpgkpdhcbngaaGreatDoor
