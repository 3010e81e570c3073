/-
  The reference's Bearing is arctrig's.
-/
import Derived.Test.YtfilgpifiboccaaGreatF2
import Derived.Test.YtfilgpifiboccaaGreatSi
import Derived.Test.YtfilgpifiboccaaGreatT37
namespace Go.Proofs.YtfilgpifiboccaaGreat
open Ev

noncomputable def befE (a b c d : Int) : Bool :=
  (decide (IntKind.i64.wrap (a * d) > IntKind.i64.wrap (b * c)))
noncomputable def book_befE_gives : Book := []
theorem book_befE_gives_ok : BookOk Tryz.prog book_befE_gives := bookOk_nil
theorem befE_gives_tree (a b c d : Int) : evF Tryz.prog [] Cs book_befE_gives 20 6 145 ([.agg ⟨[.int .i64 a, .int .i64 b]⟩, .agg ⟨[.int .i64 c, .int .i64 d]⟩].map AV.v) [] [] last =
  some (.v (.bool (decide (IntKind.i64.wrap (a * d) > IntKind.i64.wrap (b * c))))) := by kernel_rfl
theorem befE_gives (a b c d : Int) : Gives Tryz.prog 145 [.agg ⟨[.int .i64 a, .int .i64 b]⟩, .agg ⟨[.int .i64 c, .int .i64 d]⟩] (.bool (befE a b c d)) := by
  refine evF_gives (E := []) mixed (by simp) Cs_ok book_befE_gives_ok (lim := 20) (d := 6) (nm := []) ?_
  rw [befE_gives_tree a b c d]
  rfl
noncomputable def orgE (a b c d : Int) : Bool :=
  cond (decide (a ≤ 0))
  (cond (decide (b ≥ 0))
   (cond (decide (c ≤ 0))
    ((decide (d ≥ 0)))
    (false))
   (false))
  (false)
noncomputable def book_orgE_gives : Book := []
theorem book_orgE_gives_ok : BookOk Tryz.prog book_orgE_gives := bookOk_nil
theorem orgE_gives_tree (a b c d : Int) : evF Tryz.prog [] Cs book_orgE_gives 20 6 144 ([.agg ⟨[.int .i64 a, .int .i64 b]⟩, .agg ⟨[.int .i64 c, .int .i64 d]⟩].map AV.v) [] [] last =
  cond (decide (a ≤ 0))
  (cond (decide (b ≥ 0))
   (cond (decide (c ≤ 0))
    (some (.v (.bool (decide (d ≥ 0)))))
    (some (.v (.bool false))))
   (some (.v (.bool false))))
  (some (.v (.bool false))) := by kernel_rfl
theorem orgE_gives (a b c d : Int) : Gives Tryz.prog 144 [.agg ⟨[.int .i64 a, .int .i64 b]⟩, .agg ⟨[.int .i64 c, .int .i64 d]⟩] (.bool (orgE a b c d)) := by
  refine evF_gives (E := []) mixed (by simp) Cs_ok book_orgE_gives_ok (lim := 20) (d := 6) (nm := []) ?_
  rw [orgE_gives_tree a b c d]
  unfold orgE
  refine case_cond (fun (r : Bool) => AV.v (.bool (r))) ?_ ?_
  · refine case_cond (fun (r : Bool) => AV.v (.bool (r))) ?_ ?_
    · refine case_cond (fun (r : Bool) => AV.v (.bool (r))) ?_ ?_
      · rfl
      · rfl
    · rfl
  · rfl
noncomputable def valE (a b : Int) : Bool :=
  cond (decide (a ≤ b))
  (cond (decide (a ≥ (-2147483648)))
   ((decide (b ≤ 2147483648)))
   (false))
  (false)
noncomputable def book_valE_gives : Book := []
theorem book_valE_gives_ok : BookOk Tryz.prog book_valE_gives := bookOk_nil
theorem valE_gives_tree (a b : Int) : evF Tryz.prog [] Cs book_valE_gives 20 6 138 ([.agg ⟨[.int .i64 a, .int .i64 b]⟩].map AV.v) [] [] last =
  cond (decide (a ≤ b))
  (cond (decide (a ≥ (-2147483648)))
   (some (.v (.bool (decide (b ≤ 2147483648)))))
   (some (.v (.bool false))))
  (some (.v (.bool false))) := by kernel_rfl
theorem valE_gives (a b : Int) : Gives Tryz.prog 138 [.agg ⟨[.int .i64 a, .int .i64 b]⟩] (.bool (valE a b)) := by
  refine evF_gives (E := []) mixed (by simp) Cs_ok book_valE_gives_ok (lim := 20) (d := 6) (nm := []) ?_
  rw [valE_gives_tree a b]
  unfold valE
  refine case_cond (fun (r : Bool) => AV.v (.bool (r))) ?_ ?_
  · refine case_cond (fun (r : Bool) => AV.v (.bool (r))) ?_ ?_
    · rfl
    · rfl
  · rfl
def ibV (r : Int × Bool) : Value := .tuple #[.int .i64 r.1, .bool r.2]
noncomputable def angE (x y : Int) : Int × Bool := (angF x y, excF x y)
def angPre (x y : Int) : Bool := decide ((-2147483648 ≤ x ∧ x ≤ 2147483648) ∧ (-2147483648 ≤ y ∧ y ≤ 2147483648) ∧ ¬ (x = 0 ∧ y = 0))
theorem rangle_gives (a b : Int) (h : angPre a b = true) : Gives Tryz.prog 146 [.agg ⟨[.int .i64 a, .int .i64 b]⟩] (ibV (angE a b)) := by
  have h' := of_decide_eq_true h
  exact fun w => rangle_any a b h'.1 h'.2.1 h'.2.2 w
noncomputable def bW (p q : Int × Int) : Bool := befE p.1 p.2 q.1 q.2
noncomputable def bgK (p q : Int × Int) : Option AV :=
  lt (angE p.1 p.2) fun x1 => cond (angPre p.1 p.2) (lt (angE q.1 q.2) fun x2 => cond (angPre q.1 q.2)
    (cond (!x2.2)
      (cond (decide (IntKind.i64.wrap (x2.1 + 1) < x1.1))
        (some (.v (.tuple ⟨[.agg ⟨[.int .i64 x1.1, .int .i64 (IntKind.i64.wrap ((IntKind.i64.wrap (x2.1 + 1)) + 21600000))]⟩, .int .i64 0]⟩)))
        (some (.v (.tuple ⟨[.agg ⟨[.int .i64 x1.1, .int .i64 (IntKind.i64.wrap (x2.1 + 1))]⟩, .int .i64 0]⟩))))
      (cond (decide (x2.1 < x1.1))
        (some (.v (.tuple ⟨[.agg ⟨[.int .i64 x1.1, .int .i64 (IntKind.i64.wrap (x2.1 + 21600000))]⟩, .int .i64 0]⟩)))
        (some (.v (.tuple ⟨[.agg ⟨[.int .i64 x1.1, .int .i64 x2.1]⟩, .int .i64 0]⟩)))))
    none) none
noncomputable def bg5 (c3 f l : Int × Int) : Option AV := cond (bW l c3) (bgK f c3) (bgK f l)
noncomputable def bg4 (c3 f l : Int × Int) : Option AV := cond (bW c3 f) (bg5 c3 c3 l) (bg5 c3 f l)
noncomputable def bg3 (c2 c3 f l : Int × Int) : Option AV := cond (bW l c2) (bg4 c3 f c2) (bg4 c3 f l)
noncomputable def bg2 (c2 c3 f l : Int × Int) : Option AV := cond (bW c2 f) (bg3 c2 c3 c2 l) (bg3 c2 c3 f l)
noncomputable def bg1 (c0 c1 c2 c3 f : Int × Int) : Option AV := cond (bW c0 c1) (bg2 c2 c3 f c1) (bg2 c2 c3 f c0)
noncomputable def bgS (c0 c1 c2 c3 : Int × Int) : Option AV := cond (bW c1 c0) (bg1 c0 c1 c2 c3 c1) (bg1 c0 c1 c2 c3 c0)
theorem bgS_eq {c0 c1 c2 c3 f2 l2 f3 l3 f4 l4 : Int × Int} (h1 : cond (bW c1 c0) c1 c0 = f2) (h2 : cond (bW c0 c1) c1 c0 = l2) (h3 : cond (bW c2 f2) c2 f2 = f3) (h4 : cond (bW l2 c2) c2 l2 = l3) (h5 : cond (bW c3 f3) c3 f3 = f4) (h6 : cond (bW l3 c3) c3 l3 = l4) : bgS c0 c1 c2 c3 = bgK f4 l4 := by
  have e1 : bgS c0 c1 c2 c3 = bg1 c0 c1 c2 c3 f2 := by rw [← h1]; unfold bgS; cases bW c1 c0 <;> rfl
  have e2 : bg1 c0 c1 c2 c3 f2 = bg2 c2 c3 f2 l2 := by rw [← h2]; unfold bg1; cases bW c0 c1 <;> rfl
  have e3 : bg2 c2 c3 f2 l2 = bg3 c2 c3 f3 l2 := by rw [← h3]; unfold bg2; cases bW c2 f2 <;> rfl
  have e4 : bg3 c2 c3 f3 l2 = bg4 c3 f3 l3 := by rw [← h4]; unfold bg3; cases bW l2 c2 <;> rfl
  have e5 : bg4 c3 f3 l3 = bg5 c3 f4 l3 := by rw [← h5]; unfold bg4; cases bW c3 f3 <;> rfl
  have e6 : bg5 c3 f4 l3 = bgK f4 l4 := by rw [← h6]; unfold bg5; cases bW l3 c3 <;> rfl
  rw [e1, e2, e3, e4, e5, e6]
def In32 (p : Int × Int) : Prop := (-2147483648 ≤ p.1 ∧ p.1 ≤ 2147483648) ∧ (-2147483648 ≤ p.2 ∧ p.2 ≤ 2147483648)
theorem bW_eq {p q : Int × Int} (hp : In32 p) (hq : In32 q) : bW p q = bS p q := by
  unfold bW befE bS bef
  have b1 := mul_bd hp.1 hq.2
  have b2 := mul_bd hp.2 hq.1
  rw [i64w (x := p.1 * q.2) (by omega), i64w (x := p.2 * q.1) (by omega), Int.mul_comm q.2, Int.mul_comm q.1]
  generalize p.1 * q.2 = A
  generalize p.2 * q.1 = C
  by_cases h : A ≤ C
  · rw [decide_eq_true h, decide_eq_false (by omega)]; rfl
  · rw [decide_eq_false h, decide_eq_true (by omega)]; rfl
theorem bgK_eq {p q : Int × Int} (hp : angPre p.1 p.2 = true) (hq : angPre q.1 q.2 = true) : bgK p q = some (.v (arcV (angF p.1 p.2, refUp (angF p.1 p.2) (angF q.1 q.2) (excF q.1 q.2), 0))) := by
  unfold bgK
  rw [lt, lt, hp, hq, cond_true, cond_true]
  unfold angE refUp
  dsimp only
  have b1 := angF_bd p.1 p.2
  have b2 := angF_bd q.1 q.2
  generalize angF p.1 p.2 = A at *
  generalize angF q.1 q.2 = C at *
  cases excF q.1 q.2
  · rw [Bool.not_false, cond_true, i64w (x := C + 1) (by omega), i64w (x := C + 1 + 21600000) (by omega)]
    by_cases h : C + 1 < A
    · rw [decide_eq_true h, cond_true]; simp [h, arcV, pairV]
    · rw [decide_eq_false h, cond_false]; simp [h, arcV, pairV]
  · rw [Bool.not_true, cond_false, i64w (x := C + 21600000) (by omega)]
    by_cases h : C < A
    · rw [decide_eq_true h, cond_true]; simp [h, arcV, pairV]
    · rw [decide_eq_false h, cond_false]; simp [h, arcV, pairV]
theorem valE_eq (a b : Int) : valE a b = validB a b := by
  unfold valE validB
  by_cases h1 : a ≤ b
  · by_cases h2 : a ≥ -2147483648
    · by_cases h3 : b ≤ 2147483648
      · rw [decide_eq_true h1, decide_eq_true h2, decide_eq_true h3, cond_true, cond_true]; exact (decide_eq_true ⟨h2, h1, h3⟩).symm
      · rw [decide_eq_true h1, decide_eq_true h2, decide_eq_false h3, cond_true, cond_true]; exact (decide_eq_false (by omega)).symm
    · rw [decide_eq_true h1, decide_eq_false h2, cond_true, cond_false]; exact (decide_eq_false (by omega)).symm
  · rw [decide_eq_false h1, cond_false]; exact (decide_eq_false (by omega)).symm
theorem orgE_eq (yl yh xl xh : Int) : orgE yl yh xl xh = originB yl yh xl xh := by
  unfold orgE originB
  by_cases h1 : yl ≤ 0
  · by_cases h2 : yh ≥ 0
    · by_cases h3 : xl ≤ 0
      · rw [decide_eq_true h1, decide_eq_true h2, decide_eq_true h3, cond_true, cond_true, cond_true]
        by_cases h4 : xh ≥ 0
        · rw [decide_eq_true h4]; exact (decide_eq_true ⟨h3, h4, h1, h2⟩).symm
        · rw [decide_eq_false h4]; exact (decide_eq_false (by omega)).symm
      · rw [decide_eq_true h1, decide_eq_true h2, decide_eq_false h3, cond_true, cond_true, cond_false]; exact (decide_eq_false (by omega)).symm
    · rw [decide_eq_true h1, decide_eq_false h2, cond_true, cond_false]; exact (decide_eq_false (by omega)).symm
  · rw [decide_eq_false h1, cond_false]; exact (decide_eq_false (by omega)).symm
theorem bgS_bear {yl yh xl xh : Int} (hx : validB xl xh = true) (hy : validB yl yh = true) (ho : originB yl yh xl xh = false) : bgS (xl, yl) (xl, yh) (xh, yl) (xh, yh) = some (.v (arcV (bearR yl yh xl xh))) := by
  have hx' := of_decide_eq_true hx
  have hy' := of_decide_eq_true hy
  have ho' := of_decide_eq_false ho
  have inn : ∀ p : Int × Int, ((p.1 = xl ∨ p.1 = xh) ∧ (p.2 = yl ∨ p.2 = yh)) → In32 p := fun p h => by unfold In32; omega
  have pre : ∀ p : Int × Int, ((p.1 = xl ∨ p.1 = xh) ∧ (p.2 = yl ∨ p.2 = yh)) → angPre p.1 p.2 = true := fun p h => decide_eq_true (by omega)
  have sf : ∀ j, cond (bW (cor yl yh xl xh j) (rfS yl yh xl xh j)) (cor yl yh xl xh j) (rfS yl yh xl xh j) = rfS yl yh xl xh (j + 1) := fun j => by
    rw [bW_eq (inn _ (cor_mem _ _ _ _ j)) (inn _ (rf_mem _ _ _ _ j))]; rfl
  have sl : ∀ j, cond (bW (rlS yl yh xl xh j) (cor yl yh xl xh j)) (cor yl yh xl xh j) (rlS yl yh xl xh j) = rlS yl yh xl xh (j + 1) := fun j => by
    rw [bW_eq (inn _ (rl_mem _ _ _ _ j)) (inn _ (cor_mem _ _ _ _ j))]; rfl
  have s1 := sf 1
  have t1 := sl 1
  rw [rf_one] at s1
  rw [rl_one] at t1
  have e : bgS (xl, yl) (xl, yh) (xh, yl) (xh, yh) = bgK (rfS yl yh xl xh 4) (rlS yl yh xl xh 4) := bgS_eq (c0 := (xl, yl)) (c1 := cor yl yh xl xh 1) (c2 := cor yl yh xl xh 2) (c3 := cor yl yh xl xh 3) (f2 := rfS yl yh xl xh 2) (l2 := rlS yl yh xl xh 2) (f3 := rfS yl yh xl xh 3) (l3 := rlS yl yh xl xh 3) (f4 := rfS yl yh xl xh 4) (l4 := rlS yl yh xl xh 4) s1 t1 (sf 2) (sl 2) (sf 3) (sl 3)
  rw [e, bgK_eq (pre _ (rf_mem _ _ _ _ 4)) (pre _ (rl_mem _ _ _ _ 4)), ← ref_bear hx hy ho]
  rfl
noncomputable def book_rbear : Book := [(138, eP (fun a b => .bool (valE a b))), (144, ePP (fun a b c d => .bool (orgE a b c d))), (145, ePP (fun a b c d => .bool (befE a b c d))), (146, ePif angPre (fun a b => ibV (angE a b)))]
theorem book_rbear_ok : BookOk Tryz.prog book_rbear := (bookOk_cons (eP_ok valE_gives) (bookOk_cons (ePP_ok orgE_gives) (bookOk_cons (ePP_ok befE_gives) (bookOk_cons (ePif_ok rangle_gives) bookOk_nil))))
theorem rbear_tree (a b c d : Int) : evF Tryz.prog [] Cs book_rbear 20 6 108 ([.agg ⟨[.int .i64 a, .int .i64 b]⟩, .agg ⟨[.int .i64 c, .int .i64 d]⟩].map AV.v) [] [] last =
  cond (!(valE a b)) (some (.v (arcV (0, 0, 1)))) (cond (!(valE c d)) (some (.v (arcV (0, 0, 1)))) (cond (orgE a b c d) (some (.v (arcV (0, 21600000, 0)))) (bgS (c, a) (c, b) (d, a) (d, b)))) := by kernel_rfl
theorem rbear (a b c d : Int) : Gives Tryz.prog 108 [.agg ⟨[.int .i64 a, .int .i64 b]⟩, .agg ⟨[.int .i64 c, .int .i64 d]⟩] (arcV (bearR a b c d)) := by
  refine evF_gives (E := []) mixed (by simp) Cs_ok book_rbear_ok (lim := 20) (d := 6) (nm := []) ?_
  rw [rbear_tree a b c d]
  rw [valE_eq, valE_eq, orgE_eq]
  cases h1 : validB a b
  · unfold bearR
    rw [h1, Bool.and_false, if_pos rfl]; rfl
  · cases h2 : validB c d
    · unfold bearR
      rw [h2, Bool.false_and, if_pos rfl]; rfl
    · cases h3 : originB a b c d
      · rw [Bool.not_true, cond_false, cond_false, cond_false, bgS_bear h2 h1 h3]
      · unfold bearR
        rw [h1, h2, h3, if_neg (by simp), if_pos rfl]; rfl
end Go.Proofs.YtfilgpifiboccaaGreat
