import Derived.Test.YtfilgpifiboccaaGreatT27
import Derived.Laws.StructEq
import Derived.Deep.CutRange
import Derived.Deep.CutBlock
namespace Go.Proofs.YtfilgpifiboccaaGreat
open Go.RowKit
/-- A variable of arctrig's numbers. -/
def Blk (w : World) (b : Nat) (a0 a1 a2 a3 : Int) : Prop := w.heap[b]? = some (.cells #[.int .u64 a0, .int .u64 a1, .int .u64 a2, .int .u64 a3] 161 (0, 0))
theorem Blk.lt {w : World} {b : Nat} {a0 a1 a2 a3 : Int} (h : Blk w b a0 a1 a2 a3) : b < w.heap.size := by
  unfold Blk at h
  exact (Array.getElem?_eq_some_iff.1 h).1
theorem blk_below {w w' : World} {b : Nat} {a0 a1 a2 a3 : Int} (hb : Below w.heap.size w w') (h : Blk w b a0 a1 a2 a3) : Blk w' b a0 a1 a2 a3 := (hb.block b h.lt).trans h
theorem Blk.alloc {w : World} {b : Nat} {a0 a1 a2 a3 : Int} (h : Blk w b a0 a1 a2 a3) (o : Obj) : Blk (w.alloc o) b a0 a1 a2 a3 := blk_below ((Below.refl _ _).alloc (Nat.le_refl _) _) h
theorem Blk.write {w : World} {b : Nat} {a0 a1 a2 a3 : Int} (h : Blk w b a0 a1 a2 a3) (v0 v1 v2 v3 : Int) :
    Blk ((((w.setCell ⟨b, 0, none⟩ (.int .u64 v0)).setCell ⟨b, 1, none⟩ (.int .u64 v1)).setCell ⟨b, 2, none⟩ (.int .u64 v2)).setCell ⟨b, 3, none⟩ (.int .u64 v3)) b v0 v1 v2 v3 := by
  unfold Blk at *
  simp [World.setCell, h, Array.getElem?_modify]
theorem Blk.other {w : World} {b b' : Nat} {a0 a1 a2 a3 : Int} (h : Blk w b a0 a1 a2 a3) (hb : b ≠ b') (v0 v1 v2 v3 : Value) :
    Blk ((((w.setCell ⟨b', 0, none⟩ v0).setCell ⟨b', 1, none⟩ v1).setCell ⟨b', 2, none⟩ v2).setCell ⟨b', 3, none⟩ v3) b a0 a1 a2 a3 := by
  unfold Blk at *
  have hb' : b' ≠ b := fun e => hb e.symm
  simp [World.setCell, h, Array.getElem?_modify, hb']
theorem keepB {w : World} {b : Nat} {a0 a1 a2 a3 : Int} (h : Blk w b a0 a1 a2 a3) :
    (w.cell? ⟨b, 0, none⟩ = some (.int .u64 a0) ∧ w.cell? ⟨b, 1, none⟩ = some (.int .u64 a1) ∧ w.cell? ⟨b, 2, none⟩ = some (.int .u64 a2) ∧ w.cell? ⟨b, 3, none⟩ = some (.int .u64 a3)) ∧
    w.frozen? ⟨b, 0, none⟩ = false ∧ w.frozen? ⟨b, 1, none⟩ = false ∧ w.frozen? ⟨b, 2, none⟩ = false ∧ w.frozen? ⟨b, 3, none⟩ = false := by
  unfold Blk at h
  refine ⟨⟨?_, ?_, ?_, ?_⟩, ?_, ?_, ?_, ?_⟩ <;> simp [World.cell?, World.frozen?, h]
theorem pi_any (w : World) : Calls Tryz.prog 170 #[] w (GPost (bigV 19720096697726538562396133364228268891463450865190089732560) w) := by
  have e : bigV 19720096697726538562396133364228268891463450865190089732560 = numD 3 2611923443488327891 1376283091369227076 11820040416388919760 := by unfold bigV; simp
  rw [e]
  have HB := Lib.hid ((Below.refl w.heap.size w).alloc (Nat.le_refl _) (.cells #[.int .u64 3, .int .u64 2611923443488327891, .int .u64 1376283091369227076, .int .u64 11820040416388919760] 161))
  unfold numD
  go_enter Tryz.func170, Tryz.ntmps170
  go_wp2
  refine bodyPost_ret (v := numD 3 2611923443488327891 1376283091369227076 11820040416388919760) (by simp [results, Tryz.results170, go_sem, numD]) rfl ⟨rfl, HB.out⟩
theorem eq73 (a b c d e f g h : Int) (w : World) : (Op.equalIn 10000 161 (.agg #[.int .u64 a, .int .u64 b, .int .u64 c, .int .u64 d]) (.agg #[.int .u64 e, .int .u64 f, .int .u64 g, .int .u64 h])).run Tryz.prog w = .ok (a == e && (b == f && (c == g && d == h))) w := by
  have u3 := Tryz.underlying159
  have a3 := Tryz.isAgg159
  have z3 := Tryz.sizeOf159
  rw [show (10000 : Nat) = 9999 + 1 from rfl, Op.equalIn]
  simp only [Sem.run_bind, run_underlying Tryz.underlying161, Result.andThen_ok]
  simp only [Std.Legacy.Range.forIn_eq_forIn_range', Std.Legacy.Range.size, Nat.sub_zero, Nat.add_sub_cancel, Nat.div_one, List.range'_succ, List.range'_zero, List.forIn_cons, List.forIn_nil]
  go_simp
  by_cases h1 : a = e <;> by_cases h2 : b = f <;> by_cases h3 : c = g <;> by_cases h4 : d = h <;> simp [h1, h2, h3, h4]
end Go.Proofs.YtfilgpifiboccaaGreat
namespace Go.Proofs.YtfilgpifiboccaaGreat
open Go.RowKit
/-- The series: each term made of the one before. -/
def serT (term sq n : Nat) : Nat := (term * sq / 6277101735386680763835789423207666416102355444464034512896 % 115792089237316195423570985008687907853269984665640564039457584007913129639936) / ((n + 1) * (n + 2))
def serS (minus : Bool) (sum term : Nat) : Nat := if minus then (sum + 115792089237316195423570985008687907853269984665640564039457584007913129639936 - term) % 115792089237316195423570985008687907853269984665640564039457584007913129639936 else (sum + term) % 115792089237316195423570985008687907853269984665640564039457584007913129639936
def serN : Nat → Bool → Nat → Nat → Nat → Nat → Nat
  | 0, _, sum, _, _, _ => sum
  | f + 1, minus, sum, term, sq, n => if term = 0 then sum else serN f (!minus) (serS minus sum (serT term sq n)) (serT term sq n) sq (n + 2)
/-- A variable that holds a number, as one integer. -/
def BlkV (w : World) (b : Nat) (V : Nat) : Prop := ∃ a0 a1 a2 a3 : Int, (Word a0 ∧ Word a1 ∧ Word a2 ∧ Word a3) ∧ num a0 a1 a2 a3 = (V : Int) ∧ bigV (V : Int) = numD a0 a1 a2 a3 ∧ Blk w b a0 a1 a2 a3
/-- The series' variables at the head of the loop. -/
def SRel (w : World) (b7 b8 : Nat) (F Q n R : Nat) (v2 v9 : Value) (wr : World) : Prop :=
  ∃ (j : Nat) (m : Bool) (S T : Nat), v2 = .int .u64 ((n + 2 * j : Nat) : Int) ∧ v9 = .bool m ∧ BlkV wr b7 S ∧ BlkV wr b8 T ∧ BlkV wr (w.heap.size + 1) Q ∧ Blk wr (w.heap.size + 1 + 1) 0 0 0 0 ∧ T * 2 ^ j ≤ F ∧ j ≤ 200 ∧ serN (300 - j) m S T Q (n + 2 * j) = R ∧ Below w.heap.size w wr
theorem serT_le (T Q n : Nat) (hQ : Q ≤ 6277101735386680763835789423207666416102355444464034512896) : 2 * serT T Q n ≤ T := by
  unfold serT
  have h1 : T * Q / 6277101735386680763835789423207666416102355444464034512896 ≤ T := by
    have : T * Q ≤ T * 6277101735386680763835789423207666416102355444464034512896 := Nat.mul_le_mul_left _ hQ
    exact Nat.div_le_of_le_mul (by rw [Nat.mul_comm _ T]; exact this)
  have h2 := Nat.mod_le (T * Q / 6277101735386680763835789423207666416102355444464034512896) 115792089237316195423570985008687907853269984665640564039457584007913129639936
  generalize T * Q / 6277101735386680763835789423207666416102355444464034512896 % 115792089237316195423570985008687907853269984665640564039457584007913129639936 = P at *
  have h3 : 1 * 2 ≤ (n + 1) * (n + 2) := Nat.mul_le_mul (by omega) (by omega)
  have h4 := Nat.div_mul_le_self P ((n + 1) * (n + 2))
  have h5 : P / ((n + 1) * (n + 2)) * (1 * 2) ≤ P / ((n + 1) * (n + 2)) * ((n + 1) * (n + 2)) := Nat.mul_le_mul_left _ h3
  omega
set_option maxRecDepth 100000 in
set_option maxHeartbeats 3000000 in
theorem series_any (F Q n : Nat) (hF : F < 1606938044258990275541962092341162602522202993782792835301376) (hQ : Q ≤ 6277101735386680763835789423207666416102355444464034512896) (hn : n ≤ 1) (w : World) :
    Calls Tryz.prog 173 #[bigV (F : Int), bigV (Q : Int), .int .u64 (n : Int)] w (GPost (bigV (serN 300 true F F Q n : Int)) w) := by
  obtain ⟨R, hR⟩ : ∃ R, R = serN 300 true F F Q n := ⟨_, rfl⟩
  rw [← hR]
  obtain ⟨f0, f1, f2, f3, wf, nf, ef⟩ := big_words (V := (F : Int)) ⟨by omega, by omega⟩
  obtain ⟨q0, q1, q2, q3, wq, nq, eq⟩ := big_words (V := (Q : Int)) ⟨by omega, by omega⟩
  have HI : ∀ p7 p8 b7 b8, (p7 = Value.pointer (some ⟨b7, 0, none⟩) ∧ p8 = Value.pointer (some ⟨b8, 0, none⟩)) → ((b7 = w.heap.size + 1 + 1 + 1 ∧ b8 = w.heap.size + 1 + 1 + 1 + 1) ∨ (b8 = w.heap.size + 1 + 1 + 1 ∧ b7 = w.heap.size + 1 + 1 + 1 + 1)) →
      ∃ c7 c8 : Nat, p7 = Value.pointer (some ⟨c7, 0, none⟩) ∧ p8 = Value.pointer (some ⟨c8, 0, none⟩) ∧ c7 ≠ c8 ∧ w.heap.size + 2 < c7 ∧ w.heap.size + 2 < c8 ∧
      SRel w c7 c8 F Q n R (.int .u64 (n : Int)) (.bool true) ((((((w.alloc (.cells #[.int .u64 f0, .int .u64 f1, .int .u64 f2, .int .u64 f3] 161)).alloc (.cells #[.int .u64 q0, .int .u64 q1, .int .u64 q2, .int .u64 q3] 161)).alloc (.cells #[.int .u64 0, .int .u64 0, .int .u64 0, .int .u64 0] 161)).alloc (.cells #[.int .u64 f0, .int .u64 f1, .int .u64 f2, .int .u64 f3] 161)).alloc (.cells #[.int .u64 f0, .int .u64 f1, .int .u64 f2, .int .u64 f3] 161)).drew) := by
    intro p7 p8 b7 b8 ⟨e7, e8⟩ hb
    have A3 := heap_alloc_new (((w.alloc (.cells #[.int .u64 f0, .int .u64 f1, .int .u64 f2, .int .u64 f3] 161)).alloc (.cells #[.int .u64 q0, .int .u64 q1, .int .u64 q2, .int .u64 q3] 161)).alloc (.cells #[.int .u64 0, .int .u64 0, .int .u64 0, .int .u64 0] 161)) (.cells #[.int .u64 f0, .int .u64 f1, .int .u64 f2, .int .u64 f3] 161)
    have A4 := heap_alloc_new ((((w.alloc (.cells #[.int .u64 f0, .int .u64 f1, .int .u64 f2, .int .u64 f3] 161)).alloc (.cells #[.int .u64 q0, .int .u64 q1, .int .u64 q2, .int .u64 q3] 161)).alloc (.cells #[.int .u64 0, .int .u64 0, .int .u64 0, .int .u64 0] 161)).alloc (.cells #[.int .u64 f0, .int .u64 f1, .int .u64 f2, .int .u64 f3] 161)) (.cells #[.int .u64 f0, .int .u64 f1, .int .u64 f2, .int .u64 f3] 161)
    have A2 := heap_alloc_new ((w.alloc (.cells #[.int .u64 f0, .int .u64 f1, .int .u64 f2, .int .u64 f3] 161)).alloc (.cells #[.int .u64 q0, .int .u64 q1, .int .u64 q2, .int .u64 q3] 161)) (.cells #[.int .u64 0, .int .u64 0, .int .u64 0, .int .u64 0] 161)
    have A1 := heap_alloc_new (w.alloc (.cells #[.int .u64 f0, .int .u64 f1, .int .u64 f2, .int .u64 f3] 161)) (.cells #[.int .u64 q0, .int .u64 q1, .int .u64 q2, .int .u64 q3] 161)
    have HB : Below w.heap.size w (((((w.alloc (.cells #[.int .u64 f0, .int .u64 f1, .int .u64 f2, .int .u64 f3] 161)).alloc (.cells #[.int .u64 q0, .int .u64 q1, .int .u64 q2, .int .u64 q3] 161)).alloc (.cells #[.int .u64 0, .int .u64 0, .int .u64 0, .int .u64 0] 161)).alloc (.cells #[.int .u64 f0, .int .u64 f1, .int .u64 f2, .int .u64 f3] 161)).alloc (.cells #[.int .u64 f0, .int .u64 f1, .int .u64 f2, .int .u64 f3] 161)) :=
      (((((Below.refl _ _).alloc (Nat.le_refl _) _).alloc (by simp) _).alloc (by simp; omega) _).alloc (by simp; omega) _).alloc (by simp; omega) _
    have B3 := (show Blk _ _ f0 f1 f2 f3 from A3).alloc (.cells #[.int .u64 f0, .int .u64 f1, .int .u64 f2, .int .u64 f3] 161)
    have B4 := (show Blk _ _ f0 f1 f2 f3 from A4)
    have B2 := ((show Blk _ _ 0 0 0 0 from A2).alloc (.cells #[.int .u64 f0, .int .u64 f1, .int .u64 f2, .int .u64 f3] 161)).alloc (.cells #[.int .u64 f0, .int .u64 f1, .int .u64 f2, .int .u64 f3] 161)
    have B1 := (((show Blk _ _ q0 q1 q2 q3 from A1).alloc (.cells #[.int .u64 0, .int .u64 0, .int .u64 0, .int .u64 0] 161)).alloc (.cells #[.int .u64 f0, .int .u64 f1, .int .u64 f2, .int .u64 f3] 161)).alloc (.cells #[.int .u64 f0, .int .u64 f1, .int .u64 f2, .int .u64 f3] 161)
    have s1 : (w.alloc (.cells #[.int .u64 f0, .int .u64 f1, .int .u64 f2, .int .u64 f3] 161)).heap.size = w.heap.size + 1 := by simp
    have s2 : ((w.alloc (.cells #[.int .u64 f0, .int .u64 f1, .int .u64 f2, .int .u64 f3] 161)).alloc (.cells #[.int .u64 q0, .int .u64 q1, .int .u64 q2, .int .u64 q3] 161)).heap.size = w.heap.size + 1 + 1 := by simp
    have s3 : (((w.alloc (.cells #[.int .u64 f0, .int .u64 f1, .int .u64 f2, .int .u64 f3] 161)).alloc (.cells #[.int .u64 q0, .int .u64 q1, .int .u64 q2, .int .u64 q3] 161)).alloc (.cells #[.int .u64 0, .int .u64 0, .int .u64 0, .int .u64 0] 161)).heap.size = w.heap.size + 1 + 1 + 1 := by simp
    have s4 : ((((w.alloc (.cells #[.int .u64 f0, .int .u64 f1, .int .u64 f2, .int .u64 f3] 161)).alloc (.cells #[.int .u64 q0, .int .u64 q1, .int .u64 q2, .int .u64 q3] 161)).alloc (.cells #[.int .u64 0, .int .u64 0, .int .u64 0, .int .u64 0] 161)).alloc (.cells #[.int .u64 f0, .int .u64 f1, .int .u64 f2, .int .u64 f3] 161)).heap.size = w.heap.size + 1 + 1 + 1 + 1 := by simp
    rw [s1] at B1
    rw [s2] at B2
    rw [s3] at B3
    rw [s4] at B4
    have hR' : serN (300 - 0) true F F Q (n + 2 * 0) = R := hR.symm
    rcases hb with ⟨h7, h8⟩ | ⟨h8, h7⟩
    · exact ⟨b7, b8, e7, e8, by omega, by omega, by omega, 0, true, F, F, rfl, rfl, ⟨_, _, _, _, wf, nf, ef, by rw [h7]; exact B3⟩, ⟨_, _, _, _, wf, nf, ef, by rw [h8]; exact B4⟩, ⟨_, _, _, _, wq, nq, eq, B1⟩, B2, by simp, by omega, hR', HB.drew⟩
    · exact ⟨b7, b8, e7, e8, by omega, by omega, by omega, 0, true, F, F, rfl, rfl, ⟨_, _, _, _, wf, nf, ef, by rw [h7]; exact B4⟩, ⟨_, _, _, _, wf, nf, ef, by rw [h8]; exact B3⟩, ⟨_, _, _, _, wq, nq, eq, B1⟩, B2, by simp, by omega, hR', HB.drew⟩
  rw [ef, eq]
  have HI := Lib.hid HI
  unfold numD
  go_enter Tryz.func173, Tryz.ntmps173
  go_upto_region 1 with fail
  go_cut [7, 8] from 10 to 11 (fun p7 p8 wx => ∃ c7 c8 : Nat, p7 = Value.pointer (some ⟨c7, 0, none⟩) ∧ p8 = Value.pointer (some ⟨c8, 0, none⟩) ∧ c7 ≠ c8 ∧ w.heap.size + 2 < c7 ∧ w.heap.size + 2 < c8 ∧ SRel w c7 c8 F Q n R (.int .u64 (n : Int)) (.bool true) wx)
  case first =>
    go_region_with fail
    all_goals (
      go_wp2_with fail
      go_meet
      first
        | exact HI.out _ _ _ _ ⟨rfl, rfl⟩ (.inl ⟨rfl, rfl⟩)
        | exact HI.out _ _ _ _ ⟨rfl, rfl⟩ (.inr ⟨rfl, rfl⟩))
  case rest =>
    obtain ⟨b7, b8, rfl, rfl, h78, h7, h8, hcut⟩ := hcut
    have HC := Lib.hid hcut
    clear hcut HI hR wf nf ef wq nq eq
    go_wp2_with fail
    go_loopw [2, 9] (fun a m wr => SRel w b7 b8 F Q n R a m wr) (fun a _ _ => 1000 - uOf a)
    case atStart => exact HC.out
    case round =>
      clear HC
      obtain ⟨j, m, S, T, rfl, rfl, ⟨s0, s1, s2, s3, ws, ns, es, kS⟩, ⟨t0, t1, t2, t3, wt, nt, et, kT⟩, ⟨q0, q1, q2, q3, wq, nq, eq, kQ⟩, kZ, hT, hj, hs, hb⟩ := hrel
      have l7 := kS.lt
      have l8 := kT.lt
      obtain ⟨⟨a0, a1, a2, a3⟩, a4, a5, a6, a7⟩ := keepB kS
      obtain ⟨⟨b0, b1, b2, b3⟩, b4, b5, b6, b7'⟩ := keepB kT
      obtain ⟨⟨c0, c1, c2, c3⟩, c4, c5, c6, c7⟩ := keepB kQ
      obtain ⟨⟨d0, d1, d2, d3⟩, d4, d5, d6, d7⟩ := keepB kZ
      have HB := Lib.hid hb
      have KS := Lib.hid kS
      have KT := Lib.hid kT
      have KQ := Lib.hid kQ
      have KZ := Lib.hid kZ
      have HS := Lib.hid hs
      have WS := Lib.hid ws
      have WT := Lib.hid wt
      have WQ := Lib.hid wq
      have NS := Lib.hid ns
      have NT := Lib.hid nt
      have NQ := Lib.hid nq
      have ES := Lib.hid es
      have ET := Lib.hid et
      have EQ := Lib.hid eq
      clear hb kS kT kQ kZ hs ws wt wq ns nt nq es et eq
      rcases Nat.eq_zero_or_pos T with hz | hz
      · subst hz
        have hw : t0 = 0 ∧ t1 = 0 ∧ t2 = 0 ∧ t3 = 0 := by
          have e := NT.out
          obtain ⟨⟨_, _⟩, ⟨_, _⟩, ⟨_, _⟩, ⟨_, _⟩⟩ := WT.out
          unfold num at e
          omega
        obtain ⟨rfl, rfl, rfl, rfl⟩ := hw
        have hRS : R = S := by
          have h := HS.out
          obtain ⟨f, hf⟩ : ∃ f, 300 - j = f + 1 := ⟨299 - j, by omega⟩
          rw [hf, serN, if_pos rfl] at h
          exact h.symm
        have KF := KZ.out.write s0 s1 s2 s3
        obtain ⟨⟨r0, r1, r2, r3⟩, r4, r5, r6, r7⟩ := keepB KF
        have HF := Lib.hid ((((HB.out.setCell (p := ⟨w.heap.size + 1 + 1, 0, none⟩) (by simp; omega) (.int .u64 s0)).setCell (p := ⟨w.heap.size + 1 + 1, 1, none⟩) (by simp; omega) (.int .u64 s1)).setCell (p := ⟨w.heap.size + 1 + 1, 2, none⟩) (by simp; omega) (.int .u64 s2)).setCell (p := ⟨w.heap.size + 1 + 1, 3, none⟩) (by simp; omega) (.int .u64 s3))
        have HRS := Lib.hid hRS
        have HE : ∀ wr : World, (Op.equalIn 10000 161 (.agg #[.int .u64 0, .int .u64 0, .int .u64 0, .int .u64 0]) (.agg #[.int .u64 0, .int .u64 0, .int .u64 0, .int .u64 0])).run Tryz.prog wr = .ok true wr := fun wr => eq73 _ _ _ _ _ _ _ _ wr
        clear KF hRS hT
        go_wp2
        refine bodyPost_ret (v := bigV (R : Int)) (by rw [HRS.out, ES.out]; simp [results, Tryz.results173, go_sem, numD, r0, r1, r2, r3]) rfl ⟨rfl, HF.out⟩
      · have hj2 : j < 200 := by
          rcases Nat.lt_or_ge j 200 with h | h
          · exact h
          · exfalso
            have h1 : 2 ^ 200 ≤ 2 ^ j := Nat.pow_le_pow_right (by omega) h
            have h2 : 1 * 2 ^ j ≤ T * 2 ^ j := Nat.mul_le_mul_right _ hz
            have h3 : (2 : Nat) ^ 200 = 1606938044258990275541962092341162602522202993782792835301376 := by decide
            omega
        have hne : (t0 == 0 && (t1 == 0 && (t2 == 0 && t3 == 0))) = false := by
          cases h : (t0 == 0 && (t1 == 0 && (t2 == 0 && t3 == 0)))
          · rfl
          · exfalso
            simp only [Bool.and_eq_true, beq_iff_eq] at h
            obtain ⟨rfl, rfl, rfl, rfl⟩ := h
            have e := NT.out
            unfold num at e
            omega
        have HE : ∀ wr : World, (Op.equalIn 10000 161 (.agg #[.int .u64 t0, .int .u64 t1, .int .u64 t2, .int .u64 t3]) (.agg #[.int .u64 0, .int .u64 0, .int .u64 0, .int .u64 0])).run Tryz.prog wr = .ok false wr := fun wr => by rw [eq73, hne]
        generalize hN : n + 2 * j = N at *
        have hNb : N ≤ 500 := by omega
        have hT200 : T < 1606938044258990275541962092341162602522202993782792835301376 := by
          have : T * 1 ≤ T * 2 ^ j := Nat.mul_le_mul_left _ (Nat.one_le_two_pow)
          omega
        have hS256 : S < 115792089237316195423570985008687907853269984665640564039457584007913129639936 := by
          have := num_bd _ _ _ _ WS.out
          have e := NS.out
          omega
        have hU := serT_le T Q N hQ
        have C81 := bmul_any (T : Int) (Q : Int) ⟨by omega, by omega⟩ ⟨by omega, by omega⟩
        obtain ⟨m0, m1, m2, m3, wm, nm, em⟩ := big_words (V := ((T * Q / 6277101735386680763835789423207666416102355444464034512896 % 115792089237316195423570985008687907853269984665640564039457584007913129639936 : Nat) : Int)) ⟨by omega, by omega⟩
        have hM : ((T : Int) * (Q : Int) / 6277101735386680763835789423207666416102355444464034512896 % 115792089237316195423570985008687907853269984665640564039457584007913129639936) = ((T * Q / 6277101735386680763835789423207666416102355444464034512896 % 115792089237316195423570985008687907853269984665640564039457584007913129639936 : Nat) : Int) := by rw [Int.natCast_emod, Int.natCast_ediv, Int.natCast_mul]; rfl
        rw [ET.out, EQ.out, hM, em] at C81
        have hd1 : 2 ≤ (N + 1) * (N + 2) := Nat.mul_le_mul (show 1 ≤ N + 1 by omega) (show 2 ≤ N + 2 by omega)
        have hd2 : (N + 1) * (N + 2) ≤ 501 * 502 := Nat.mul_le_mul (by omega) (by omega)
        have C80 := bover_any ((T * Q / 6277101735386680763835789423207666416102355444464034512896 % 115792089237316195423570985008687907853269984665640564039457584007913129639936 : Nat) : Int) (((N + 1) * (N + 2) : Nat) : Int) ⟨by omega, by omega⟩ (by omega) (by omega)
        obtain ⟨u0, u1, u2, u3, wu, nu, eu⟩ := big_words (V := (serT T Q N : Int)) ⟨by omega, by omega⟩
        have hUd : (((T * Q / 6277101735386680763835789423207666416102355444464034512896 % 115792089237316195423570985008687907853269984665640564039457584007913129639936 : Nat) : Int) / (((N + 1) * (N + 2) : Nat) : Int)) = (serT T Q N : Int) := by unfold serT; rw [Int.natCast_ediv]
        rw [em, hUd, eu] at C80
        have hRec : serN (300 - (j + 1)) (!m) (serS m S (serT T Q N)) (serT T Q N) Q (n + 2 * (j + 1)) = R := by
          have h := HS.out
          obtain ⟨f, hf⟩ : ∃ f, 300 - j = f + 1 := ⟨299 - j, by omega⟩
          rw [hf, serN, if_neg (by omega)] at h
          rw [show 300 - (j + 1) = f by omega, show n + 2 * (j + 1) = N + 2 by omega]
          exact h
        have hT' : serT T Q N * 2 ^ (j + 1) ≤ F := by
          have : serT T Q N * 2 * 2 ^ j ≤ T * 2 ^ j := Nat.mul_le_mul_right _ (by omega)
          rw [Nat.pow_succ, Nat.mul_comm (2 ^ j) 2, ← Nat.mul_assoc]
          omega
        obtain ⟨v0, v1, v2, v3, wv, nv, ev⟩ := big_words (V := (serS m S (serT T Q N) : Int)) ⟨by omega, by unfold serS; split <;> omega⟩
        have hDD : (((N + 1) * (N + 2) : Nat) : Int) = ((N : Int) + 1) * ((N : Int) + 2) := by push_cast; rfl
        have W1 : IntKind.u64.wrap ((N : Int) + 1) = (N : Int) + 1 := wrap_id _ (by omega) (by omega)
        have W2 : IntKind.u64.wrap ((N : Int) + 2) = (N : Int) + 2 := wrap_id _ (by omega) (by omega)
        have W3 : IntKind.u64.wrap (((N : Int) + 1) * ((N : Int) + 2)) = ((N : Int) + 1) * ((N : Int) + 2) := by rw [← hDD]; exact wrap_id _ (by omega) (by omega)
        rw [hDD] at C80
        have hAdd : ∀ w, m = false → Calls Tryz.prog 187 #[numD s0 s1 s2 s3, numD u0 u1 u2 u3] w (GPost (numD v0 v1 v2 v3) w) := fun w hm => by
          have h := badd_any (S : Int) (serT T Q N : Int) ⟨by omega, by omega⟩ ⟨by omega, by omega⟩ w
          have e : ((S : Int) + (serT T Q N : Int)) % 115792089237316195423570985008687907853269984665640564039457584007913129639936 = (serS m S (serT T Q N) : Int) := by
            subst hm; unfold serS; rw [if_neg (by simp), Int.natCast_emod, Int.natCast_add]; rfl
          rw [ES.out, eu, e, ev] at h
          exact h
        have hSub : ∀ w, m = true → Calls Tryz.prog 186 #[numD s0 s1 s2 s3, numD u0 u1 u2 u3] w (GPost (numD v0 v1 v2 v3) w) := fun w hm => by
          have h := bsub_any (S : Int) (serT T Q N : Int) ⟨by omega, by omega⟩ ⟨by omega, by omega⟩ w
          have e : ((S : Int) - (serT T Q N : Int)) % 115792089237316195423570985008687907853269984665640564039457584007913129639936 = (serS m S (serT T Q N) : Int) := by
            subst hm; unfold serS; rw [if_pos rfl]; omega
          rw [ES.out, eu, e, ev] at h
          exact h
        have C81 := Lib.hid C81
        have C80 := Lib.hid C80
        have hAdd := Lib.hid hAdd
        have hSub := Lib.hid hSub
        have hRec := Lib.hid hRec
        have hT' := Lib.hid hT'
        have wu := Lib.hid wu
        have wv := Lib.hid wv
        have nu := Lib.hid nu
        have nv := Lib.hid nv
        have eu := Lib.hid eu
        have ev := Lib.hid ev
        have hN2 := Lib.hid (show (N : Int) + 2 = ((n + 2 * (j + 1) : Nat) : Int) by omega)
        have hN := Lib.hid hN
        clear hU hM hd1 hd2 hUd hDD wm nm em hne hT hT200 hS256 hF hQ
        generalize serS m S (serT T Q N) = S' at *
        generalize serT T Q N = T' at *
        unfold numD at C81 C80 hAdd hSub
        go_wp2_with fail
        refine (C81.out _).mono ?_
        rintro e w1 ⟨rfl, hb⟩
        have KS := Lib.hid (blk_below hb KS.out)
        have KT := Lib.hid (blk_below hb KT.out)
        have KQ := Lib.hid (blk_below hb KQ.out)
        have KZ := Lib.hid (blk_below hb KZ.out)
        have HB := Lib.hid (HB.out.trans (hb.mono HB.out.size))
        clear hb
        go_wp2_with fail
        refine (C80.out _).mono ?_
        rintro e w2 ⟨rfl, hb⟩
        have kT := blk_below hb KT.out
        have l9 := kT.lt
        obtain ⟨⟨g0, g1, g2, g3⟩, g4, g5, g6, g7⟩ := keepB kT
        have kS := (blk_below hb KS.out).other h78 (.int .u64 u0) (.int .u64 u1) (.int .u64 u2) (.int .u64 u3)
        have l6 := kS.lt
        obtain ⟨⟨i0, i1, i2, i3⟩, i4, i5, i6, i7⟩ := keepB kS
        have kU := kT.write u0 u1 u2 u3
        obtain ⟨⟨p0, p1, p2, p3⟩, p4, p5, p6, p7⟩ := keepB kU
        have KQ := Lib.hid ((blk_below hb KQ.out).other (b' := b8) (by omega) (.int .u64 u0) (.int .u64 u1) (.int .u64 u2) (.int .u64 u3))
        have KZ := Lib.hid ((blk_below hb KZ.out).other (b' := b8) (by omega) (.int .u64 u0) (.int .u64 u1) (.int .u64 u2) (.int .u64 u3))
        have HB := Lib.hid (((((HB.out.trans (hb.mono HB.out.size)).setCell (p := ⟨b8, 0, none⟩) (by simp; omega) (.int .u64 u0)).setCell (p := ⟨b8, 1, none⟩) (by simp; omega) (.int .u64 u1)).setCell (p := ⟨b8, 2, none⟩) (by simp; omega) (.int .u64 u2)).setCell (p := ⟨b8, 3, none⟩) (by simp; omega) (.int .u64 u3))
        have KS := Lib.hid kS
        have KU := Lib.hid kU
        clear hb kT kS kU KT
        cases m
        · have H9 := Lib.hid (fun w => hAdd.out w rfl)
          clear hSub hAdd
          go_wp2_with fail
          generalize (((w2.setCell ⟨b8, 0, none⟩ (.int .u64 u0)).setCell ⟨b8, 1, none⟩ (.int .u64 u1)).setCell ⟨b8, 2, none⟩ (.int .u64 u2)).setCell ⟨b8, 3, none⟩ (.int .u64 u3) = w3 at *
          refine (H9.out _).mono ?_
          rintro e w4 ⟨rfl, hb⟩
          have kS := blk_below hb KS.out
          have l5 := kS.lt
          obtain ⟨⟨x0, x1, x2, x3⟩, x4, x5, x6, x7⟩ := keepB kS
          have KF := Lib.hid (kS.write v0 v1 v2 v3)
          have KU := Lib.hid ((blk_below hb KU.out).other h78.symm (.int .u64 v0) (.int .u64 v1) (.int .u64 v2) (.int .u64 v3))
          have KQ := Lib.hid ((blk_below hb KQ.out).other (b' := b7) (by omega) (.int .u64 v0) (.int .u64 v1) (.int .u64 v2) (.int .u64 v3))
          have KZ := Lib.hid ((blk_below hb KZ.out).other (b' := b7) (by omega) (.int .u64 v0) (.int .u64 v1) (.int .u64 v2) (.int .u64 v3))
          have HB := Lib.hid (((((HB.out.trans (hb.mono HB.out.size)).setCell (p := ⟨b7, 0, none⟩) (by simp; omega) (.int .u64 v0)).setCell (p := ⟨b7, 1, none⟩) (by simp; omega) (.int .u64 v1)).setCell (p := ⟨b7, 2, none⟩) (by simp; omega) (.int .u64 v2)).setCell (p := ⟨b7, 3, none⟩) (by simp; omega) (.int .u64 v3))
          clear hb kS
          go_wp2
          go_roundw
          case rel => exact ⟨j + 1, _, S', T', congrArg (Value.int .u64) hN2.out, rfl, ⟨_, _, _, _, wv.out, nv.out, ev.out, KF.out⟩, ⟨_, _, _, _, wu.out, nu.out, eu.out, KU.out⟩, ⟨_, _, _, _, WQ.out, NQ.out, EQ.out, KQ.out⟩, KZ.out, hT'.out, by omega, hRec.out, HB.out⟩
          case measure => simp [uOf]; omega
        · have H9 := Lib.hid (fun w => hSub.out w rfl)
          clear hAdd hSub
          go_wp2_with fail
          generalize (((w2.setCell ⟨b8, 0, none⟩ (.int .u64 u0)).setCell ⟨b8, 1, none⟩ (.int .u64 u1)).setCell ⟨b8, 2, none⟩ (.int .u64 u2)).setCell ⟨b8, 3, none⟩ (.int .u64 u3) = w3 at *
          refine (H9.out _).mono ?_
          rintro e w4 ⟨rfl, hb⟩
          have kS := blk_below hb KS.out
          have l5 := kS.lt
          obtain ⟨⟨x0, x1, x2, x3⟩, x4, x5, x6, x7⟩ := keepB kS
          have KF := Lib.hid (kS.write v0 v1 v2 v3)
          have KU := Lib.hid ((blk_below hb KU.out).other h78.symm (.int .u64 v0) (.int .u64 v1) (.int .u64 v2) (.int .u64 v3))
          have KQ := Lib.hid ((blk_below hb KQ.out).other (b' := b7) (by omega) (.int .u64 v0) (.int .u64 v1) (.int .u64 v2) (.int .u64 v3))
          have KZ := Lib.hid ((blk_below hb KZ.out).other (b' := b7) (by omega) (.int .u64 v0) (.int .u64 v1) (.int .u64 v2) (.int .u64 v3))
          have HB := Lib.hid (((((HB.out.trans (hb.mono HB.out.size)).setCell (p := ⟨b7, 0, none⟩) (by simp; omega) (.int .u64 v0)).setCell (p := ⟨b7, 1, none⟩) (by simp; omega) (.int .u64 v1)).setCell (p := ⟨b7, 2, none⟩) (by simp; omega) (.int .u64 v2)).setCell (p := ⟨b7, 3, none⟩) (by simp; omega) (.int .u64 v3))
          clear hb kS
          go_wp2
          go_roundw
          case rel => exact ⟨j + 1, _, S', T', congrArg (Value.int .u64) hN2.out, rfl, ⟨_, _, _, _, wv.out, nv.out, ev.out, KF.out⟩, ⟨_, _, _, _, wu.out, nu.out, eu.out, KU.out⟩, ⟨_, _, _, _, WQ.out, NQ.out, EQ.out, KQ.out⟩, KZ.out, hT'.out, by omega, hRec.out, HB.out⟩
          case measure => simp [uOf]; omega
end Go.Proofs.YtfilgpifiboccaaGreat
