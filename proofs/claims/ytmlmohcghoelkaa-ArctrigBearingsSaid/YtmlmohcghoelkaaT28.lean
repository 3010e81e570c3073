import Derived.Test.YtmlmohcghoelkaaT27
import Derived.Laws.StructEq
namespace Go.Proofs.Ytmlmohcghoelkaa
open Go.RowKit
/-- A variable of arctrig's numbers. -/
def Blk (w : World) (b : Nat) (a0 a1 a2 a3 : Int) : Prop := w.heap[b]? = some (.cells #[.int .u64 a0, .int .u64 a1, .int .u64 a2, .int .u64 a3] 73 (0, 0))
theorem Blk.lt {w : World} {b : Nat} {a0 a1 a2 a3 : Int} (h : Blk w b a0 a1 a2 a3) : b < w.heap.size := by
  unfold Blk at h
  exact (Array.getElem?_eq_some_iff.1 h).1
theorem blk_below {w w' : World} {b : Nat} {a0 a1 a2 a3 : Int} (hb : Below w.heap.size w w') (h : Blk w b a0 a1 a2 a3) : Blk w' b a0 a1 a2 a3 := (hb.block b h.lt).trans h
theorem Blk.alloc {w : World} {b : Nat} {a0 a1 a2 a3 : Int} (h : Blk w b a0 a1 a2 a3) (o : Obj) : Blk (w.alloc o) b a0 a1 a2 a3 := blk_below ((Below.refl _ _).alloc (Nat.le_refl _) _) h
theorem Blk.write {w : World} {b : Nat} {a0 a1 a2 a3 : Int} (h : Blk w b a0 a1 a2 a3) (v0 v1 v2 v3 : Int) :
    Blk ((((w.setCell ⟨b, 0, none⟩ (.int .u64 v0)).setCell ⟨b, 1, none⟩ (.int .u64 v1)).setCell ⟨b, 2, none⟩ (.int .u64 v2)).setCell ⟨b, 3, none⟩ (.int .u64 v3)) b v0 v1 v2 v3 := by
  unfold Blk at *
  simp [World.setCell, h, Array.getElem?_modify]
theorem Blk.other {w : World} {b b' : Nat} {a0 a1 a2 a3 : Int} (h : Blk w b a0 a1 a2 a3) (hb : b ≠ b') (v0 v1 v2 v3 : Value) :
    Blk ((((w.setCell ⟨b', 0, none⟩ v0).setCell ⟨b', 1, none⟩ v1).setCell ⟨b', 2, none⟩ v2).setCell ⟨b', 3, none⟩ v3) b a0 a1 a2 a3 := by
  unfold Blk at *
  have hb' : b' ≠ b := fun e => hb e.symm
  simp [World.setCell, h, Array.getElem?_modify, hb']
theorem keepB {w : World} {b : Nat} {a0 a1 a2 a3 : Int} (h : Blk w b a0 a1 a2 a3) :
    (w.cell? ⟨b, 0, none⟩ = some (.int .u64 a0) ∧ w.cell? ⟨b, 1, none⟩ = some (.int .u64 a1) ∧ w.cell? ⟨b, 2, none⟩ = some (.int .u64 a2) ∧ w.cell? ⟨b, 3, none⟩ = some (.int .u64 a3)) ∧
    w.frozen? ⟨b, 0, none⟩ = false ∧ w.frozen? ⟨b, 1, none⟩ = false ∧ w.frozen? ⟨b, 2, none⟩ = false ∧ w.frozen? ⟨b, 3, none⟩ = false := by
  unfold Blk at h
  refine ⟨⟨?_, ?_, ?_, ?_⟩, ?_, ?_, ?_, ?_⟩ <;> simp [World.cell?, World.frozen?, h]
theorem pi_any (w : World) : Calls Try.prog 79 #[] w (GPost (bigV 19720096697726538562396133364228268891463450865190089732560) w) := by
  have e : bigV 19720096697726538562396133364228268891463450865190089732560 = numD 3 2611923443488327891 1376283091369227076 11820040416388919760 := by unfold bigV; simp
  rw [e]
  have HB := Lib.hid ((Below.refl w.heap.size w).alloc (Nat.le_refl _) (.cells #[.int .u64 3, .int .u64 2611923443488327891, .int .u64 1376283091369227076, .int .u64 11820040416388919760] 73))
  unfold numD
  go_enter Try.func79, Try.ntmps79
  go_wp2
  refine bodyPost_ret (v := numD 3 2611923443488327891 1376283091369227076 11820040416388919760) (by simp [results, Try.results79, go_sem, numD]) rfl ⟨rfl, HB.out⟩
theorem eq73 (a b c d e f g h : Int) (w : World) : (Op.equalIn 10000 73 (.agg #[.int .u64 a, .int .u64 b, .int .u64 c, .int .u64 d]) (.agg #[.int .u64 e, .int .u64 f, .int .u64 g, .int .u64 h])).run Try.prog w = .ok (a == e && (b == f && (c == g && d == h))) w := by
  have u3 := Try.underlying71
  have a3 := Try.isAgg71
  have z3 := Try.sizeOf71
  rw [show (10000 : Nat) = 9999 + 1 from rfl, Op.equalIn]
  simp only [Sem.run_bind, run_underlying Try.underlying73, Result.andThen_ok]
  simp only [Std.Legacy.Range.forIn_eq_forIn_range', Std.Legacy.Range.size, Nat.sub_zero, Nat.add_sub_cancel, Nat.div_one, List.range'_succ, List.range'_zero, List.forIn_cons, List.forIn_nil]
  go_simp
  by_cases h1 : a = e <;> by_cases h2 : b = f <;> by_cases h3 : c = g <;> by_cases h4 : d = h <;> simp [h1, h2, h3, h4]
theorem eq25 (a b c d : Int) (w : World) : (Op.equalIn 10000 25 (.agg #[.int .i64 a, .int .i64 b]) (.agg #[.int .i64 c, .int .i64 d])).run Try.prog w = .ok (a == c && b == d) w := by
  have u3 := Try.underlying3
  have a3 := Try.isAgg3
  have z3 := Try.sizeOf3
  have hS : Try.prog.underlying 25 = some (.struct (Try.prog.fieldsOf 25)) := by kernel_rfl
  have hp : Try.prog.stoodInHeld 25 = false := by kernel_rfl
  rw [show (10000 : Nat) = 9999 + 1 from rfl, run_equalIn_agg w 9999 25 _ _ hS hp]
  simp only [Program.fieldsOf, Try.underlying25]
  go_simp
  by_cases h1 : a = c <;> by_cases h2 : b = d <;> simp [h1, h2]
end Go.Proofs.Ytmlmohcghoelkaa
