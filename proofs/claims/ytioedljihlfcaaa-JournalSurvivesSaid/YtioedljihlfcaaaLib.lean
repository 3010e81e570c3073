/-
  Journal seat: the plain words (bytes, frames, sums) and what a slice of bytes reads as. No walk here.
-/
import Derived.Test.YtioedljihlfcaaaChecked
import Derived.WalkKit
import Derived.Lib.Hide
import Derived.Deep.Draws
import Derived.Deep.AppendLies
import Derived.Deep.QuietTactic
import Derived.BigQuiet
namespace Go.Proofs.Ytioedljihlfcaaa
open Go.RowKit

/-! ### sums and numbers -/
def sumStep (s b : Int) : Int := (31 * s + b + 1) % 4294967296
def sumL (l : List Int) : Int := l.foldl sumStep 7
def rd (l : List Int) : Int := l.getD 0 0 * 16777216 + l.getD 1 0 * 65536 + l.getD 2 0 * 256 + l.getD 3 0
def num4 (n : Int) : List Int := [n / 16777216, n / 65536 % 256, n / 256 % 256, n % 256]

theorem sumStep_bd (s b : Int) : 0 ≤ sumStep s b ∧ sumStep s b < 4294967296 := by unfold sumStep; omega
theorem sumL_bd (l : List Int) : 0 ≤ sumL l ∧ sumL l < 4294967296 := by
  unfold sumL
  suffices ∀ s : Int, (0 ≤ s ∧ s < 4294967296) → 0 ≤ l.foldl sumStep s ∧ l.foldl sumStep s < 4294967296 from this 7 (by omega)
  induction l with
  | nil => intro s h; exact h
  | cons a r ih => intro s _; exact ih _ (sumStep_bd s a)
theorem sumL_snoc (l : List Int) (b : Int) : sumL (l ++ [b]) = sumStep (sumL l) b := by simp [sumL]

/-! ### frames -/
def frameOk (l : List Int) : Bool :=
  decide (8 ≤ l.length) && decide (rd l ≤ 65535) && decide (rd l + 8 ≤ l.length) && decide (rd (l.drop (4 + (rd l).toNat)) = sumL (l.take (4 + (rd l).toNat)))
def recOf (l : List Int) : List Int := (l.drop 4).take (rd l).toNat
def restOf (l : List Int) : List Int := l.drop (8 + (rd l).toNat)
def framesF : Nat → List Int → List (List Int)
  | 0, _ => []
  | f + 1, l => if frameOk l then recOf l :: framesF f (restOf l) else []
def frames (l : List Int) : List (List Int) := framesF l.length l
/-- Where frames end, the first being at a place. -/
def cum : Nat → List (List Int) → List Int
  | at_, [] => [(at_ : Int)]
  | at_, r :: rs => (at_ : Int) :: cum (at_ + 8 + r.length) rs
def total (rs : List (List Int)) : Nat := (rs.map (fun r => 8 + r.length)).sum

def AllBytes (l : List Int) : Prop := ∀ b ∈ l, 0 ≤ b ∧ b < 256
theorem AllBytes.getD {l : List Int} (h : AllBytes l) (i : Nat) : 0 ≤ l.getD i 0 ∧ l.getD i 0 < 256 := by
  rw [List.getD_eq_getElem?_getD]
  by_cases hi : i < l.length
  · rw [List.getElem?_eq_getElem hi]; exact h _ (List.getElem_mem hi)
  · rw [List.getElem?_eq_none (by omega)]; simp
theorem AllBytes.rd_bd {l : List Int} (h : AllBytes l) : 0 ≤ rd l ∧ rd l < 4294967296 := by
  unfold rd
  have h0 := h.getD 0; have h1 := h.getD 1; have h2 := h.getD 2; have h3 := h.getD 3
  omega
theorem AllBytes.drop {l : List Int} (h : AllBytes l) (k : Nat) : AllBytes (l.drop k) := fun b hb => h b (List.mem_of_mem_drop hb)
theorem AllBytes.take {l : List Int} (h : AllBytes l) (k : Nat) : AllBytes (l.take k) := fun b hb => h b (List.mem_of_mem_take hb)
theorem AllBytes.append {l r : List Int} (h : AllBytes l) (k : AllBytes r) : AllBytes (l ++ r) := fun b hb => (List.mem_append.1 hb).elim (h b) (k b)

theorem frameOk_iff (l : List Int) : frameOk l = true ↔ 8 ≤ l.length ∧ rd l ≤ 65535 ∧ rd l + 8 ≤ l.length ∧ rd (l.drop (4 + (rd l).toNat)) = sumL (l.take (4 + (rd l).toNat)) := by
  simp [frameOk, and_assoc]
theorem restOf_length (l : List Int) : (restOf l).length = l.length - (8 + (rd l).toNat) := by simp [restOf]
theorem recOf_length {l : List Int} (h : frameOk l = true) (hb : AllBytes l) : (recOf l).length = (rd l).toNat := by
  rw [frameOk_iff] at h
  have := hb.rd_bd
  simp [recOf]; omega
theorem framesF_more : ∀ (f : Nat) (l : List Int), l.length ≤ f → framesF f l = framesF l.length l := by
  intro f
  induction f using Nat.strongRecOn with
  | _ f ih =>
    intro l hl
    cases f with
    | zero =>
      have : l = [] := List.eq_nil_of_length_eq_zero (by omega)
      subst this; rfl
    | succ f =>
      cases hn : l.length with
      | zero =>
        have : l = [] := List.eq_nil_of_length_eq_zero hn
        subst this
        have : frameOk [] = false := by simp [frameOk]
        simp [framesF, this]
      | succ m =>
        simp only [framesF]
        by_cases hok : frameOk l = true
        · rw [if_pos hok, if_pos hok]
          have h8 := (frameOk_iff l).1 hok
          have hr := restOf_length l
          rw [ih f (by omega) (restOf l) (by omega), ih m (by omega) (restOf l) (by omega)]
        · rw [if_neg hok, if_neg hok]
theorem frames_yes {l : List Int} (h : frameOk l = true) : frames l = recOf l :: frames (restOf l) := by
  have h8 := (frameOk_iff l).1 h
  have hr := restOf_length l
  unfold frames
  obtain ⟨m, hm⟩ : ∃ m, l.length = m + 1 := ⟨l.length - 1, by omega⟩
  rw [hm]
  simp only [framesF]
  rw [if_pos h, framesF_more m _ (by omega)]
theorem frames_no {l : List Int} (h : frameOk l = false) : frames l = [] := by
  unfold frames
  cases l.length with
  | zero => rfl
  | succ m => simp [framesF, h]

/-! ### memory -/
/-- The slice value '.slice A n c' reads as the list of bytes l. -/
structure Bytes (w : World) (A : Option Addr) (n c : Nat) (l : List Int) : Prop where
  len : l.length = n
  le : n ≤ c
  cap : c ≤ 9223372036854775807
  bytes : AllBytes l
  cells : 0 < n → ∃ b off, A = some ⟨b, off, none⟩ ∧ b < w.heap.size ∧ ∀ i, i < n → w.cell? ⟨b, off + i, none⟩ = some (.int .u8 (l.getD i 0))
  null : A = none → c = 0

section
variable {w w' : World} {A : Option Addr} {n c : Nat} {l : List Int}
theorem Bytes.below {B : Nat} (h : Bytes w A n c l) (hb : Below B w w') (hB : w.heap.size ≤ B) : Bytes w' A n c l :=
  ⟨h.len, h.le, h.cap, h.bytes, fun hn => by
    obtain ⟨b, off, e, hlt, hc⟩ := h.cells hn
    exact ⟨b, off, e, Nat.lt_of_lt_of_le hlt hb.size, fun i hi => (hb.cell (p := ⟨b, off + i, none⟩) (Nat.lt_of_lt_of_le hlt hB)).trans (hc i hi)⟩, h.null⟩
theorem Bytes.drewN (h : Bytes w A n c l) (k : Nat) : Bytes (w.drewN k) A n c l := ⟨h.len, h.le, h.cap, h.bytes, h.cells, h.null⟩
theorem Bytes.alloc (h : Bytes w A n c l) (o : Obj) : Bytes (w.alloc o) A n c l := h.below ((Below.refl _ _).alloc (Nat.le_refl _) o) (Nat.le_refl _)
theorem getD_drop (l : List Int) (k i : Nat) : (l.drop k).getD i 0 = l.getD (k + i) 0 := by simp [List.getD_eq_getElem?_getD, List.getElem?_drop]
theorem getD_take (l : List Int) (k i : Nat) (h : i < k) : (l.take k).getD i 0 = l.getD i 0 := by simp [List.getD_eq_getElem?_getD, h]
/-- A cut 'b[lo:hi]'. -/
theorem Bytes.cut (h : Bytes w A n c l) {lo hi : Nat} (h1 : lo ≤ hi) (h2 : hi ≤ n) : Bytes w (if c = lo then A else A.map (·.add lo)) (hi - lo) (c - lo) ((l.drop lo).take (hi - lo)) := by
  have hl := h.len
  have hle := h.le
  refine ⟨by simp; omega, by omega, by have := h.cap; omega, (h.bytes.drop lo).take _, fun hn => ?_, fun hA => ?_⟩
  · obtain ⟨b, off, rfl, hlt, hc⟩ := h.cells (by omega)
    rw [if_neg (by omega)]
    refine ⟨b, off + lo, ?_, hlt, fun i hi' => ?_⟩
    · simp only [Option.map, Addr.add]
      by_cases h0 : lo = 0 <;> simp [h0]
    · rw [Nat.add_assoc, hc _ (by omega), getD_take _ _ _ (by omega), getD_drop]
  · by_cases e : c = lo
    · omega
    · rw [if_neg e] at hA
      cases A with
      | none => have := h.null rfl; omega
      | some a => simp at hA
theorem Bytes.to_end (h : Bytes w A n c l) {lo : Nat} (h1 : lo ≤ n) : Bytes w (if c = lo then A else A.map (·.add lo)) (n - lo) (c - lo) (l.drop lo) := by
  have := h.cut (lo := lo) (hi := n) h1 (Nat.le_refl _)
  rwa [List.take_of_length_le (by have := h.len; simp; omega)] at this
theorem Bytes.upto (h : Bytes w A n c l) {hi : Nat} (h2 : hi ≤ n) : Bytes w A hi c (l.take hi) := by
  have hl := h.len
  refine ⟨by simp; omega, by have := h.le; omega, h.cap, h.bytes.take _, fun hn => ?_, h.null⟩
  obtain ⟨b, off, e, hlt, hc⟩ := h.cells (by omega)
  exact ⟨b, off, e, hlt, fun i hi' => by rw [hc i (by omega), getD_take _ _ _ hi']⟩
end
/- four small lemmas after the guide's list -/
theorem quiet_add {P : Program} {f : FuncId} {args : Array Value} {w : World} {a n : Nat} {v : Value}
    (h : Calls P f args (w.drewN (a + n)) fun e w' => e = .returned v ∧ ∃ m, w' = (w.drewN (a + n)).drewN m) :
    Calls P f args (w.drewN (a + n)) fun e w'' => e = .returned v ∧ ∃ m, w'' = w.drewN (a + m) :=
  h.mono fun _ _ ⟨he, m, hm⟩ => ⟨he, n + m, by rw [hm, World.drewN_drewN, Nat.add_assoc]⟩
theorem quiet_add_same {P : Program} {f : FuncId} {args : Array Value} {w : World} {a n : Nat} {v : Value}
    (h : Calls P f args (w.drewN (a + n)) fun e w' => e = .returned v ∧ w' = w.drewN (a + n)) :
    Calls P f args (w.drewN (a + n)) fun e w'' => e = .returned v ∧ ∃ m, w'' = w.drewN (a + m) :=
  h.mono fun _ _ ⟨he, hm⟩ => ⟨he, n, hm⟩
theorem quiet_add_left {P : Program} {f : FuncId} {args : Array Value} {w : World} {a n : Nat} {v : Value}
    (h : Calls P f args (w.drewN (a + n)) fun e w' => e = .returned v ∧ w.drewN (a + n) = w') :
    Calls P f args (w.drewN (a + n)) fun e w'' => e = .returned v ∧ ∃ m, w'' = w.drewN (a + m) :=
  h.mono fun _ _ ⟨he, hm⟩ => ⟨he, n, hm.symm⟩
theorem quiet_left {P : Program} {f : FuncId} {args : Array Value} {w : World} {n : Nat} {v : Value}
    (h : Calls P f args (w.drewN n) fun e w' => e = .returned v ∧ w.drewN n = w') : Calls P f args (w.drewN n) fun e w'' => e = .returned v ∧ ∃ m, w'' = w.drewN m :=
  h.mono fun _ _ ⟨he, hm⟩ => ⟨he, n, hm.symm⟩
theorem ret_int {k : IntKind} {a b : Int} (h : a = b) : Ending.returned (.int k a) = .returned (.int k b) := by rw [h]
theorem take_succ_getD (l : List Int) (k : Nat) (h : k < l.length) : l.take (k + 1) = l.take k ++ [l.getD k 0] := by
  rw [List.take_succ_eq_append_getElem h]; simp [List.getD, h]
end Go.Proofs.Ytioedljihlfcaaa
