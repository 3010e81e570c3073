import Derived.Test.YtioedljihlfcaaaW26
import Derived.Test.YtioedljihlfcaaaP1

namespace Go.Proofs.Ytioedljihlfcaaa
open Go.RowKit

set_option maxHeartbeats 400000 in
theorem torn1_any (A : Option Addr) (n c : Nat) (w : World) (hn : n ≤ 9223372036854775807) : Calls Try.prog 33 #[.slice A n c] w (BoolPost (decide (60 < n)) w) := by
  have HF := Lib.hid (show BoolPost (decide (60 < n)) w (.returned (.bool (decide ((60 : Int) < (n : Int))))) w from ⟨by rw [decide_eq_decide.2 (show ((60 : Int) < (n : Int)) ↔ 60 < n by omega)], rfl⟩)
  go_enter Try.func33, Try.ntmps33
  go_wp2
  go_ret
  exact HF.out

def IdxFPost (b : Bool) (w : World) (e : Ending) (w' : World) : Prop := (∃ r : Int, e = .returned (.int .i64 r) ∧ decide (0 ≤ r) = b ∧ -1 ≤ r ∧ r < 9223372036854775807) ∧ w = w'
def tooLong (rs : List (List Int)) : Bool := rs.any fun r => decide (60 < r.length)

set_option maxHeartbeats 400000 in
theorem indexf_any (A : Option Addr) (n c : Nat) (rs : List (List Int)) (w : World) (h : RowsIn w A n rs) :
    Calls Try.prog 49 #[.slice A n c, .func (.func 33) #[] #[]] w (IdxFPost (tooLong rs) w) := by
  have hle := h.le
  have HC := h.cells
  have HL := Lib.hid h.len
  clear h
  go_enter Try.func49, Try.ntmps49
  go_wp2
  go_loop [8] (fun i => ∃ k : Nat, k ≤ n ∧ i = .int .i64 (k : Int) ∧ ∀ j, j < k → (rs.getD j []).length ≤ 60) (fun i => n - (intOf i).toNat)
  case atStart => exact ⟨0, Nat.zero_le _, rfl, fun j hj => absurd hj (by omega)⟩
  case round =>
    obtain ⟨k, hk, rfl, hno⟩ := hrel
    have HS := Lib.hid hno
    clear hno
    by_cases hlt : k < n
    · obtain ⟨b, off, rfl, _, hcc⟩ := HC (by omega)
      obtain ⟨Ai, ni, ci, hc1, hB1⟩ := hcc k hlt
      have hni := Lib.hid hB1.len
      have hnb := hB1.le
      have hnc := hB1.cap
      have HE := Lib.hid (torn1_any Ai ni ci w (by omega))
      clear hB1 HC hcc
      by_cases hx : 60 < ni
      · rw [decide_eq_true hx] at HE
        have HF := Lib.hid (show IdxFPost (tooLong rs) w (.returned (.int .i64 (k : Int))) w from ⟨⟨k, rfl, by
          rw [decide_eq_true (by omega)]
          symm
          rw [tooLong, List.any_eq_true]
          have hkl : k < rs.length := by rw [HL.out]; exact hlt
          have he : rs.getD k [] = rs[k] := by simp [List.getD_eq_getElem?_getD, hkl]
          refine ⟨rs[k], List.getElem_mem hkl, ?_⟩
          rw [← he, hni.out]; simpa using hx, by omega, by omega⟩, rfl⟩)
        go_wp2_with fail
        refine HE.out.mono ?_
        rintro e w1 ⟨rfl, rfl⟩
        go_wp2
        go_ret
        exact HF.out
      · rw [decide_eq_false hx] at HE
        go_wp2_with fail
        refine HE.out.mono ?_
        rintro e w1 ⟨rfl, rfl⟩
        go_wp2
        go_round
        case rel =>
          refine ⟨k + 1, by omega, by go_num, fun j hj => ?_⟩
          by_cases e : j = k
          · rw [e, hni.out]; omega
          · exact HS.out j (by omega)
        case measure => simp [intOf]; omega
    · have HF := Lib.hid (show IdxFPost (tooLong rs) w (.returned (.int .i64 (-1))) w from ⟨⟨-1, rfl, by
        rw [decide_eq_false (by omega)]
        symm
        rw [tooLong, List.any_eq_false]
        intro r hr
        obtain ⟨i, hi, he⟩ := List.getElem_of_mem hr
        have := HS.out i (by have := HL.out; omega)
        rw [List.getD_eq_getElem?_getD, List.getElem?_eq_getElem hi] at this
        simp only [Option.getD_some] at this
        rw [← he]; simpa using this, by omega, by omega⟩, rfl⟩)
      clear HC
      go_wp2
      go_ret
      exact HF.out

set_option maxHeartbeats 400000 in
theorem containsf_any (A : Option Addr) (n c : Nat) (rs : List (List Int)) (w : World) (h : RowsIn w A n rs) :
    Calls Try.prog 32 #[.slice A n c, .func (.func 33) #[] #[]] w (BoolPost (tooLong rs) w) := by
  have HI := Lib.hid (indexf_any A n c rs w h)
  clear h
  generalize tooLong rs = t at *
  go_enter Try.func32, Try.ntmps32
  go_wp2_with fail
  refine HI.out.mono ?_
  rintro e w' ⟨⟨r, rfl, hr, _, _⟩, rfl⟩
  have HF := Lib.hid (show BoolPost t w (.returned (.bool (decide (0 ≤ r)))) w from ⟨by rw [hr], rfl⟩)
  clear hr
  go_wp2
  go_ret
  exact HF.out

theorem xor_u8 (a b : Int) (ha : 0 ≤ a ∧ a < 256) (hb : 0 ≤ b ∧ b < 256) : 0 ≤ bits BinOp.xor IntKind.u8 a b ∧ bits BinOp.xor IntKind.u8 a b < 256 ∧ (b ≠ 0 → bits BinOp.xor IntKind.u8 a b ≠ a) := by
  obtain ⟨m, rfl⟩ := Int.eq_ofNat_of_zero_le ha.1
  obtain ⟨n, rfl⟩ := Int.eq_ofNat_of_zero_le hb.1
  have e : bits BinOp.xor IntKind.u8 (m : Int) (n : Int) = ((m ^^^ n : Nat) : Int) := by
    have hx : m ^^^ n < 2 ^ 8 := Nat.xor_lt_two_pow (by omega) (by omega)
    show IntKind.u8.wrap ((BitVec.ofInt 8 (m : Int) ^^^ BitVec.ofInt 8 (n : Int)).toNat : Int) = _
    rw [BitVec.toNat_xor, BitVec.ofInt_natCast, BitVec.ofInt_natCast, BitVec.toNat_ofNat, BitVec.toNat_ofNat, Nat.mod_eq_of_lt (by omega), Nat.mod_eq_of_lt (by omega), IntKind.wrap_u8]
    omega
  have hx : m ^^^ n < 2 ^ 8 := Nat.xor_lt_two_pow (by omega) (by omega)
  rw [e]
  refine ⟨by omega, by omega, fun hn h => hn ?_⟩
  have h1 : m ^^^ n = m := by omega
  have h2 : m ^^^ (m ^^^ n) = n := by rw [← Nat.xor_assoc, Nat.xor_self, Nat.zero_xor]
  rw [h1, Nat.xor_self] at h2
  omega
end Go.Proofs.Ytioedljihlfcaaa
