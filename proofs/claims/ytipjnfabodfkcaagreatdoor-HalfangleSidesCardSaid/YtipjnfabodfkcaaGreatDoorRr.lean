/-
  The integer root: the reference's Root below 2^62.
-/
import Derived.Test.YtipjnfabodfkcaaGreatDoorT6
import Derived.LoopN
import Derived.WalkSpells
import Derived.StillTactics
import Derived.Deep.RegionWith
namespace Go.Proofs.YtipjnfabodfkcaaGreatDoor
open Go.RowKit Go.Shelf
def bs (n : Nat) : Nat → Nat → Nat → Nat
  | 0, low, _ => low
  | k + 1, low, high => if high - low ≤ 1 then low else if ((low + high) / 2) * ((low + high) / 2) ≤ n then bs n k ((low + high) / 2) high else bs n k low ((low + high) / 2)
def isq (n : Nat) : Nat := bs n 32 0 4294967296
theorem bs_ok (n : Nat) : ∀ k l h, l < h → h - l ≤ 2 ^ k → l * l ≤ n → n < h * h → bs n k l h * bs n k l h ≤ n ∧ n < (bs n k l h + 1) * (bs n k l h + 1)
  | 0, l, h, h1, h2, h3, h4 => by
    have : h = l + 1 := by omega
    subst this
    exact ⟨h3, h4⟩
  | k + 1, l, h, h1, h2, h3, h4 => by
    rw [Nat.pow_succ] at h2
    unfold bs
    split
    · rename_i c
      have : h = l + 1 := by omega
      subst this
      exact ⟨h3, h4⟩
    · split
      · rename_i c d
        exact bs_ok n k _ h (by omega) (by omega) d h4
      · rename_i c d
        exact bs_ok n k l _ (by omega) (by omega) h3 (by omega)
theorem isq_ok {n : Nat} (h : n < 9223372036854775808) : isq n * isq n ≤ n ∧ n < (isq n + 1) * (isq n + 1) := bs_ok n 32 0 4294967296 (by omega) (by decide) (by omega) (by omega)
theorem root_uniq {n r s : Nat} (h1 : r * r ≤ n) (h2 : n < (r + 1) * (r + 1)) (h3 : s * s ≤ n) (h4 : n < (s + 1) * (s + 1)) : r = s := by
  rcases Nat.lt_trichotomy r s with h | h | h
  · have := Nat.mul_le_mul (show r + 1 ≤ s by omega) (show r + 1 ≤ s by omega); omega
  · exact h
  · have := Nat.mul_le_mul (show s + 1 ≤ r by omega) (show s + 1 ≤ r by omega); omega
theorem isq_31 {n : Nat} (h : n < 4611686018427387904) : bs n 31 0 2147483648 = isq n := by
  have a := bs_ok n 31 0 2147483648 (by omega) (by decide) (by omega) (by omega)
  have b := isq_ok (n := n) (by omega)
  exact root_uniq a.1 a.2 b.1 b.2
theorem sq_bd {m : Nat} (h : m ≤ 2147483648) : (m : Int) * (m : Int) ≤ 4611686018427387904 ∧ 0 ≤ (m : Int) * (m : Int) ∧ (m : Int) * (m : Int) = ((m * m : Nat) : Int) := by
  have := Nat.mul_le_mul h h
  have e : (m : Int) * (m : Int) = ((m * m : Nat) : Int) := (Int.natCast_mul m m).symm
  rw [e]
  generalize m * m = p at *
  omega
def RPost (w : World) (v : Value) (e : Ending) (w' : World) : Prop := e = .returned v ∧ Below w.heap.size w w'
theorem rt_meas {L M H : Int} (h1 : L < M) (h2 : M < H) : (intOf (.int .i64 H) - intOf (.int .i64 M)).toNat < (intOf (.int .i64 H) - intOf (.int .i64 L)).toNat ∧ (intOf (.int .i64 M) - intOf (.int .i64 L)).toNat < (intOf (.int .i64 H) - intOf (.int .i64 L)).toNat := by
  simp only [intOf]
  omega
set_option maxRecDepth 100000 in
set_option maxHeartbeats 1000000 in
theorem rroot_any (n : Nat) (hn : n < 4611686018427387904) (w : World) : Calls Tryz.prog 121 #[.int .i64 (n : Int)] w (RPost w (.int .i64 (isq n : Int))) := by
  have HB := Lib.hid (Below.refl w.heap.size w)
  rw [← isq_31 hn]
  clear hn
  generalize hR : bs n 31 0 2147483648 = R
  have hR := Lib.hid hR
  obtain ⟨N, hN⟩ : ∃ N : Int, N = (n : Int) := ⟨_, rfl⟩
  rw [← hN]
  have hN := Lib.hid hN
  go_enter Tryz.func121, Tryz.ntmps121
  go_wp2
  go_loopw [3, 4] (fun lo hi wr => ∃ k l h : Nat, lo = .int .i64 (l : Int) ∧ hi = .int .i64 (h : Int) ∧ l < h ∧ h ≤ 2147483648 ∧ h - l ≤ 2 ^ k ∧ bs n k l h = R ∧ Below w.heap.size w wr) (fun lo hi _ => (intOf hi - intOf lo).toNat)
  case atStart => exact ⟨31, 0, 2147483648, rfl, rfl, by omega, by omega, by decide, hR.out, HB.out⟩
  case round =>
    clear hR HB
    obtain ⟨k, l, h, rfl, rfl, hlh, hh, hk, hs, hb⟩ := hrel
    have HB := Lib.hid hb
    clear hb
    by_cases hc : h - l ≤ 1
    · have hRl : R = l := by
        cases k with
        | zero => exact hs.symm
        | succ k => rw [bs, if_pos hc] at hs; exact hs.symm
      obtain ⟨L, hL⟩ : ∃ L : Int, L = (l : Int) := ⟨_, rfl⟩
      obtain ⟨H, hH⟩ : ∃ H : Int, H = (h : Int) := ⟨_, rfl⟩
      have i1 : 0 ≤ L := by omega
      have i3 : H - L ≤ 1 := by omega
      have i4 : H ≤ 2147483648 := by omega
      have i5 : L < H := by omega
      rw [← hL, ← hH]
      have HF := Lib.hid (show RPost w (.int .i64 (R : Int)) (.returned (.int .i64 L)) wr from ⟨by rw [hRl, hL], HB.out⟩)
      clear hlh hh hc hk hs hRl hL hH hN
      go_wp2
      go_ret
      exact HF.out
    · obtain ⟨k, rfl⟩ : ∃ j, k = j + 1 := by
        cases k with
        | zero => omega
        | succ k => exact ⟨k, rfl⟩
      rw [bs, if_neg hc] at hs
      rw [Nat.pow_succ] at hk
      obtain ⟨m, hm⟩ : ∃ m, m = (l + h) / 2 := ⟨_, rfl⟩
      rw [← hm] at hs
      have m1 : l < m := by omega
      have m2 : m < h := by omega
      have sb := sq_bd (m := m) (by omega)
      have hS := Lib.hid hs
      have hk2 := Lib.hid hk
      have hd : ((l : Int) + (h : Int)).tdiv 2 = (m : Int) := by rw [Int.tdiv_eq_ediv_of_nonneg (by omega)]; omega
      have hcm := Lib.hid (show (m : Int) * (m : Int) ≤ N ↔ m * m ≤ n by rw [hN.out, sb.2.2]; exact Int.ofNat_le)
      obtain ⟨sb1, sb2, _⟩ := sb
      have P1 := Lib.hid (show ((∃ l' h' : Nat, l' = m ∧ h' = h ∧ l' < h' ∧ h' ≤ 2147483648 ∧ h' - l' ≤ 2 ^ k)) from ⟨m, h, rfl, rfl, m2, hh, by have := hk2.out; omega⟩)
      have P2 := Lib.hid (show l < m ∧ m ≤ 2147483648 ∧ m - l ≤ 2 ^ k from ⟨m1, by omega, by have := hk2.out; omega⟩)
      have P3 := Lib.hid (show m < h ∧ h ≤ 2147483648 ∧ h - m ≤ 2 ^ k from ⟨m2, hh, by have := hk2.out; omega⟩)
      clear hs hk hk2 P1
      obtain ⟨L, hL⟩ : ∃ L : Int, L = (l : Int) := ⟨_, rfl⟩
      obtain ⟨H, hH⟩ : ∃ H : Int, H = (h : Int) := ⟨_, rfl⟩
      obtain ⟨M, hM⟩ : ∃ M : Int, M = (m : Int) := ⟨_, rfl⟩
      have i1 : 0 ≤ L := by omega
      have i3 : ¬ H - L ≤ 1 := by omega
      have i4 : H ≤ 2147483648 := by omega
      have i5 : L < M := by omega
      have i6 : M < H := by omega
      rw [← hL, ← hH, ← hM] at hd
      rw [← hM] at sb1 sb2 hcm
      rw [← hL, ← hH]
      replace hL := Lib.hid hL
      replace hH := Lib.hid hH
      replace hM := Lib.hid hM
      have ME := Lib.hid (rt_meas i5 i6)
      have wm : IntKind.i64.wrap (M * M) = M * M := IntWalk.i64_in _ (by omega)
      clear hlh hh hc hm m1 m2
      by_cases c : M * M ≤ N
      · have hs2 := hS.out
        rw [if_pos (hcm.out.1 c)] at hs2
        have hs2 := Lib.hid hs2
        clear hcm hS
        go_wp2
        go_roundw
        case rel => exact ⟨k, m, h, by rw [hM.out], by rw [hH.out], P3.out.1, P3.out.2.1, P3.out.2.2, hs2.out, HB.out⟩
        case measure => exact ME.out.1
      · have hs2 := hS.out
        rw [if_neg (fun q => c (hcm.out.2 q))] at hs2
        have hs2 := Lib.hid hs2
        clear hcm hS
        go_wp2
        go_roundw
        case rel => exact ⟨k, l, m, by rw [hL.out], by rw [hM.out], P2.out.1, P2.out.2.1, P2.out.2.2, hs2.out, HB.out⟩
        case measure => exact ME.out.2
end Go.Proofs.YtipjnfabodfkcaaGreatDoor
