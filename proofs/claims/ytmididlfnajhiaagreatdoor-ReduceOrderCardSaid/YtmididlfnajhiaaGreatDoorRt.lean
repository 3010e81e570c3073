/-
  The integer root: matrix.root for every number of 64 bits.
-/
import Derived.Test.YtmididlfnajhiaaGreatDoorT6
import Derived.LoopN
import Derived.WalkSpells
import Derived.StillTactics
import Derived.Deep.RegionWith
namespace Go.Proofs.YtmididlfnajhiaaGreatDoor
open Go.RowKit Go.Shelf
def bs (n : Nat) : Nat → Nat → Nat → Nat
  | 0, low, _ => low
  | k + 1, low, high => if high - low ≤ 1 then low else if ((low + high) / 2) * ((low + high) / 2) ≤ n then bs n k ((low + high) / 2) high else bs n k low ((low + high) / 2)
def isq (n : Nat) : Nat := bs n 32 0 4294967296
theorem bs_ok (n : Nat) : ∀ k l h, l < h → h - l ≤ 2 ^ k → l * l ≤ n → n < h * h → bs n k l h * bs n k l h ≤ n ∧ n < (bs n k l h + 1) * (bs n k l h + 1)
  | 0, l, h, h1, h2, h3, h4 => by
    have : h = l + 1 := by omega
    subst this
    exact ⟨h3, h4⟩
  | k + 1, l, h, h1, h2, h3, h4 => by
    rw [Nat.pow_succ] at h2
    unfold bs
    split
    · rename_i c
      have : h = l + 1 := by omega
      subst this
      exact ⟨h3, h4⟩
    · split
      · rename_i c d
        exact bs_ok n k _ h (by omega) (by omega) d h4
      · rename_i c d
        exact bs_ok n k l _ (by omega) (by omega) h3 (by omega)
theorem isq_ok {n : Nat} (h : n < 18446744073709551616) : isq n * isq n ≤ n ∧ n < (isq n + 1) * (isq n + 1) := bs_ok n 32 0 4294967296 (by omega) (by decide) (by omega) (by omega)
theorem root_uniq {n r s : Nat} (h1 : r * r ≤ n) (h2 : n < (r + 1) * (r + 1)) (h3 : s * s ≤ n) (h4 : n < (s + 1) * (s + 1)) : r = s := by
  rcases Nat.lt_trichotomy r s with h | h | h
  · have := Nat.mul_le_mul (show r + 1 ≤ s by omega) (show r + 1 ≤ s by omega); omega
  · exact h
  · have := Nat.mul_le_mul (show s + 1 ≤ r by omega) (show s + 1 ≤ r by omega); omega
def RPost (w : World) (v : Value) (e : Ending) (w' : World) : Prop := e = .returned v ∧ Below w.heap.size w w'
theorem len_any (x : Int) (h0 : 0 ≤ x) (h1 : x ≤ 18446744073709551615) (w : World) : Calls Tryz.prog 225 #[.int .u64 x] w (IntPost' (Lib.bitLen x.toNat : Int) w) :=
  Calls.mono (Any.bits_Len64 { Tryz.lays134 with } x w h0 h1) fun _ _ h => ⟨h.1, h.2.symm⟩
def uOfR : Value → Int
  | .int _ x => x
  | _ => 0
def RS (n r b : Nat) : Prop := (b = 0 ∧ r = isq n) ∨ (b = 4294967296 ∧ r = 0) ∨ ∃ k, k ≤ 31 ∧ b = 2 ^ k ∧ 2 ^ (k + 1) ∣ r ∧ r * r ≤ n ∧ n < (r + 2 ^ (k + 1)) * (r + 2 ^ (k + 1))
theorem or_two {r k : Nat} (hk : k ≤ 31) (hr : r < 4294967296) (hd : 2 ^ (k + 1) ∣ r) : bits BinOp.or IntKind.u64 (r : Int) ((2 ^ k : Nat) : Int) = ((r + 2 ^ k : Nat) : Int) := by
  obtain ⟨q, rfl⟩ := hd
  have h1 : 2 ^ k < 2 ^ (k + 1) := by rw [Nat.pow_succ]; have := Nat.two_pow_pos k; omega
  have h2 : 2 ^ k ≤ 2 ^ 31 := Nat.pow_le_pow_right (by omega) hk
  have e := Nat.two_pow_add_eq_or_of_lt h1 q
  unfold bits
  simp only [BitVec.ofInt_natCast]
  have t : (BitVec.ofNat IntKind.u64.bits (2 ^ (k + 1) * q) ||| BitVec.ofNat IntKind.u64.bits (2 ^ k)).toNat = 2 ^ (k + 1) * q + 2 ^ k := by
    rw [BitVec.toNat_or, BitVec.toNat_ofNat, BitVec.toNat_ofNat, e]
    have m1 : 2 ^ (k + 1) * q % 2 ^ IntKind.u64.bits = 2 ^ (k + 1) * q := Nat.mod_eq_of_lt (by show _ < 18446744073709551616; omega)
    have m2 : 2 ^ k % 2 ^ IntKind.u64.bits = 2 ^ k := Nat.mod_eq_of_lt (by show _ < 18446744073709551616; omega)
    rw [m1, m2]
  rw [t]
  generalize 2 ^ (k + 1) * q = a at *
  generalize 2 ^ k = c at *
  exact IntWalk.u64_in _ (by omega)
theorem rs_step {n r b : Nat} (hn : n < 18446744073709551616) (h : RS n r b) (hb : 0 < b) (hb2 : b ≠ 4294967296) :
    r + b < 4294967296 ∧ b ≤ 2147483648 ∧ bits BinOp.or IntKind.u64 (r : Int) (b : Int) = ((r + b : Nat) : Int) ∧ ((r + b) * (r + b) ≤ n → RS n (r + b) (b / 2)) ∧ (¬ (r + b) * (r + b) ≤ n → RS n r (b / 2)) := by
  rcases h with ⟨h, _⟩ | ⟨h, _⟩ | ⟨k, hk, rfl, hd, h1, h2⟩
  · omega
  · omega
  have hr : r < 4294967296 := by
    rcases Nat.lt_or_ge r 4294967296 with h | h
    · exact h
    · have := Nat.mul_le_mul h h
      omega
  have hp : 2 ^ k ≤ 2 ^ 31 := Nat.pow_le_pow_right (by omega) hk
  have hi := isq_ok hn
  have hx : r + 2 ^ k < 4294967296 := by
    obtain ⟨q, hq⟩ := hd
    have e : 2 ^ (k + 1) * 2 ^ (31 - k) = 4294967296 := by
      rw [← Nat.pow_add, show k + 1 + (31 - k) = 32 by omega]
    have : q < 2 ^ (31 - k) := by
      rcases Nat.lt_or_ge q (2 ^ (31 - k)) with z | z
      · exact z
      · have := Nat.mul_le_mul_left (2 ^ (k + 1)) z; omega
    have g := Nat.mul_le_mul_left (2 ^ (k + 1)) (show q + 1 ≤ 2 ^ (31 - k) from this)
    rw [Nat.mul_add, ← hq, e] at g
    have : 2 ^ (k + 1) = 2 ^ k * 2 := Nat.pow_succ 2 k
    have := Nat.two_pow_pos k
    omega
  refine ⟨hx, hp, or_two hk hr hd, fun hx => ?_, fun hx => ?_⟩
  · cases k with
    | zero => exact .inl ⟨rfl, root_uniq hx (by have := h2; simpa using this) hi.1 hi.2⟩
    | succ k =>
      refine .inr (.inr ⟨k, by omega, by rw [Nat.pow_succ]; omega, Nat.dvd_add (Nat.dvd_trans ⟨2, by rw [Nat.pow_succ]⟩ hd) ⟨1, by omega⟩, hx, ?_⟩)
      have : r + 2 ^ (k + 1) + 2 ^ (k + 1) = r + 2 ^ (k + 1 + 1) := by rw [Nat.pow_succ 2 (k + 1)]; omega
      rw [this]; exact h2
  · cases k with
    | zero => exact .inl ⟨rfl, root_uniq h1 (by have := hx; simp at this; simpa using this) hi.1 hi.2⟩
    | succ k =>
      refine .inr (.inr ⟨k, by omega, by rw [Nat.pow_succ]; omega, Nat.dvd_trans ⟨2, by rw [Nat.pow_succ]⟩ hd, h1, by omega⟩)
theorem rs_top {n : Nat} (hn : n < 18446744073709551616) {r : Nat} (h : RS n r 4294967296) : r = 0 ∧ RS n 0 2147483648 := by
  rcases h with ⟨h, _⟩ | ⟨_, h⟩ | ⟨k, hk, h, _⟩
  · omega
  · exact ⟨h, .inr (.inr ⟨31, by omega, by decide, ⟨0, rfl⟩, by omega, by omega⟩)⟩
  · have : 2 ^ k ≤ 2 ^ 31 := Nat.pow_le_pow_right (by omega) hk
    omega
theorem rs_start {n : Nat} (hn : n < 18446744073709551616) : Lib.bitLen n ≤ 64 ∧ RS n 0 (2 ^ (Lib.bitLen n / 2)) := by
  have hl : Lib.bitLen n ≤ 64 := Lib.bitLen_le n 64 (by omega) hn
  refine ⟨hl, ?_⟩
  by_cases h64 : Lib.bitLen n = 64
  · rw [h64]
    exact .inr (.inl ⟨by decide, rfl⟩)
  refine .inr (.inr ⟨Lib.bitLen n / 2, by omega, rfl, ⟨0, rfl⟩, by omega, ?_⟩)
  have hb : n < 2 ^ Lib.bitLen n := by
    by_cases z : n = 0
    · subst z; exact Nat.two_pow_pos _
    · exact (Lib.bitLenAux_bounds 64 n (by omega) z).2.2
  rw [Nat.zero_add, ← Nat.pow_add]
  exact Nat.lt_of_lt_of_le hb (Nat.pow_le_pow_right (by omega) (by omega))
set_option maxRecDepth 100000 in
set_option maxHeartbeats 1000000 in
theorem root_any (n : Nat) (hn : n < 18446744073709551616) (w : World) : Calls Tryz.prog 197 #[.int .u64 (n : Int)] w (RPost w (.int .u64 (isq n : Int))) := by
  have HL := Lib.hid (show ∀ W, Calls Tryz.prog 225 #[.int .u64 (n : Int)] W (IntPost' (Lib.bitLen n : Int) W) from fun W => by
    have := len_any (n : Int) (by omega) (by omega) W
    rwa [Int.toNat_natCast] at this)
  obtain ⟨hl, hs⟩ := rs_start hn
  have HS := Lib.hid hs
  have hB0 : IntKind.u64.wrap (2 ^ ((Lib.bitLen n : Int) / 2).toNat) = ((2 ^ (Lib.bitLen n / 2) : Nat) : Int) := by
    have e : ((Lib.bitLen n : Int) / 2).toNat = Lib.bitLen n / 2 := by omega
    have h2 : 2 ^ (Lib.bitLen n / 2) ≤ 2 ^ 32 := Nat.pow_le_pow_right (by omega) (by omega)
    have c : (2 : Int) ^ (Lib.bitLen n / 2) = ((2 ^ (Lib.bitLen n / 2) : Nat) : Int) := by rw [Int.natCast_pow]; rfl
    rw [e, c]
    generalize 2 ^ (Lib.bitLen n / 2) = z at *
    exact IntWalk.u64_in _ (by omega)
  have HB := Lib.hid (Below.refl w.heap.size w)
  have HST := Lib.hid (fun (r b : Nat) (h : RS n r b) (hb : 0 < b) (hb2 : b ≠ 4294967296) => rs_step hn h hb hb2)
  have HTOP := Lib.hid (fun (r : Nat) (h : RS n r 4294967296) => rs_top hn h)
  have HEN := Lib.hid (fun (r : Nat) (h : RS n r 0) => show r = isq n from by
    rcases h with ⟨_, h⟩ | ⟨h, _⟩ | ⟨k, _, h, _⟩
    · exact h
    · omega
    · have := Nat.two_pow_pos k; omega)
  have hl' : 0 ≤ (Lib.bitLen n : Int) ∧ (Lib.bitLen n : Int) ≤ 64 := by omega
  clear hl hs
  generalize 2 ^ (Lib.bitLen n / 2) = b0 at *
  generalize (Lib.bitLen n : Int) = l at *
  have ht : l.tdiv 2 = l / 2 := Int.tdiv_eq_ediv_of_nonneg hl'.1
  obtain ⟨N, hN⟩ : ∃ N : Int, N = (n : Int) := ⟨_, rfl⟩
  have n0 : 0 ≤ N := by omega
  have n1 : N < 18446744073709551616 := by omega
  rw [← hN] at HL ⊢
  replace hN := Lib.hid hN
  clear hn
  go_enter Tryz.func197, Tryz.ntmps197
  go_wp2_with fail
  refine (HL.out _).mono ?_
  rintro e w1 ⟨rfl, rfl⟩
  clear HL
  go_wp2
  go_loopw [3, 4] (fun r b wr => ∃ r' b' : Nat, r = .int .u64 (r' : Int) ∧ b = .int .u64 (b' : Int) ∧ RS n r' b' ∧ Below w.heap.size w wr) (fun r b _ => (uOfR b).toNat)
  case atStart => exact ⟨0, b0, rfl, rfl, HS.out, HB.out⟩
  case round =>
    clear HS HB hB0
    obtain ⟨r, b, rfl, rfl, hs, hb⟩ := hrel
    have HB := Lib.hid hb
    clear hb
    rcases Nat.eq_zero_or_pos b with hb | hb
    · subst hb
      have HF := Lib.hid (show RPost w (.int .u64 (isq n : Int)) (.returned (.int .u64 (r : Int))) wr from ⟨by rw [HEN.out r hs], HB.out⟩)
      have z : ¬ (((0 : Nat) : Int) > 0) := by omega
      clear hs
      go_wp2
      go_ret
      exact HF.out
    by_cases hb2 : b = 4294967296
    · subst hb2
      obtain ⟨r0, t0⟩ := HTOP.out r hs
      subst r0
      have H0 := Lib.hid t0
      clear hs t0 hb
      have hor : bits BinOp.or IntKind.u64 ((0 : Nat) : Int) ((4294967296 : Nat) : Int) = 4294967296 := by decide +kernel
      have hw : IntKind.u64.wrap ((4294967296 : Int) * 4294967296) = 0 := by decide +kernel
      have hdv : (4294967296 : Int).fdiv 2 = 2147483648 := by decide +kernel
      have ME := Lib.hid (show (uOfR (.int .u64 2147483648)).toNat < (uOfR (.int .u64 ((4294967296 : Nat) : Int))).toNat by decide +kernel)
      rw [show ((0 : Nat) : Int) = 0 from rfl, show ((4294967296 : Nat) : Int) = 4294967296 from rfl] at hor
      rw [show ((4294967296 : Nat) : Int) = 4294967296 from rfl] at ME
      rw [show ((0 : Nat) : Int) = 0 from rfl, show ((4294967296 : Nat) : Int) = 4294967296 from rfl]
      go_wp2
      go_roundw
      case rel => exact ⟨0, 2147483648, rfl, rfl, H0.out, HB.out⟩
      case measure => exact ME.out
    · obtain ⟨s1, s2, s3, s4, s5⟩ := HST.out r b hs hb hb2
      have hcm := Lib.hid (show ((r + b : Nat) : Int) * ((r + b : Nat) : Int) ≤ N ↔ (r + b) * (r + b) ≤ n by rw [hN.out, ← Int.natCast_mul]; exact Int.ofNat_le)
      have hq := Lib.hid (show ((b / 2 : Nat) : Int) = (b : Int) / 2 by omega)
      have hw : IntKind.u64.wrap (((r + b : Nat) : Int) * ((r + b : Nat) : Int)) = ((r + b : Nat) : Int) * ((r + b : Nat) : Int) := by
        have := Nat.mul_le_mul (show r + b ≤ 4294967295 by omega) (show r + b ≤ 4294967295 by omega)
        rw [← Int.natCast_mul]
        generalize (r + b) * (r + b) = p at *
        exact IntWalk.u64_in _ (by omega)
      have hs4 := Lib.hid s4
      have hs5 := Lib.hid s5
      clear s4 s5 hs
      obtain ⟨X, hX⟩ : ∃ X : Int, X = ((r + b : Nat) : Int) := ⟨_, rfl⟩
      obtain ⟨R, hR⟩ : ∃ R : Int, R = (r : Int) := ⟨_, rfl⟩
      obtain ⟨B, hB⟩ : ∃ B : Int, B = (b : Int) := ⟨_, rfl⟩
      have i1 : 0 ≤ X := by omega
      have i2 : X < 4294967296 := by omega
      have i3 : 0 < B := by omega
      have i4 : B ≤ 2147483648 := by omega
      rw [← hX, ← hR, ← hB] at s3
      rw [← hX] at hw hcm
      rw [← hB] at hq
      rw [← hR, ← hB]
      replace hX := Lib.hid hX
      replace hR := Lib.hid hR
      replace hB := Lib.hid hB
      clear s1 s2 hb
      have hfd : B.fdiv 2 = B / 2 := Int.fdiv_eq_ediv_of_nonneg _ (by omega)
      have ME := Lib.hid (show (uOfR (.int .u64 (B / 2))).toNat < (uOfR (.int .u64 B)).toNat by simp only [uOfR]; omega)
      by_cases hc : X * X ≤ N
      · have h4 := Lib.hid (hs4.out (hcm.out.1 hc))
        clear hs4 hs5 hcm
        go_wp2
        go_roundw
        case rel => exact ⟨r + b, b / 2, by rw [hX.out], by rw [hq.out], h4.out, HB.out⟩
        case measure => exact ME.out
      · have h5 := Lib.hid (hs5.out (fun q => hc (hcm.out.2 q)))
        clear hs4 hs5 hcm
        go_wp2
        go_roundw
        case rel => exact ⟨r, b / 2, by rw [hR.out], by rw [hq.out], h5.out, HB.out⟩
        case measure => exact ME.out
end Go.Proofs.YtmididlfnajhiaaGreatDoor
