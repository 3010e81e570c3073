/-
  fixed.root: the integer root of a number of at most 2^61.
-/
import Derived.Test.YtmididlfnajhiaaGreatDoorT6
import Derived.Test.YtmididlfnajhiaaGreatDoorFr
import Derived.LoopN
import Derived.WalkSpells
import Derived.StillTactics
import Derived.Deep.RegionWith
namespace Go.Proofs.YtmididlfnajhiaaGreatDoor
open Go.RowKit Go.Shelf
def RPostF (w : World) (v : Value) (e : Ending) (w' : World) : Prop := e = .returned v ∧ Below w.heap.size w w'
def iOf : Value → Int
  | .int _ x => x
  | _ => 0
theorem fsq_bd {x : Int} (h0 : 0 ≤ x) (h1 : x < 3037000499) : 0 ≤ x * x ∧ x * x ≤ 9223372036854775807 := by
  have a := Int.mul_nonneg h0 h0
  have b := Int.mul_le_mul (show x ≤ 3037000498 by omega) (show x ≤ 3037000498 by omega) h0 (by omega)
  omega
set_option maxRecDepth 100000 in
set_option maxHeartbeats 1000000 in
theorem froot_any (n : Nat) (hn : n ≤ 2305843009213693952) (w : World) : Calls Tryz.prog 196 #[.int .i64 (n : Int)] w (RPostF w (.int .i64 (irt (n : Int)))) := by
  have HS := Lib.hid (fs_start hn)
  have HB := Lib.hid (Below.refl w.heap.size w)
  have HST := Lib.hid (fun (k b : Nat) (h : FS n k b) (hb : 0 < b) => fs_step hn h hb)
  obtain ⟨R, hR⟩ : ∃ R : Int, R = irt (n : Int) := ⟨_, rfl⟩
  have HEN := Lib.hid (fun (k : Nat) (h : FS n k 0) => show (k : Int) = R from (fs_end hn h).trans hR.symm)
  rw [← hR]
  clear hR
  obtain ⟨N, hN⟩ : ∃ N : Int, N = (n : Int) := ⟨_, rfl⟩
  have n0 : 0 ≤ N := by omega
  have n1 : N ≤ 2305843009213693952 := by omega
  rw [← hN]
  replace hN := Lib.hid hN
  clear hn
  go_enter Tryz.func196, Tryz.ntmps196
  go_wp2
  go_loopw [3, 4] (fun k b wr => ∃ k' b' : Nat, k = .int .i64 (k' : Int) ∧ b = .int .i64 (b' : Int) ∧ FS n k' b' ∧ Below w.heap.size w wr) (fun _ b _ => (iOf b).toNat)
  case atStart => exact ⟨0, 2147483648, rfl, rfl, HS.out, HB.out⟩
  case round =>
    clear HS HB
    obtain ⟨k, b, rfl, rfl, hs, hb⟩ := hrel
    have HB := Lib.hid hb
    clear hb
    rcases Nat.eq_zero_or_pos b with hb | hb
    · subst hb
      have HF := Lib.hid (show RPostF w (.int .i64 R) (.returned (.int .i64 (k : Int))) wr from ⟨by rw [HEN.out k hs], HB.out⟩)
      have z : ¬ (((0 : Nat) : Int) > 0) := by omega
      clear hs
      go_wp2
      go_ret
      exact HF.out
    · obtain ⟨s1, s2, s3, s4, s5⟩ := HST.out k b hs hb
      have hcm := Lib.hid (show ((k : Int) + (b : Int)) * ((k : Int) + (b : Int)) ≤ N ↔ (k + b) * (k + b) ≤ n by rw [hN.out, ← Int.natCast_add, ← Int.natCast_mul]; exact Int.ofNat_le)
      have hq := Lib.hid (show ((b / 2 : Nat) : Int) = (b : Int) / 2 by omega)
      have hx := Lib.hid (show (k : Int) + (b : Int) = ((k + b : Nat) : Int) from (Int.natCast_add k b).symm)
      have hs4 := Lib.hid s4
      have hs5 := Lib.hid s5
      clear s4 s5 hs
      obtain ⟨K, hK⟩ : ∃ K : Int, K = (k : Int) := ⟨_, rfl⟩
      obtain ⟨B, hB⟩ : ∃ B : Int, B = (b : Int) := ⟨_, rfl⟩
      have i1 : 0 ≤ K := by omega
      have i2 : K < 2147483648 := by omega
      have i3 : 0 < B := by omega
      have i4 : B ≤ 2147483648 := by omega
      have i5 : K + B < 3037000499 := by omega
      rw [← hK, ← hB] at hcm hx
      rw [← hB] at hq
      rw [← hK, ← hB]
      replace hK := Lib.hid hK
      replace hB := Lib.hid hB
      clear s1 s2 s3 hb
      have hw : IntKind.i64.wrap ((K + B) * (K + B)) = (K + B) * (K + B) := by
        have := fsq_bd (x := K + B) (by omega) i5
        exact IntWalk.i64_in _ (by omega)
      have hfd : B.fdiv 2 = B / 2 := Int.fdiv_eq_ediv_of_nonneg _ (by omega)
      have ME := Lib.hid (show (iOf (.int .i64 (B / 2))).toNat < (iOf (.int .i64 B)).toNat by simp only [iOf]; omega)
      by_cases hc : (K + B) * (K + B) ≤ N
      · have h4 := Lib.hid (hs4.out (hcm.out.1 hc))
        clear hs4 hs5 hcm
        go_wp2
        go_roundw
        case rel => exact ⟨k + b, b / 2, by rw [hx.out], by rw [hq.out], h4.out, HB.out⟩
        case measure => exact ME.out
      · have h5 := Lib.hid (hs5.out (fun q => hc (hcm.out.2 q)))
        clear hs4 hs5 hcm
        go_wp2
        go_roundw
        case rel => exact ⟨k, b / 2, by rw [hK.out], by rw [hq.out], h5.out, HB.out⟩
        case measure => exact ME.out
end Go.Proofs.YtmididlfnajhiaaGreatDoor
