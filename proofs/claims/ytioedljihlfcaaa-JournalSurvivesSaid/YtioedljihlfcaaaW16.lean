import Derived.Test.YtioedljihlfcaaaW14
import Derived.Test.YtioedljihlfcaaaW12
import Derived.Deep.RegionLaw
import Derived.Deep.RegionHeld3

namespace Go.Proofs.Ytioedljihlfcaaa
open Go.RowKit

theorem after_app {w w4 : World} {x y z x' y' z' : Value} (hg : World.grownBy ((((w.alloc (.cells #[x, y, z] 24)).alloc (.cells #[x', y', z'] 24)).alloc (.cells #[] 5))) w4 (some (w.heap.size + 2))) :
    ((w4.cell? ⟨w.heap.size, 0, none⟩ = some x ∧ w4.cell? ⟨w.heap.size, 1, none⟩ = some y ∧ w4.cell? ⟨w.heap.size, 2, none⟩ = some z) ∧ w4.frozen? ⟨w.heap.size, 0, none⟩ = false ∧ w4.frozen? ⟨w.heap.size, 1, none⟩ = false ∧ w4.frozen? ⟨w.heap.size, 2, none⟩ = false) ∧
    ((w4.cell? ⟨w.heap.size + 1, 0, none⟩ = some x' ∧ w4.cell? ⟨w.heap.size + 1, 1, none⟩ = some y' ∧ w4.cell? ⟨w.heap.size + 1, 2, none⟩ = some z') ∧ w4.frozen? ⟨w.heap.size + 1, 0, none⟩ = false ∧ w4.frozen? ⟨w.heap.size + 1, 1, none⟩ = false ∧ w4.frozen? ⟨w.heap.size + 1, 2, none⟩ = false) ∧ Below w.heap.size w w4 := by
  have hb : Below (w.heap.size + 2) ((((w.alloc (.cells #[x, y, z] 24)).alloc (.cells #[x', y', z'] 24)).alloc (.cells #[] 5))) w4 :=
    (Below.refl _ _).grown hg (by simp) (fun k hk => by injection hk with hk; omega)
  refine ⟨box3 (t := 24) hb (by omega) ?_, box3 (t := 24) hb (by omega) ?_, ((((Below.refl _ _).alloc (Nat.le_refl _) _).alloc (by simp) _).alloc (by simp; omega) _).trans (hb.mono (by omega))⟩
  · rw [Below.heap_alloc _ _ _ (by simp; omega), blk_first]
  · rw [Below.heap_alloc _ _ _ (by simp), blk_second]

set_option maxHeartbeats 2000000 in
theorem rcrash_1 (A : Option Addr) (n c : Nat) (l : List Int) (s a k : Int) (w : World) (h : Bytes w A n c l) (_hnl : n ≤ 1048576) (_hs : 0 ≤ s ∧ s ≤ n) (hk : k < 0) :
    Calls Try.prog 26 #[.agg #[.slice A n c, .int .i64 s, .int .i64 a], .int .i64 k] w (DiskPost w [] 0 0 2) := by
  have hle := h.le
  have hcap := h.cap
  have HB : Below w.heap.size w ((w.alloc (.cells #[.slice A n c, .int .i64 s, .int .i64 a] 24)).alloc (.cells #[.slice none 0 0, .int .i64 0, .int .i64 0] 24)) := ((Below.refl _ _).alloc (Nat.le_refl _) _).alloc (by simp) _
  have HBe := Lib.hid HB
  clear HB
  clear h
  go_enter Try.func26, Try.ntmps26
  go_wp2
  refine bodyPost_ret (v := .tuple #[.agg #[.slice none 0 0, .int .i64 0, .int .i64 0], .int .i64 2]) (by simp [results, Try.results26, go_sem]) rfl (DiskPost.zero 2 ?_)
  exact HBe.out

set_option maxHeartbeats 2000000 in
theorem rcrash_2 (A : Option Addr) (n c : Nat) (l : List Int) (s a k : Int) (w : World) (h : Bytes w A n c l) (hnl : n ≤ 1048576) (hs : 0 ≤ s ∧ s ≤ n) (hk0 : 0 ≤ k) (hk : (n : Int) - s < k) :
    Calls Try.prog 26 #[.agg #[.slice A n c, .int .i64 s, .int .i64 a], .int .i64 k] w (DiskPost w [] 0 0 2) := by
  have hle := h.le
  have hcap := h.cap
  have HB : Below w.heap.size w ((w.alloc (.cells #[.slice A n c, .int .i64 s, .int .i64 a] 24)).alloc (.cells #[.slice none 0 0, .int .i64 0, .int .i64 0] 24)) := ((Below.refl _ _).alloc (Nat.le_refl _) _).alloc (by simp) _
  have HBe := Lib.hid HB
  clear HB
  have hkn : ¬ k < 0 := by omega
  clear h
  go_enter Try.func26, Try.ntmps26
  go_wp2
  refine bodyPost_ret (v := .tuple #[.agg #[.slice none 0 0, .int .i64 0, .int .i64 0], .int .i64 2]) (by simp [results, Try.results26, go_sem]) rfl (DiskPost.zero 2 ?_)
  exact HBe.out

set_option maxHeartbeats 2000000 in
theorem rcrash_3 (A : Option Addr) (n c : Nat) (l : List Int) (s a k : Int) (w : World) (h : Bytes w A n c l) (hnl : n ≤ 1048576) (hs : 0 ≤ s ∧ s ≤ n) (hk0 : 0 ≤ k) (hk : k ≤ (n : Int) - s) :
    Calls Try.prog 26 #[.agg #[.slice A n c, .int .i64 s, .int .i64 a], .int .i64 k] w (DiskPost w (l.take (s + k).toNat) s (-1) 0) := by
  have hle := h.le
  have hcap := h.cap
  have HB : Below w.heap.size w ((w.alloc (.cells #[.slice A n c, .int .i64 s, .int .i64 a] 24)).alloc (.cells #[.slice none 0 0, .int .i64 0, .int .i64 0] 24)) := ((Below.refl _ _).alloc (Nat.le_refl _) _).alloc (by simp) _
  have HBe := Lib.hid HB
  clear HB
  obtain ⟨S, rfl⟩ := Int.eq_ofNat_of_zero_le hs.1
  obtain ⟨K, rfl⟩ := Int.eq_ofNat_of_zero_le hk0
  have hSK : S + K ≤ n := by omega
  have HLE := Lib.hid (show (l.take (S + K)).length = S + K by have := h.len; simp; omega)
  have eSK : ((S : Int) + (K : Int)).toNat = S + K := by omega
  rw [eSK]
  obtain ⟨i0, hi, hz0, hz1, hz2⟩ := info_parts u8_info
  have hup := h.upto hSK
  have HR : ∀ W, Below w.heap.size w W → Reads W w.heap.size 1 A (S + K) ((l.take (S + K)).map (Value.int .u8)) := fun W hb => hup.reads_in hb
  have HRR := Lib.hid HR
  have HO : ∀ o o', (((w.alloc o).alloc o').alloc (.cells #[] 5)).ownsRow (w.heap.size + 2) 5 1 (.slice (some ⟨w.heap.size + 2, 0, none⟩) 0 0) 0 [] := fun o o' => by
    have := World.ownsRow_made (base := w.heap.size + 2) (e := 5) (size := 1) ((w.alloc o).alloc o') #[] 0 (by simp) (by decide) rfl
    simpa using this
  have HOO := Lib.hid HO
  have hTc : (S : Int) + (K : Int) ≤ (c : Int) := by omega
  have hTc0 : (0 : Int) ≤ (S : Int) + (K : Int) := by omega
  have wSK : IntKind.i64.wrap ((S : Int) + (K : Int)) = (S : Int) + (K : Int) := IntWalk.i64_in _ (by omega)
  have hkn : ¬ (K : Int) < 0 := by omega
  have hkm : ¬ (n : Int) - (S : Int) < (K : Int) := by omega
  clear h hup HR HO
  go_enter Try.func26, Try.ntmps26
  go_wp2_with fail
  go_region_held3 (fun w' => w'.cell? ⟨w.heap.size, 0, none⟩ = some (.slice A n c) ∧ w'.cell? ⟨w.heap.size, 1, none⟩ = some (.int .i64 (S : Int)) ∧ w'.cell? ⟨w.heap.size, 2, none⟩ = some (.int .i64 a))
    (first | exact ⟨p0, p1, p2⟩ | go_keep)
    (first
      | (refine step_append_any _ rfl (.tmp 19) (.tmp 26) 22 rfl (w.heap.size + 2) 5 i0 (.int .u8 0) 1 1 Try.underlying22 hi hz0 hz1 hz2 rfl (by decide) (.slice (some ⟨w.heap.size + 2, 0, none⟩) 0 0) 0 [] rfl (HOO.out _ _) w.heap.size A (S + K) c ((l.take (S + K)).map (Value.int .u8)) rfl (HRR.out _ ((HBe.out.alloc (by simp; omega) _).drew)) (map_one _ _) (by unfold maxLen; omega) (by omega) (by simp) ?_; intro v' w4 hown hg _; obtain ⟨⟨⟨p0, p1, p2⟩, f0, f1, f2⟩, ⟨⟨q0, q1, q2⟩, g0, g1, g2⟩, hb4⟩ := after_app (w := w) (w4 := w4) ⟨hg.os, hg.tape, hg.output, hg.size, hg.block⟩; obtain ⟨A4, c4, rfl⟩ := own_slice hown; have HB4 := Lib.hid hb4; have HO4 := Lib.hid hown; clear hown hg hb4))
  go_wp2
  refine bodyPost_ret (v := .tuple #[.agg #[.slice A4 (S + K) c4, .int .i64 (S : Int), .int .i64 (-1)], .int .i64 0]) (by simp [results, Try.results26, go_sem, q0, q1, q2]) rfl ⟨A4, c4, by rw [HLE.out], ?_, ?_⟩
  · rw [HLE.out]
    exact own_mono (base := w.heap.size + 2) (ownsRow_setCell_below (ownsRow_setCell_below (ownsRow_setCell_below (by simpa using HO4.out) (by simp) _) (by simp) _) (by simp) _) (by omega)
  · exact (((HB4.out.setCell (by simp) _).setCell (by simp) _).setCell (by simp) _)
end Go.Proofs.Ytioedljihlfcaaa
