import Derived.Test.YtioedljihlfcaaaW1

namespace Go.Proofs.Ytioedljihlfcaaa
open Go.RowKit

def lenOf : Value → Nat | .slice _ n _ => n | _ => 0
theorem total_snoc (rs : List (List Int)) (r : List Int) : total (rs ++ [r]) = total rs + (8 + r.length) := by simp [total]
theorem cum_snoc (a : Nat) (rs : List (List Int)) (r : List Int) : cum a (rs ++ [r]) = cum a rs ++ [((a + total (rs ++ [r]) : Nat) : Int)] := by
  induction rs generalizing a with
  | nil => simp [cum, total]; omega
  | cons x rs ih =>
    simp only [List.cons_append, cum]
    rw [ih]
    simp [total]; omega
theorem cum_length (a : Nat) (rs : List (List Int)) : (cum a rs).length = rs.length + 1 := by
  induction rs generalizing a with
  | nil => rfl
  | cons x rs ih => simp [cum, ih]
theorem total_len (rs : List (List Int)) : rs.length * 8 ≤ total rs := by
  induction rs with
  | nil => simp [total]
  | cons x rs ih => simp [total] at *; omega

theorem i64_info : (Try.prog.info? 3).map (fun i => (i.zero, i.size, i.bytes)) = some (some (.int .i64 0), 1, 8) := by kernel_rfl
theorem u8_info : (Try.prog.info? 5).map (fun i => (i.zero, i.size, i.bytes)) = some (some (.int .u8 0), 1, 1) := by kernel_rfl

theorem one_new (w : World) (x : Value) (t : TypeId) : ∀ j u, ([x] : List Value)[j]? = some u → (w.alloc (.cells #[x] t)).cell? ((⟨w.heap.size, 0, none⟩ : Addr).add j) = some u := by
  intro j u h
  cases j with
  | zero =>
    simp at h; subst h
    rw [show (⟨w.heap.size, 0, none⟩ : Addr).add 0 = ⟨w.heap.size, 0, none⟩ from rfl, World.cell?_alloc_at _ _ _ _ rfl]; rfl
  | succ j => simp at h
theorem one_int (k : IntKind) (x : Int) : ∀ u ∈ ([.int k x] : List Value), u.oneCell' = true := by intro u hu; simp at hu; subst hu; rfl
theorem below_drewN {B : Nat} {a w : World} (h : Below B a w) (n : Nat) : Below B a (w.drewN n) := ⟨h.os, h.tape, h.output, h.size, h.block⟩

/-- What stands at the head of the loop of 'ends'. -/
structure EndsRel (w : World) (n : Nat) (l : List Int) (v r : Value) (wr : World) (done : List (List Int)) (p : Nat) (A2 : Option Addr) (c2 : Nat) : Prop where
  own : wr.ownsRow w.heap.size 3 1 v (done.length + 1) ((cum 0 done).map (Value.int .i64))
  rest : r = .slice A2 (n - p) c2
  le : p ≤ n
  bytes : Bytes w A2 (n - p) c2 (l.drop p)
  fr : frames l = done ++ frames (l.drop p)
  tot : total done = p
  below : Below w.heap.size w wr

theorem EndsRel.step {w wr wr' : World} {n : Nat} {l : List Int} {v v' r : Value} {done : List (List Int)} {p m : Nat} {A2 A3 : Option Addr} {c2 c3 : Nat} (h : EndsRel w n l v r wr done p A2 c2)
    (hok : frameOk (l.drop p) = true) (hm : (rd (l.drop p)).toNat = m)
    (hown : wr'.ownsRow w.heap.size 3 1 v' (done.length + 1 + 1) ((cum 0 done).map (Value.int .i64) ++ [.int .i64 ((p + (8 + m) : Nat) : Int)]))
    (hbel : Below w.heap.size w wr') (hB : Bytes w A3 (n - p - (8 + m)) c3 (restOf (l.drop p))) :
    EndsRel w n l v' (.slice A3 (n - p - (8 + m)) c3) wr' (done ++ [recOf (l.drop p)]) (p + (8 + m)) A3 c3 := by
  have hr := recOf_length hok h.bytes.bytes
  have hll := h.bytes.len
  have hrd := h.bytes.bytes.rd_bd
  have h8 := (frameOk_iff _).1 hok
  have htot : total (done ++ [recOf (l.drop p)]) = p + (8 + m) := by rw [total_snoc, h.tot, hr, hm]
  refine ⟨?_, by rw [show n - (p + (8 + m)) = n - p - (8 + m) by omega], by omega, ?_, ?_, htot, hbel⟩
  · rw [cum_snoc, List.length_append, List.map_append, htot]
    simpa using hown
  · rw [show n - (p + (8 + m)) = n - p - (8 + m) by omega, show l.drop (p + (8 + m)) = restOf (l.drop p) by rw [restOf, hm, List.drop_drop]]
    exact hB
  · rw [h.fr, frames_yes hok, List.append_assoc]
    congr 2
    rw [restOf, hm, List.drop_drop]; rfl

set_option maxHeartbeats 1000000 in
theorem ends_any (A : Option Addr) (n c : Nat) (l : List Int) (w : World) (h : Bytes w A n c l) (hn : n ≤ 2000000) :
    Calls Try.prog 39 #[.slice A n c] w fun e w' => ∃ v, e = .returned v ∧ w'.ownsRow w.heap.size 3 1 v ((frames l).length + 1) ((cum 0 (frames l)).map (Value.int .i64)) ∧ Below w.heap.size w w' := by
  obtain ⟨i0, hi, hz0, hz1, hz2⟩ := info_parts i64_info
  have hl := Lib.hid h.len
  have hstart : EndsRel w n l (.slice (some ⟨w.heap.size, 0, none⟩) 1 1) (.slice A n c) (w.alloc (.cells #[.int .i64 0] 3)) [] 0 A c :=
    ⟨⟨by simp [cum], .inr ⟨w.heap.size, 1, #[.int .i64 0], rfl, Nat.le_refl _, heap_alloc_new w _, by simp, by decide, rfl, by simp [cum]⟩⟩, rfl, by omega, by simpa using h, by simp, rfl, (Below.refl _ _).alloc (Nat.le_refl _) _⟩
  have HS := Lib.hid hstart
  clear hstart h
  go_enter Try.func39, Try.ntmps39
  go_wp2
  go_loopw [3, 4] (fun v r wr => ∃ done p A2 c2, EndsRel w n l v r wr done p A2 c2) (fun _ r _ => lenOf r)
  case atStart => exact ⟨_, _, _, _, HS.out⟩
  case round =>
    obtain ⟨done, p, A2, c2, hrel⟩ := hrel
    have HR := Lib.hid hrel
    obtain ⟨hown, rfl, hp, hB, hfr, htot, hbel⟩ := hrel
    have hB' := hB.below hbel (Nat.le_refl _)
    have hdl := total_len done
    have HFR := Lib.hid hfr
    have hll := Lib.hid hB.len
    rw [htot] at hdl
    have hsz := hbel.size
    clear hfr htot
    go_wp2_with fail
    refine (record_any _ _ _ _ _ _ hB hB').mono ?_
    rintro e w1 ⟨⟨k1, rfl⟩, hy, hno⟩
    by_cases hok : frameOk (l.drop p) = true
    · obtain ⟨A1, c1, A3, c3, rfl, hB1, hB3⟩ := hy hok
      have hr8 := ((frameOk_iff _).1 hok)
      have hrd := hB.bytes.rd_bd
      clear hy hno
      generalize hm : (rd (l.drop p)).toNat = m at *
      have hpm : p + (8 + m) ≤ n := by have := hr8.2.2.1; have := hll.out; omega
      have hsub : IntKind.i64.wrap ((n : Int) - ((n - p - (8 + m) : Nat) : Int)) = ((p + (8 + m) : Nat) : Int) := by rw [IntWalk.i64_in _ (by omega)]; omega
      have HSUB := Lib.hid hsub
      have HOK := Lib.hid hok
      have HM := Lib.hid hm
      have HB3 := Lib.hid hB3
      clear hsub hok hm hr8 hrd hB1 hB3 hB hB' 
      have hown1 := Lib.hid (World.ownsRow.alloc (w := wr.drewN k1) hown (.cells #[.int .i64 ((n : Int) - ((n - p - (8 + m) : Nat) : Int))] 3))
      clear hown
      go_wp2_with (at_builtin; refine wpList_append_own _ rfl (.tmp 20) (.tmp 26) 65 rfl w.heap.size 3 i0 (.int .i64 0) 1 8 Try.underlying65 hi hz0 hz1 hz2 rfl (by decide) u3 (done.length + 1) _ rfl hown1.out ⟨wr.heap.size, 0, none⟩ 1 1 [.int .i64 ((n : Int) - ((n - p - (8 + m) : Nat) : Int))] rfl rfl ?c1 ?c2 ?c3 ?c4 ?c5 ?_)
      case c1 => exact one_new (wr.drewN k1) _ 3
      case c2 => exact one_int _ _
      case c3 => unfold maxLen; omega
      case c4 => omega
      case c5 => simp; omega
      intro v' w1 hown2 hg _
      have hbel2 : Below w.heap.size w w1 := (((below_drewN hbel k1).alloc (by simpa using hsz) _).grown hg (by simp; omega) (fun k hk => (hown1.out.lt k hk).1))
      have hstep := EndsRel.step HR.out HOK.out HM.out (v' := v') (wr' := w1) (A3 := A3) (c3 := c3) (by rw [show ((p + (8 + m) : Nat) : Int) = (n : Int) - ((n - p - (8 + m) : Nat) : Int) by omega]; exact hown2) hbel2 HB3.out
      have HST := Lib.hid hstep
      clear hstep hown2 hg hown1 hbel2
      go_wp2
      go_roundw
      case rel => exact ⟨_, _, _, _, HST.out⟩
      case measure => simp [lenOf]; omega
    · have hf : frameOk (l.drop p) = false := by simpa using hok
      obtain rfl := hno hf
      have hz := frames_no hf
      rw [hz, List.append_nil] at HFR
      clear hy hno hok
      have hfin : ∃ v, Ending.returned u3 = .returned v ∧ (wr.drewN k1).ownsRow w.heap.size 3 1 v ((frames l).length + 1) ((cum 0 (frames l)).map (Value.int .i64)) ∧ Below w.heap.size w (wr.drewN k1) :=
        ⟨u3, rfl, by rw [HFR.out]; exact hown, below_drewN hbel _⟩
      have HF := Lib.hid hfin
      clear hfin hown
      go_wp2
      go_ret
      exact HF.out
end Go.Proofs.Ytioedljihlfcaaa
