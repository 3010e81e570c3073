import Derived.Test.YtioedljihlfcaaaW5

namespace Go.Proofs.Ytioedljihlfcaaa
open Go.RowKit

def mE (n : Nat) : Value → Nat | .int _ q => if q < 0 then 0 else n + 1 - q.toNat | _ => 0
/-- Ends without the first 0. -/
def tl (rs : List (List Int)) : List Int := (cum 0 rs).tail
theorem cum_cons (a : Nat) (rs : List (List Int)) : cum a rs = (a : Int) :: (cum a rs).tail := by cases rs <;> simp [cum]
theorem tl_length (rs : List (List Int)) : (tl rs).length = rs.length := by simp [tl, cum_length]
theorem tl_snoc (rs : List (List Int)) (r : List Int) : tl (rs ++ [r]) = tl rs ++ [((total (rs ++ [r]) : Nat) : Int)] := by
  unfold tl; rw [cum_snoc]
  rw [List.tail_append_of_ne_nil (by rw [cum_cons]; simp), Nat.zero_add]

structure REndsRel (w : World) (n : Nat) (l : List Int) (v x : Value) (wr : World) (done : List (List Int)) (p : Nat) : Prop where
  own : wr.ownsRow w.heap.size 3 1 v done.length ((tl done).map (Value.int .i64))
  at_ : x = .int .i64 (nextI l p)
  le : p ≤ n
  fr : frames l = done ++ frames (l.drop p)
  tot : total done = p
  below : Below w.heap.size w wr
theorem REndsRel.step {w wr wr' : World} {n : Nat} {l : List Int} {v v' x : Value} {done : List (List Int)} {p m : Nat} (h : REndsRel w n l v x wr done p) (hl : l.length = n) (hb : AllBytes l)
    (hok : frameOk (l.drop p) = true) (hm : (rd (l.drop p)).toNat = m)
    (hown : wr'.ownsRow w.heap.size 3 1 v' (done.length + 1) ((tl done).map (Value.int .i64) ++ [.int .i64 ((p + (8 + m) : Nat) : Int)]))
    (hbel : Below w.heap.size w wr') :
    REndsRel w n l v' (.int .i64 (nextI l (p + (8 + m)))) wr' (done ++ [recOf (l.drop p)]) (p + (8 + m)) := by
  have hr := recOf_length hok (hb.drop p)
  have h8 := (frameOk_iff _).1 hok
  have hrd := (hb.drop p).rd_bd
  have htot : total (done ++ [recOf (l.drop p)]) = p + (8 + m) := by rw [total_snoc, h.tot, hr, hm]
  have hll : (l.drop p).length = n - p := by simp [hl]
  refine ⟨?_, rfl, by omega, ?_, htot, hbel⟩
  · rw [tl_snoc, List.length_append, List.map_append, htot]
    simpa using hown
  · rw [h.fr, frames_yes hok, List.append_assoc]
    congr 2
    rw [restOf, hm, List.drop_drop]; rfl

def REndsPost (w : World) (l : List Int) (e : Ending) (w' : World) : Prop := ∃ v, e = .returned v ∧ w'.ownsRow w.heap.size 3 1 v (frames l).length ((tl (frames l)).map (Value.int .i64)) ∧ Below w.heap.size w w'

set_option maxHeartbeats 1000000 in
theorem rends_any (A : Option Addr) (n c : Nat) (l : List Int) (w : World) (h : Bytes w A n c l) (hn : n ≤ 2000000) :
    Calls Try.prog 40 #[.slice A n c] w (REndsPost w l) := by
  obtain ⟨i0, hi, hz0, hz1, hz2⟩ := info_parts i64_info
  have hl := Lib.hid h.len
  have hby := Lib.hid h.bytes
  have HB := Lib.hid h
  have hstart : ∀ W, (∃ k, W = w.drewN k) → REndsRel w n l (.slice none 0 0) (.int .i64 (nextI l 0)) W [] 0 := fun W hW =>
    ⟨by simpa [tl, cum] using World.ownsRow_nil W _ 3 1, rfl, by omega, by simp, rfl, by obtain ⟨k, rfl⟩ := hW; exact below_drewN (Below.refl _ _) k⟩
  have HS := Lib.hid hstart
  have H0 := Lib.hid (next_any A n c l 0 w h (Nat.zero_le _) hn)
  clear hstart h
  go_enter Try.func40, Try.ntmps40
  go_wp2_with fail
  refine H0.out.mono ?_
  rintro e w1 ⟨rfl, k1, rfl⟩
  have hst := Lib.hid (HS.out _ ⟨k1, rfl⟩)
  generalize nextI l 0 = x0 at *
  go_wp2
  go_loopw [3, 4] (fun v x wr => ∃ done p, REndsRel w n l v x wr done p) (fun _ x _ => mE n x)
  case atStart => exact ⟨_, _, hst.out⟩
  case round =>
    clear hst
    obtain ⟨done, p, hrel⟩ := hrel
    have HR := Lib.hid hrel
    obtain ⟨hown, rfl, hp, hfr, htot, hbel⟩ := hrel
    have hdl := total_len done
    have HFR := Lib.hid hfr
    rw [htot] at hdl
    have hsz := hbel.size
    clear hfr htot
    by_cases hok : frameOk (l.drop p) = true
    · have hr8 := ((frameOk_iff _).1 hok)
      have hrd := (hby.out.drop p).rd_bd
      have hll : (l.drop p).length = n - p := by simp [hl.out]
      generalize hm : (rd (l.drop p)).toNat = m at *
      have hpm : p + (8 + m) ≤ n := by omega
      have hx : nextI l p = ((p + (8 + m) : Nat) : Int) := by unfold nextI; rw [if_pos hok, hm]
      rw [hx]
      generalize hq : p + (8 + m) = q at *
      have HQ := Lib.hid hq
      have hpq : p < q := by omega
      have HOK := Lib.hid hok
      have HM := Lib.hid hm
      clear hok hm hr8 hrd hx hq hll
      have hown1 := Lib.hid (World.ownsRow.alloc hown (.cells #[.int .i64 (q : Int)] 3))
      clear hown
      go_wp2_with (at_builtin; refine wpList_append_own _ rfl (.tmp 9) (.tmp 11) 65 rfl w.heap.size 3 i0 (.int .i64 0) 1 8 Try.underlying65 hi hz0 hz1 hz2 rfl (by decide) u3 done.length _ rfl hown1.out ⟨wr.heap.size, 0, none⟩ 1 1 [.int .i64 (q : Int)] rfl rfl ?c1 ?c2 ?c3 ?c4 ?c5 ?_)
      case c1 => exact one_new wr _ 3
      case c2 => exact one_int _ _
      case c3 => unfold maxLen; omega
      case c4 => omega
      case c5 => simp; omega
      intro v' w1 hown2 hg _
      have hbel2 : Below w.heap.size w w1 := ((hbel.alloc (by simpa using hsz) _).grown hg (by simp; omega) (fun k hk => (hown1.out.lt k hk).1))
      have hstep : ∀ W, (∃ k, W = w1.drewN k) → REndsRel w n l v' (.int .i64 (nextI l q)) W (done ++ [recOf (l.drop p)]) q := by
        rintro _ ⟨k, rfl⟩
        have := REndsRel.step HR.out hl.out hby.out HOK.out HM.out (v' := v') (wr' := w1.drewN k) (by rw [HQ.out]; exact hown2) (below_drewN hbel2 k)
        rwa [HQ.out] at this
      have HST := Lib.hid hstep
      have HN := Lib.hid (next_any A n c l q w1 (HB.out.below hbel2 (Nat.le_refl _)) hpm hn)
      have hnx : nextI l q < 0 ∨ ((q : Int) < nextI l q ∧ nextI l q ≤ n) := by
        unfold nextI
        by_cases hok : frameOk (l.drop q) = true
        · rw [if_pos hok]
          have hr8 := ((frameOk_iff _).1 hok)
          have hrd := (hby.out.drop q).rd_bd
          have hll : (l.drop q).length = n - q := by simp [hl.out]
          right; omega
        · rw [if_neg hok]; left; omega
      clear hstep hown2 hg hown1 hbel2
      go_wp2_with fail
      refine HN.out.mono ?_
      rintro e w2 ⟨rfl, k2, rfl⟩
      generalize nextI l q = z at *
      go_wp2
      go_roundw
      case rel => exact ⟨_, _, HST.out _ ⟨k2, rfl⟩⟩
      case measure =>
        simp [mE]
        split <;> split <;> omega
    · have hf : frameOk (l.drop p) = false := by simpa using hok
      have hz := frames_no hf
      rw [hz, List.append_nil] at HFR
      have hx : nextI l p = -1 := by unfold nextI; rw [if_neg hok]
      rw [hx]
      have HF := Lib.hid (show REndsPost w l (.returned u3) wr from ⟨u3, rfl, by rw [HFR.out]; exact hown, hbel⟩)
      clear hown hok hx
      go_wp2
      go_ret
      exact HF.out

theorem tl_last (rs : List (List Int)) (h : 0 < rs.length) : (tl rs).getD (rs.length - 1) 0 = (total rs : Int) := by
  have := cum_last 0 rs
  rw [cum_cons] at this
  obtain ⟨m, hm⟩ : ∃ m, rs.length = m + 1 := ⟨rs.length - 1, by omega⟩
  rw [hm, List.getD_cons_succ] at this
  rw [hm]; simpa [tl] using this

set_option maxHeartbeats 1000000 in
theorem rwhole_any (A : Option Addr) (n c : Nat) (l : List Int) (w : World) (h : Bytes w A n c l) (hn : n ≤ 2000000) :
    Calls Try.prog 46 #[.slice A n c] w (WholePost w l) := by
  have HE := Lib.hid (rends_any A n c l w h hn)
  clear h
  go_enter Try.func46, Try.ntmps46
  go_wp2_with fail
  refine HE.out.mono ?_
  rintro e w1 ⟨v, rfl, hown, hb⟩
  obtain ⟨A', c', rfl, hI⟩ := own_ints hown
  have hle := hI.le
  by_cases h0 : (frames l).length = 0
  · have hz : frames l = [] := List.eq_nil_of_length_eq_zero h0
    have HF := Lib.hid (show WholePost w l (.returned (.int .i64 0)) w1 from ⟨by rw [hz]; rfl, hb⟩)
    have HZ := Lib.hid h0
    clear hz hown hI hb
    rw [h0]
    go_wp2
    go_ret
    exact HF.out
  · obtain ⟨b, off, rfl, _, hc⟩ := hI.cells (by omega)
    have hc0 := hc ((frames l).length - 1) (by omega)
    rw [tl_last _ (by omega)] at hc0
    have HF := Lib.hid (show WholePost w l (.returned (.int .i64 (total (frames l) : Int))) w1 from ⟨rfl, hb⟩)
    clear hown hI hc hb
    obtain ⟨m, hm⟩ : ∃ m, (frames l).length = m + 1 := ⟨(frames l).length - 1, by omega⟩
    rw [hm, Nat.add_sub_cancel] at hc0
    rw [hm] at hle ⊢
    have HZ := Lib.hid h0
    clear h0 hm
    have hne : (((m + 1 : Nat) : Int) == 0) = false := by simp; omega
    generalize ((total (frames l) : Nat) : Int) = x at *
    go_wp2
    go_ret
    exact HF.out

set_option maxHeartbeats 1000000 in
theorem rvalid_any (A : Option Addr) (n c : Nat) (l : List Int) (s a : Int) (w : World) (h : Bytes w A n c l) :
    Calls Try.prog 14 #[.agg #[.slice A n c, .int .i64 s, .int .i64 a]] w (ValidPost w (validB l s a)) := by
  have hB := h.alloc (.cells #[.slice A n c, .int .i64 s, .int .i64 a] 24)
  have hcap := h.cap
  have hle := h.le
  by_cases h1 : 1048576 < n ∨ a < -1 ∨ 1048576 < a
  · have HF := Lib.hid (show ValidPost w (validB l s a) (.returned (.bool false)) (w.alloc (.cells #[.slice A n c, .int .i64 s, .int .i64 a] 24)) from
      ⟨by rcases h1 with h1 | h1 | h1
          · have : ¬ l.length ≤ 1048576 := by rw [h.len]; omega
            simp [validB, this]
          · have : ¬ -1 ≤ a := by omega
            simp [validB, this]
          · have : ¬ a ≤ 1048576 := by omega
            simp [validB, this], (Below.refl _ _).alloc (Nat.le_refl _) _⟩)
    by_cases g1 : 1048576 < n
    · have hd : (1048576 : Int) < (n : Int) := by omega
      clear h hB h1
      go_enter Try.func14, Try.ntmps14
      go_wp2
      go_ret
      exact HF.out
    · by_cases g2 : a < -1
      · have hd : ¬ (1048576 : Int) < (n : Int) := by omega
        clear h hB h1
        go_enter Try.func14, Try.ntmps14
        go_wp2
        go_ret
        exact HF.out
      · have hd : ¬ (1048576 : Int) < (n : Int) := by omega
        have hd3 : 1048576 < a := by omega
        clear h hB h1
        go_enter Try.func14, Try.ntmps14
        go_wp2
        go_ret
        exact HF.out
  have e1 : l.length ≤ 1048576 := by rw [h.len]; omega
  have e2 : -1 ≤ a := by omega
  have e3 : a ≤ 1048576 := by omega
  have hv : validB l s a = decide (s ∈ cum 0 (frames l)) := by simp [validB, e1, e2, e3]
  rw [hv]
  have hd : ¬ (1048576 : Int) < (n : Int) := by omega
  by_cases hs : s = 0
  · subst hs
    have HF := Lib.hid (show ValidPost w (decide ((0 : Int) ∈ cum 0 (frames l))) (.returned (.bool true)) (w.alloc (.cells #[.slice A n c, .int .i64 0, .int .i64 a] 24)) from
      ⟨by rw [cum_cons]; simp, (Below.refl _ _).alloc (Nat.le_refl _) _⟩)
    clear h hB h1 hv e1
    go_enter Try.func14, Try.ntmps14
    go_wp2
    go_ret
    exact HF.out
  have hs0 : (s == 0) = false := by simpa using hs
  have hmem : s ∈ cum 0 (frames l) ↔ s ∈ tl (frames l) := by rw [cum_cons]; simp [tl, hs]
  have HM := Lib.hid hmem
  have HE := Lib.hid (rends_any A n c l _ hB (by omega))
  have HS0 := Lib.hid hs
  clear h hB h1 hv e1 hmem hs
  go_enter Try.func14, Try.ntmps14
  go_wp2_with fail
  refine HE.out.mono ?_
  rintro e w1 ⟨v, rfl, hown, hb⟩
  obtain ⟨A', c', rfl, hI⟩ := own_ints hown
  obtain ⟨⟨p0, p1, p2⟩, -, -, -⟩ := box3 hb (by simp) (heap_alloc_new w _)
  have HB := Lib.hid (show Below w.heap.size w w1 from ((Below.refl _ _).alloc (Nat.le_refl _) _).trans (hb.mono (by simp)))
  have hlen := hI.len
  rw [hlen.symm.trans (tl_length _)] at hI ⊢
  have hle := hI.le
  have hcell := hI.cells
  have HL := Lib.hid hI.len
  clear hown hb hI hlen
  generalize hL : tl (frames l) = L at *
  have HLL := Lib.hid hL
  clear hL
  generalize hN : (frames l).length = N at *
  have HN := Lib.hid hN
  clear hN
  go_wp2
  go_loopw [4] (fun i w' => ∃ k : Nat, k ≤ N ∧ i = .int .i64 k ∧ (∀ j, j < k → L.getD j 0 ≠ s) ∧ ∃ m, w' = w1.drewN m) (fun i _ => N - (intOf i).toNat)
  case atStart => exact ⟨0, Nat.zero_le _, rfl, fun j hj => absurd hj (by omega), 0, rfl⟩
  case round =>
    obtain ⟨k, hk, rfl, hno, m, rfl⟩ := hrel
    have HNO := Lib.hid hno
    clear hno
    by_cases hlt : k < N
    · obtain ⟨b, off, rfl, _, hcc⟩ := hcell (by omega)
      have hc0 := hcc k hlt
      clear hcc hcell
      by_cases hx : L.getD k 0 = s
      · have hx1 : (L.getD k 0 == s) = true := beq_iff_eq.2 hx
        have hmem : s ∈ L := by rw [← hx, List.getD_eq_getElem?_getD, List.getElem?_eq_getElem (by rw [HL.out]; exact hlt)]; simp
        have hfin : ∀ W, (∃ q, W = w1.drewN q) → ValidPost w (decide (s ∈ cum 0 (frames l))) (.returned (.bool true)) W := by
          rintro _ ⟨q, rfl⟩
          exact ⟨by rw [decide_eq_true (HM.out.2 hmem)], below_drewN HB.out _⟩
        have HF := Lib.hid hfin
        clear hx hmem hfin
        generalize L.getD k 0 = y at *
        go_wp2
        go_quiet (fail)
        go_wp2
        go_ret
        first | exact HF.out _ ⟨_, rfl⟩ | exact HF.out _ ⟨_, World.drewN_drewN _ _ _⟩
      · have hx1 : (L.getD k 0 == s) = false := beq_eq_false_iff_ne.2 hx
        have HX := Lib.hid hx
        clear hx
        generalize hy : L.getD k 0 = y at *
        have HY := Lib.hid hy
        clear hy
        go_wp2
        go_quiet (fail)
        go_wp2
        go_roundw
        case rel =>
          refine ⟨k + 1, by omega, by go_num, fun j hj => ?_, ?_⟩
          · by_cases e : j = k
            · rw [e, HY.out]; exact HX.out
            · exact HNO.out j (by omega)
          · first | exact ⟨_, rfl⟩ | exact ⟨_, World.drewN_drewN _ _ _⟩
        case measure => simp [intOf]; omega
    · have hno : s ∉ L := by
        intro hm
        obtain ⟨i, hi, he⟩ := List.getElem_of_mem hm
        exact HNO.out i (by have := HL.out; omega) (by rw [List.getD_eq_getElem?_getD, List.getElem?_eq_getElem hi]; simpa using he)
      have hfin : ValidPost w (decide (s ∈ cum 0 (frames l))) (.returned (.bool false)) (w1.drewN m) :=
        ⟨by rw [decide_eq_false (fun h => hno (HM.out.1 h))], below_drewN HB.out _⟩
      have HF := Lib.hid hfin
      clear hno hfin hcell
      go_wp2
      go_ret
      exact HF.out
end Go.Proofs.Ytioedljihlfcaaa
