import Derived.Test.YtioedljihlfcaaaW11

namespace Go.Proofs.Ytioedljihlfcaaa
open Go.RowKit

/-- Slice values that read as records, each in memory of the call's own. -/
def Recs (w : World) (B : Nat) : List Value → List (List Int) → Prop
  | [], [] => True
  | v :: vs, r :: rs => (∃ A c, v = .slice A r.length c ∧ w.ownsRow B 5 1 v r.length (r.map (Value.int .u8))) ∧ Recs w B vs rs
  | _, _ => False
theorem Recs.length {w : World} {B : Nat} : ∀ {vs : List Value} {rs : List (List Int)}, Recs w B vs rs → vs.length = rs.length
  | [], [], _ => rfl
  | _ :: _, _ :: _, h => by simp [Recs.length h.2]
theorem Recs.below {w w' : World} {B : Nat} (hb : Below w.heap.size w w') : ∀ {vs : List Value} {rs : List (List Int)}, Recs w B vs rs → Recs w' B vs rs
  | [], [], _ => trivial
  | _ :: _, _ :: _, ⟨⟨A, c, hv, ho⟩, h⟩ => ⟨⟨A, c, hv, own_below ho hb⟩, Recs.below hb h⟩
theorem own_type_ne {w : World} {B B' e e' size size' n n' : Nat} {v v' : Value} {xs xs' : List Value} (h : w.ownsRow B e size v n xs) (h' : w.ownsRow B' e' size' v' n' xs') (hne : e ≠ e') : v.ownBlock = none ∨ v.ownBlock ≠ v'.ownBlock := by
  rcases h.2 with ⟨rfl, _⟩ | ⟨g, cap, cur, rfl, _, hh, _⟩
  · exact .inl rfl
  · right
    rcases h'.2 with ⟨rfl, _⟩ | ⟨g', cap', cur', rfl, _, hh', _⟩
    · simp [Value.ownBlock]
    · intro he
      have : g = g' := by simpa [Value.ownBlock] using he
      subst this
      rw [hh] at hh'
      injection hh' with hh'
      injection hh' with _ ht
      exact hne ht
theorem Recs.grown {w w' : World} {B B' : Nat} {v' : Value} {n' : Nat} {xs' : List Value} (ho' : w.ownsRow B' 22 1 v' n' xs') (hg : w.grownBy w' v'.ownBlock) : ∀ {vs : List Value} {rs : List (List Int)}, Recs w B vs rs → Recs w' B vs rs
  | [], [], _ => trivial
  | _ :: _, _ :: _, ⟨⟨A, c, hv, ho⟩, h⟩ => ⟨⟨A, c, hv, ho.kept hg (own_type_ne ho ho' (by decide))⟩, Recs.grown ho' hg h⟩
theorem Recs.snoc {w : World} {B : Nat} {v : Value} {r : List Int} (hr : ∃ A c, v = .slice A r.length c ∧ w.ownsRow B 5 1 v r.length (r.map (Value.int .u8))) : ∀ {vs : List Value} {rs : List (List Int)}, Recs w B vs rs → Recs w B (vs ++ [v]) (rs ++ [r])
  | [], [], _ => ⟨hr, trivial⟩
  | _ :: _, _ :: _, ⟨h1, h⟩ => ⟨h1, Recs.snoc hr h⟩
theorem Recs.one {w : World} {B : Nat} : ∀ {vs : List Value} {rs : List (List Int)}, Recs w B vs rs → ∀ u ∈ vs, u.oneCell' = true
  | [], [], _ => fun _ h => by cases h
  | v :: vs, r :: rs, ⟨⟨A, c, hv, _⟩, h⟩ => fun u hu => by
    rcases List.mem_cons.1 hu with rfl | hu
    · rw [hv]; rfl
    · exact Recs.one h u hu

def RecsPost (w : World) (rs : List (List Int)) (e : Ending) (w' : World) : Prop :=
  ∃ A c vs, e = .returned (.tuple #[.slice A rs.length c, .int .i64 0]) ∧ w'.ownsRow w.heap.size 22 1 (.slice A rs.length c) rs.length vs ∧ Recs w' w.heap.size vs rs ∧ Below w.heap.size w w'
def NoRecsPost (w : World) (e : Ending) (w' : World) : Prop := e = .returned (.tuple #[.slice none 0 0, .int .i64 1]) ∧ Below w.heap.size w w'

theorem sl_info : (Try.prog.info? 22).map (fun i => (i.zero, i.size, i.bytes)) = some (some (.slice none 0 0), 1, 24) := by kernel_rfl

structure RecRel (w : World) (n : Nat) (l : List Int) (v r : Value) (wr : World) (done : List (List Int)) (p : Nat) (A2 : Option Addr) (c2 : Nat) (vs : List Value) : Prop where
  own : wr.ownsRow w.heap.size 22 1 v done.length vs
  recs : Recs wr w.heap.size vs done
  rest : r = .slice A2 (n - p) c2
  le : p ≤ n
  bytes : Bytes w A2 (n - p) c2 (l.drop p)
  fr : frames l = done ++ frames (l.drop p)
  tot : total done = p
  below : Below w.heap.size w wr

theorem RecRel.step {w wr wr' : World} {n : Nat} {l : List Int} {v v' r : Value} {done : List (List Int)} {p m : Nat} {A2 A3 : Option Addr} {c2 c3 : Nat} {vs vs' : List Value} (h : RecRel w n l v r wr done p A2 c2 vs)
    (hok : frameOk (l.drop p) = true) (hm : (rd (l.drop p)).toNat = m)
    (hown : wr'.ownsRow w.heap.size 22 1 v' (done.length + 1) vs') (hrecs : Recs wr' w.heap.size vs' (done ++ [recOf (l.drop p)]))
    (hbel : Below w.heap.size w wr') (hB : Bytes w A3 (n - p - (8 + m)) c3 (restOf (l.drop p))) :
    RecRel w n l v' (.slice A3 (n - p - (8 + m)) c3) wr' (done ++ [recOf (l.drop p)]) (p + (8 + m)) A3 c3 vs' := by
  have hr := recOf_length hok h.bytes.bytes
  have hll := h.bytes.len
  have hrd := h.bytes.bytes.rd_bd
  have h8 := (frameOk_iff _).1 hok
  have htot : total (done ++ [recOf (l.drop p)]) = p + (8 + m) := by rw [total_snoc, h.tot, hr, hm]
  refine ⟨?_, hrecs, by rw [show n - (p + (8 + m)) = n - p - (8 + m) by omega], by omega, ?_, ?_, htot, hbel⟩
  · rw [List.length_append]; simpa using hown
  · rw [show n - (p + (8 + m)) = n - p - (8 + m) by omega, show l.drop (p + (8 + m)) = restOf (l.drop p) by rw [restOf, hm, List.drop_drop]]
    exact hB
  · rw [h.fr, frames_yes hok, List.append_assoc]
    congr 2
    rw [restOf, hm, List.drop_drop]; rfl

set_option maxHeartbeats 1000000 in
theorem records_no (A : Option Addr) (n c : Nat) (l : List Int) (s a : Int) (w : World) (h : Bytes w A n c l) (hv : validB l s a = false) :
    Calls Try.prog 25 #[.agg #[.slice A n c, .int .i64 s, .int .i64 a]] w (NoRecsPost w) := by
  have hB := h.alloc (.cells #[.slice A n c, .int .i64 s, .int .i64 a] 24)
  have HV := Lib.hid (valid_any A n c l s a _ hB)
  rw [hv] at HV
  clear h hB hv
  go_enter Try.func25, Try.ntmps25
  go_wp2_with fail
  refine HV.out.mono ?_
  rintro e w1 ⟨rfl, hb⟩
  have HF := Lib.hid (show NoRecsPost w (.returned (.tuple #[.slice none 0 0, .int .i64 1])) w1 from ⟨rfl, ((Below.refl _ _).alloc (Nat.le_refl _) _).trans (hb.mono (by simp))⟩)
  clear hb
  go_wp2
  go_ret2
  exact HF.out

set_option maxHeartbeats 2000000 in
theorem records_yes (A : Option Addr) (n c : Nat) (l : List Int) (s a : Int) (w : World) (h : Bytes w A n c l) (hv : validB l s a = true) :
    Calls Try.prog 25 #[.agg #[.slice A n c, .int .i64 s, .int .i64 a]] w (RecsPost w (frames l)) := by
  obtain ⟨i0, hi, hz0, hz1, hz2⟩ := info_parts sl_info
  have hn : n ≤ 1048576 := by have := h.len; simp [validB] at hv; omega
  have hB := h.alloc (.cells #[.slice A n c, .int .i64 s, .int .i64 a] 24)
  have HV := Lib.hid (valid_any A n c l s a _ hB)
  have HBw := Lib.hid h
  have hl := Lib.hid h.len
  rw [hv] at HV
  clear h hB hv
  go_enter Try.func25, Try.ntmps25
  go_wp2_with fail
  refine HV.out.mono ?_
  rintro e w1 ⟨rfl, hb⟩
  obtain ⟨⟨p0, p1, p2⟩, f0, f1, f2⟩ := box3 hb (by simp) (heap_alloc_new w _)
  have hbel : Below w.heap.size w w1 := ((Below.refl _ _).alloc (Nat.le_refl _) _).trans (hb.mono (by simp))
  have HST := Lib.hid (show RecRel w n l (.slice none 0 0) (.slice A n c) w1 [] 0 A c [] from ⟨World.ownsRow_nil _ _ _ _, trivial, rfl, by omega, by simpa using HBw.out, by simp, rfl, hbel⟩)
  clear hb hbel
  go_wp2
  go_loopw [4, 5] (fun v r wr => ∃ done p A2 c2 vs, RecRel w n l v r wr done p A2 c2 vs) (fun _ r _ => lenOf r)
  case atStart => exact ⟨_, _, _, _, _, HST.out⟩
  case round =>
    clear HST p0 p1 p2 f0 f1 f2
    obtain ⟨done, p, A2, c2, vs, hrel⟩ := hrel
    have HR := Lib.hid hrel
    obtain ⟨hown, hrecs, rfl, hp, hB, hfr, htot, hbel⟩ := hrel
    have hB' := hB.below hbel (Nat.le_refl _)
    have hdl := total_len done
    have HFR := Lib.hid hfr
    have hll := Lib.hid hB.len
    rw [htot] at hdl
    have hsz := hbel.size
    clear hfr htot
    go_wp2_with fail
    refine (record_any _ _ _ _ _ _ hB hB').mono ?_
    rintro e w2 ⟨⟨k1, rfl⟩, hy, hno⟩
    by_cases hok : frameOk (l.drop p) = true
    · obtain ⟨A1, c1, A3, c3, rfl, hB1, hB3⟩ := hy hok
      have hr8 := ((frameOk_iff _).1 hok)
      have hrd := hB.bytes.rd_bd
      have hrl := recOf_length hok hB.bytes
      clear hy hno
      generalize hm : (rd (l.drop p)).toNat = m at *
      have hpm : p + (8 + m) ≤ n := by have := hr8.2.2.1; have := hll.out; omega
      have HOK := Lib.hid hok
      have HM := Lib.hid hm
      have HB3 := Lib.hid hB3
      have HC := Lib.hid (clone_any A1 m c1 (recOf (l.drop p)) (wr.drewN k1) (hB1.below (below_drewN hbel k1) (Nat.le_refl _)) (by omega))
      have HO := Lib.hid hown
      have HRE := Lib.hid hrecs
      have HRL := Lib.hid hrl
      clear hok hm hr8 hrd hB1 hB3 hB hB' hown hrecs hrl
      go_wp2_with fail
      refine HC.out.mono ?_
      rintro e w3 ⟨A4, c4, rfl, hown4, hb4⟩
      have hbw3 : Below w.heap.size w w3 := (below_drewN hbel k1).trans (hb4.mono hsz)
      have HO3 := Lib.hid (World.ownsRow.alloc (own_below (w := wr.drewN k1) HO.out hb4) (.cells #[.slice A4 m c4] 22))
      have HRE3 := Lib.hid (((Recs.below (w := wr.drewN k1) hb4 (Recs.below (w := wr) (below_drewN (Below.refl _ _) k1) HRE.out)).below ((Below.refl _ _).alloc (Nat.le_refl _) (.cells #[.slice A4 m c4] 22))))
      have HO4 := Lib.hid (World.ownsRow.alloc (own_mono (base' := w.heap.size) hown4 hsz) (.cells #[.slice A4 m c4] 22))
      have hsz3 := hbw3.size
      clear hown4 hb4
      go_wp2_with (at_builtin; refine wpList_append_own _ rfl (.tmp 23) (.tmp 26) 43 rfl w.heap.size 22 i0 (.slice none 0 0) 1 24 Try.underlying43 hi hz0 hz1 hz2 rfl (by decide) u4 done.length _ rfl HO3.out ⟨w3.heap.size, 0, none⟩ 1 1 [.slice A4 m c4] rfl rfl ?c1 ?c2 ?c3 ?c4 ?c5 ?_)
      case c1 => exact one_new w3 _ 22
      case c2 => intro u hu; simp at hu; subst hu; rfl
      case c3 => unfold maxLen; omega
      case c4 => omega
      case c5 => simp; omega
      intro v' w4 hown5 hg _
      have hb5 : Below w.heap.size w w4 := ((hbw3.alloc hsz3 _).grown hg (by simp; omega) (fun k hk => (HO3.out.lt k hk).1))
      have hrec5 : Recs w4 w.heap.size (vs ++ [.slice A4 m c4]) (done ++ [recOf (l.drop p)]) :=
        Recs.snoc ⟨A4, c4, by rw [HRL.out], by rw [HRL.out]; exact HO4.out.kept hg (own_type_ne HO4.out HO3.out (by decide))⟩ (HRE3.out.grown HO3.out hg)
      have HSTEP := Lib.hid (RecRel.step HR.out HOK.out HM.out hown5 hrec5 hb5 HB3.out)
      clear hown5 hg hb5 hrec5 hbw3
      go_wp2
      go_roundw
      case rel => exact ⟨_, _, _, _, _, HSTEP.out⟩
      case measure => simp [lenOf]; omega
    · have hf : frameOk (l.drop p) = false := by simpa using hok
      obtain rfl := hno hf
      have hz := frames_no hf
      rw [hz, List.append_nil] at HFR
      obtain ⟨A4, c4, rfl⟩ := own_slice hown
      have hfin : RecsPost w (frames l) (.returned (.tuple #[.slice A4 done.length c4, .int .i64 0])) (wr.drewN k1) :=
        ⟨A4, c4, vs, by rw [HFR.out], by rw [HFR.out]; exact hown, by rw [HFR.out]; exact Recs.below (below_drewN (Below.refl _ _) k1) hrecs, below_drewN hbel _⟩
      have HF := Lib.hid hfin
      clear hy hno hok hfin hown hrecs hB hB'
      go_wp2
      go_ret2
      exact HF.out
end Go.Proofs.Ytioedljihlfcaaa
