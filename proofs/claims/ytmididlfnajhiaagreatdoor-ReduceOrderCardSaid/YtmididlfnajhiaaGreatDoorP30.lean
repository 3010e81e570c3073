/-
  Chapter 30: what solutions have in common, in plain words. No program here.
-/
import Derived.Test.YtmididlfnajhiaaGreatDoorFc
namespace Go.Proofs.YtmididlfnajhiaaGreatDoor
abbrev Sol := Int × Int × Int × Int
def nos : Sol := (0, 0, 0, 0)
def dirP (a b c d k : Int) : Option (Int × Int) := if mx a (c + k) > mn b (d + k) then none else some (mx a (c + k), mn b (d + k))
def turns : List Int := [-21600000, 0, 21600000]
def dirL (a b c d : Int) (i : Nat) : List (Int × Int) := (turns.take i).filterMap (dirP a b c d)
def dirF (a b c d : Int) : List (Int × Int) → Int × Int × Int
  | [] => (0, 0, 23)
  | [p] => turnR p.1 p.2
  | _ => if d - c < b - a then (c, d, 0) else (a, b, 0)
def dirsR (a b c d : Int) : Int × Int × Int :=
  if a = 0 ∧ b = 21600000 then (c, d, 0) else if c = 0 ∧ d = 21600000 then (a, b, 0) else dirF a b c d (dirL a b c d 3)
theorem filterMap_snoc {α β : Type} (f : α → Option β) (l : List α) (x : α) : (l ++ [x]).filterMap f = l.filterMap f ++ (f x).toList := by
  rw [List.filterMap_append]
  cases h : f x <;> simp [h]
theorem dirL_succ (a b c d : Int) (i : Nat) (h : i < 3) : dirL a b c d (i + 1) = dirL a b c d i ++ (dirP a b c d (-21600000 + 21600000 * (i : Int))).toList := by
  unfold dirL
  have e : turns.take (i + 1) = turns.take i ++ [-21600000 + 21600000 * (i : Int)] := by
    have : i = 0 ∨ i = 1 ∨ i = 2 := by omega
    rcases this with rfl | rfl | rfl <;> rfl
  rw [e, filterMap_snoc]
theorem dirL_len (a b c d : Int) (i : Nat) : (dirL a b c d i).length ≤ 3 := by
  refine Nat.le_trans (List.length_filterMap_le _ _) ?_
  simp [turns]; omega
def svalB (s : Sol) : Bool := avalidB s.1 s.2.1 && (avalidB s.2.2.1 s.2.2.2 && ((s.2.2.1 == 0 && s.2.2.2 == 21600000) || (decide (0 ≤ s.2.2.1) && (decide (s.2.2.1 < 21600000) && decide (s.2.2.2 - s.2.2.1 < 21600000)))))
theorem sval_bd {s : Sol} (h : svalB s = true) : avalidB s.1 s.2.1 = true ∧ avalidB s.2.2.1 s.2.2.2 = true ∧ 0 ≤ s.2.2.1 ∧ s.2.2.1 < 21600000 ∧ s.2.2.2 ≤ 43200000 := by
  unfold svalB at h
  simp only [Bool.and_eq_true, Bool.or_eq_true, beq_iff_eq, decide_eq_true_eq] at h
  obtain ⟨h1, h2, h3⟩ := h
  exact ⟨h1, h2, by omega, by omega, by omega⟩
def meetO (o s : Sol) : Option Sol :=
  if (ameetR o.1 o.2.1 s.1 s.2.1).2.2 = 0 ∧ (dirsR o.2.2.1 o.2.2.2 s.2.2.1 s.2.2.2).2.2 = 0 then some ((ameetR o.1 o.2.1 s.1 s.2.1).1, (ameetR o.1 o.2.1 s.1 s.2.1).2.1, (dirsR o.2.2.1 o.2.2.2 s.2.2.1 s.2.2.2).1, (dirsR o.2.2.1 o.2.2.2 s.2.2.1 s.2.2.2).2.1) else none
def meetF : Sol → List Sol → Option Sol
  | o, [] => some o
  | o, s :: l => match meetO o s with
    | none => none
    | some x => meetF x l
def meetR : List Sol → Int × Int × Int × Int × Int
  | [] => (0, 0, 0, 0, 14)
  | s :: r => if 1000 < (s :: r).length then (0, 0, 0, 0, 4) else if (s :: r).any (fun s => !svalB s) then (0, 0, 0, 0, 1) else
    match meetF s r with
    | none => (0, 0, 0, 0, 23)
    | some x => (x.1, x.2.1, x.2.2.1, x.2.2.2, 0)
theorem meetR_many {s : Sol} {r : List Sol} (h : 1000 < (s :: r).length) : meetR (s :: r) = (0, 0, 0, 0, 4) := by
  simp only [meetR]; rw [if_pos h]
theorem meetR_bad {s : Sol} {r : List Sol} (h : ¬ 1000 < (s :: r).length) (hb : (s :: r).any (fun s => !svalB s) = true) : meetR (s :: r) = (0, 0, 0, 0, 1) := by
  simp only [meetR]; rw [if_neg h, if_pos hb]
theorem meetR_ok {s : Sol} {r : List Sol} (h : ¬ 1000 < (s :: r).length) (hb : (s :: r).any (fun s => !svalB s) = false) : meetR (s :: r) = match meetF s r with
    | none => (0, 0, 0, 0, 23)
    | some x => (x.1, x.2.1, x.2.2.1, x.2.2.2, 0) := by
  simp only [meetR]; rw [if_neg h, if_neg (by rw [hb]; simp)]
theorem dirsR_valid (htv : ∀ a b, avalidB a b = true → (turnR a b).2.2 = 0 → avalidB (turnR a b).1 (turnR a b).2.1 = true) {a b c d : Int} (h : avalidB a b = true) (h' : avalidB c d = true) (_hb : -500000000000 ≤ c ∧ d ≤ 500000000000) (h0 : (dirsR a b c d).2.2 = 0) : avalidB (dirsR a b c d).1 (dirsR a b c d).2.1 = true := by
  unfold dirsR at *
  by_cases h1 : a = 0 ∧ b = 21600000
  · rw [if_pos h1] at *; exact h'
  · rw [if_neg h1] at *
    by_cases h2 : c = 0 ∧ d = 21600000
    · rw [if_pos h2] at *; exact h
    · rw [if_neg h2] at *
      cases hL : dirL a b c d 3 with
      | nil => rw [hL] at h0; cases h0
      | cons p L =>
        rw [hL] at h0
        cases L with
        | nil =>
          have hp : p ∈ dirL a b c d 3 := by rw [hL]; simp
          unfold dirL at hp
          rw [List.mem_filterMap] at hp
          obtain ⟨k, hk, hp⟩ := hp
          have bd := aval_bd h
          unfold dirP at hp
          split at hp
          · cases hp
          · cases hp
            refine htv _ _ ?_ h0
            have m1 : a ≤ mx a (c + k) ∧ mn b (d + k) ≤ b := by unfold mx mn; constructor <;> split <;> omega
            unfold avalidB
            simp
            omega
        | cons q L =>
          simp only [dirF]
          split
          · exact h'
          · exact h
theorem meetO_valid (htv : ∀ a b, avalidB a b = true → (turnR a b).2.2 = 0 → avalidB (turnR a b).1 (turnR a b).2.1 = true) {o s x : Sol} (h : avalidB o.2.2.1 o.2.2.2 = true) (hs : svalB s = true) (hx : meetO o s = some x) : avalidB x.2.2.1 x.2.2.2 = true := by
  have b := sval_bd hs
  unfold meetO at hx
  split at hx
  · cases hx
    rename_i h1
    exact dirsR_valid htv h b.2.1 (by omega) h1.2
  · cases hx
def okS (r : Int × Int × Int × Int × Int) : Option Sol := if r.2.2.2.2 = 0 then some (r.1, r.2.1, r.2.2.1, r.2.2.2.1) else none
def allI (by_ : Int → Int × Int × Int × Int × Int) (i : Nat) : List Sol := (List.range i).filterMap fun (j : Nat) => okS (by_ ((j : Int) + 1))
theorem allI_succ (by_ : Int → Int × Int × Int × Int × Int) (i : Nat) : allI by_ (i + 1) = allI by_ i ++ (okS (by_ ((i : Int) + 1))).toList := by
  unfold allI
  rw [List.range_succ, filterMap_snoc]
theorem allI_len (by_ : Int → Int × Int × Int × Int × Int) (i : Nat) : (allI by_ i).length ≤ i := by
  refine Nat.le_trans (List.length_filterMap_le _ _) ?_
  simp
def rmeetO (rc : Int → Int → Int → Int → Int × Int × Bool) (o s : Sol) : Option Sol :=
  if (rc o.2.2.1 o.2.2.2 s.2.2.1 s.2.2.2).2.2 = true ∧ ¬ mx o.1 s.1 > mn o.2.1 s.2.1 then some (mx o.1 s.1, mn o.2.1 s.2.1, (rc o.2.2.1 o.2.2.2 s.2.2.1 s.2.2.2).1, (rc o.2.2.1 o.2.2.2 s.2.2.1 s.2.2.2).2.1) else none
def rmeetF (rc : Int → Int → Int → Int → Int × Int × Bool) : Sol → List Sol → Option Sol
  | o, [] => some o
  | o, s :: l => match rmeetO rc o s with
    | none => none
    | some x => rmeetF rc x l
end Go.Proofs.YtmididlfnajhiaaGreatDoor
