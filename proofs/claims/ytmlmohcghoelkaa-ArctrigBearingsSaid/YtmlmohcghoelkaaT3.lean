import Derived.Test.YtmlmohcghoelkaaT2
import Derived.Shelf.Bits.Mul64
namespace Go.Proofs
open Go.Shelf
def Try.lays264_ren : Ren where
  f := fun x => match x with
    | 264 => 83
    | n => n
  t := fun x => match x with
    | 53 => 71
    | 46 => 68
    | n => n
  g := fun n => n
theorem Try.lays264 : Lays.n264 Try.prog Try.lays264_ren where
  mixed := Eq.refl true
  f264 := Eq.trans Try.func83 (congrArg some (Eq.refl (Body.n264 Try.lays264_ren)))
  t46 := Try.underlying68
  a46 := Try.isAgg68
  z46 := Try.sizeOf68
  v46 := Try.zeroValue68
  t53 := Try.underlying71
  a53 := Try.isAgg71
  z53 := Try.sizeOf71
  v53 := Try.zeroValue71
end Go.Proofs
namespace Go.Proofs.Ytmlmohcghoelkaa
open Go.RowKit
def MulPost (x y : Int) (w : World) (e : Ending) (w' : World) : Prop := e = .returned (.tuple #[.int .u64 (x * y / 18446744073709551616), .int .u64 (x * y % 18446744073709551616)]) ∧ w = w'
theorem mul64_any (x y : Int) (hx : 0 ≤ x ∧ x < 18446744073709551616) (hy : 0 ≤ y ∧ y < 18446744073709551616) (w : World) :
    Calls Try.prog 83 #[.int .u64 x, .int .u64 y] w (MulPost x y w) := by
  obtain ⟨X, rfl⟩ := Int.eq_ofNat_of_zero_le hx.1
  obtain ⟨Y, rfl⟩ := Int.eq_ofNat_of_zero_le hy.1
  have h := Any.bits_Mul64 Try.lays264 X Y (by omega) (by omega) w
  refine Calls.mono h ?_
  rintro e w' ⟨he, hw⟩
  refine ⟨?_, hw.symm⟩
  rw [he]
  simp
end Go.Proofs.Ytmlmohcghoelkaa
