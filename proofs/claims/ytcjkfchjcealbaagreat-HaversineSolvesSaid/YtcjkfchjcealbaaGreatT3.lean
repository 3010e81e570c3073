import Derived.Test.YtcjkfchjcealbaaGreatT2
import Derived.Shelf.Bits.Mul64
namespace Go.Proofs
open Go.Shelf
def Tryz.lays264_ren : Ren where
  f := fun x => match x with
    | 264 => 118
    | n => n
  t := fun x => match x with
    | 53 => 92
    | 46 => 63
    | n => n
  g := fun n => n
theorem Tryz.lays264 : Lays.n264 Tryz.prog Tryz.lays264_ren where
  mixed := Eq.refl true
  f264 := Eq.trans Tryz.func118 (congrArg some (Eq.refl (Body.n264 Tryz.lays264_ren)))
  t46 := Tryz.underlying63
  a46 := Tryz.isAgg63
  z46 := Tryz.sizeOf63
  v46 := Tryz.zeroValue63
  t53 := Tryz.underlying92
  a53 := Tryz.isAgg92
  z53 := Tryz.sizeOf92
  v53 := Tryz.zeroValue92
end Go.Proofs
namespace Go.Proofs.YtcjkfchjcealbaaGreat
open Go.RowKit
def MulPost (x y : Int) (w : World) (e : Ending) (w' : World) : Prop := e = .returned (.tuple #[.int .u64 (x * y / 18446744073709551616), .int .u64 (x * y % 18446744073709551616)]) ∧ w = w'
theorem mul64_any (x y : Int) (hx : 0 ≤ x ∧ x < 18446744073709551616) (hy : 0 ≤ y ∧ y < 18446744073709551616) (w : World) :
    Calls Tryz.prog 118 #[.int .u64 x, .int .u64 y] w (MulPost x y w) := by
  obtain ⟨X, rfl⟩ := Int.eq_ofNat_of_zero_le hx.1
  obtain ⟨Y, rfl⟩ := Int.eq_ofNat_of_zero_le hy.1
  have h := Any.bits_Mul64 Tryz.lays264 X Y (by omega) (by omega) w
  refine Calls.mono h ?_
  rintro e w' ⟨he, hw⟩
  refine ⟨?_, hw.symm⟩
  rw [he]
  simp
end Go.Proofs.YtcjkfchjcealbaaGreat
