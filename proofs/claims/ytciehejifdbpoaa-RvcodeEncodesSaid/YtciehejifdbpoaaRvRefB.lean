import Derived.Test.YtciehejifdbpoaaRvRefA
namespace Go.Proofs.Ytciehejifdbpoaa.Rv
open Go.RowKit Go.Proofs.YtciehejifdbpoaaW.PrintWords Go.Proofs.YtciehejifdbpoaaW.PrintLast Go.Proofs.YtciehejifdbpoaaW.PrintMore
open Go.Proofs.Ytciehejifdbpoaa.PRvcodeDecodes

/-- The reference's way, its first five numbers told. -/
def readO (x o rd f3 ra rb : Int) : Option (ByteArray × Int × Int × Int × Int) :=
  if o = 51 then burinref26_Read.j0 20 x o rd f3 ra rb o (o == 51) else burinref26_Read.j0 20 x o rd f3 ra rb o (o == 59)
theorem read_start (n : Nat) (h : n < 4294967296) : burinref26_Read.f 20 (n : Int) = readO (n : Int) ((n % 128 : Nat) : Int) ((n / 128 % 32 : Nat) : Int) ((n / 4096 % 8 : Nat) : Int) ((n / 32768 % 32 : Nat) : Int) ((n / 1048576 % 32 : Nat) : Int) := by
  have b0 : burinref26_Bits.f (n : Int) 0 7 = some ((n / 2 ^ 0 % 2 ^ 7 : Nat) : Int) := bits_val n 0 7 h (by decide) (by decide)
  have b1 : burinref26_Bits.f (n : Int) 7 5 = some ((n / 2 ^ 7 % 2 ^ 5 : Nat) : Int) := bits_val n 7 5 h (by decide) (by decide)
  have b2 : burinref26_Bits.f (n : Int) 12 3 = some ((n / 2 ^ 12 % 2 ^ 3 : Nat) : Int) := bits_val n 12 3 h (by decide) (by decide)
  have b3 : burinref26_Bits.f (n : Int) 15 5 = some ((n / 2 ^ 15 % 2 ^ 5 : Nat) : Int) := bits_val n 15 5 h (by decide) (by decide)
  have b4 : burinref26_Bits.f (n : Int) 20 5 = some ((n / 2 ^ 20 % 2 ^ 5 : Nat) : Int) := bits_val n 20 5 h (by decide) (by decide)
  have e0 : n / 2 ^ 0 % 2 ^ 7 = n % 128 := by omega
  have e1 : n / 2 ^ 7 % 2 ^ 5 = n / 128 % 32 := by omega
  have e2 : n / 2 ^ 12 % 2 ^ 3 = n / 4096 % 8 := by omega
  have e3 : n / 2 ^ 15 % 2 ^ 5 = n / 32768 % 32 := by omega
  have e4 : n / 2 ^ 20 % 2 ^ 5 = n / 1048576 % 32 := by omega
  unfold burinref26_Read.f
  rw [b0, b1, b2, b3, b4, e0, e1, e2, e3, e4]
  simp only [Option.bind_some]
  rfl

theorem leafR (x rd f3 ra rb : Int) : readO x 51 rd f3 ra rb = (burinref26_Bits.f x 25 7).bind fun t => (burinref26_opR.f 19 51 f3 t).bind fun nm => some (nm, rd, ra, rb, 0) := by kernel_rfl
theorem leafRw (x rd f3 ra rb : Int) : readO x 59 rd f3 ra rb = (burinref26_Bits.f x 25 7).bind fun t => (burinref26_opR.f 19 59 f3 t).bind fun nm => some (nm, rd, ra, rb, 0) := by kernel_rfl
def immI (x : Int) : Option Int := (burinref26_Bits.f x 20 12).bind fun t => burinref26_signed.f t 12
theorem leafL (x rd f3 ra rb : Int) : readO x 3 rd f3 ra rb = (burinref26_opI.f 3 f3).bind fun nm => (burinref26_Bits.f x 20 12).bind fun t => (burinref26_signed.f t 12).bind fun im => some (nm, rd, ra, 0, im) := by kernel_rfl
theorem leafJr (x rd f3 ra rb : Int) : readO x 103 rd f3 ra rb = (burinref26_opI.f 103 f3).bind fun nm => (burinref26_Bits.f x 20 12).bind fun t => (burinref26_signed.f t 12).bind fun im => some (nm, rd, ra, 0, im) := by kernel_rfl
theorem leafSh1 (x rd ra rb : Int) : readO x 19 rd 1 ra rb = (burinref26_shift.f 17 x 6).bind fun b => some (b.1, b.2.1, b.2.2.1, b.2.2.2.1, b.2.2.2.2) := by kernel_rfl
theorem leafSh5 (x rd ra rb : Int) : readO x 19 rd 5 ra rb = (burinref26_shift.f 17 x 6).bind fun b => some (b.1, b.2.1, b.2.2.1, b.2.2.2.1, b.2.2.2.2) := by kernel_rfl
end Go.Proofs.Ytciehejifdbpoaa.Rv
