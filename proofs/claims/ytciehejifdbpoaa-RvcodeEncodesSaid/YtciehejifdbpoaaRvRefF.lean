import Derived.Test.YtciehejifdbpoaaRvRefE
namespace Go.Proofs.Ytciehejifdbpoaa.Rv
open Go.RowKit
open Go.Proofs.Ytciehejifdbpoaa.PRvcodeDecodes

theorem shift6 (x : Int) : burinref26_shift.f 17 x 6 = (burinref26_Bits.f x 7 5).bind fun rd => (burinref26_Bits.f x 15 5).bind fun ra => (burinref26_Bits.f x 20 6).bind fun im => (burinref26_Bits.f x 26 6).bind fun hi => (burinref26_Bits.f x 12 3).bind fun f3 =>
    if f3 = 1 then burinref26_shift.j1 16 ⟨#[]⟩ hi f3 16 (hi == 0) ⟨#[]⟩ rd ra 0 im else burinref26_shift.j1 16 ⟨#[]⟩ hi f3 16 false ⟨#[]⟩ rd ra 0 im := by kernel_rfl
theorem shift5 (x : Int) : burinref26_shift.f 17 x 5 = (burinref26_Bits.f x 7 5).bind fun rd => (burinref26_Bits.f x 15 5).bind fun ra => (burinref26_Bits.f x 20 5).bind fun im => (burinref26_Bits.f x 25 7).bind fun hi => (burinref26_Bits.f x 12 3).bind fun f3 =>
    if f3 = 1 then burinref26_shift.j1 16 ⟨#[119]⟩ hi f3 32 (hi == 0) ⟨#[]⟩ rd ra 0 im else burinref26_shift.j1 16 ⟨#[119]⟩ hi f3 32 false ⟨#[]⟩ rd ra 0 im := by kernel_rfl
theorem sl1 (rd ra im : Int) : burinref26_shift.j1 16 ⟨#[]⟩ 0 1 16 (0 == 0) ⟨#[]⟩ rd ra 0 im = some (⟨#[115, 108, 108, 105]⟩, rd, ra, 0, im) := by kernel_rfl
theorem sr1 (rd ra im : Int) : burinref26_shift.j1 16 ⟨#[]⟩ 0 5 16 false ⟨#[]⟩ rd ra 0 im = some (⟨#[115, 114, 108, 105]⟩, rd, ra, 0, im) := by kernel_rfl
theorem sa1 (rd ra im : Int) : burinref26_shift.j1 16 ⟨#[]⟩ 16 5 16 false ⟨#[]⟩ rd ra 0 im = some (⟨#[115, 114, 97, 105]⟩, rd, ra, 0, im) := by kernel_rfl
end Go.Proofs.Ytciehejifdbpoaa.Rv
