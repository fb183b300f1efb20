import Derived.Test.YtciehejifdbpoaaRvRefF
namespace Go.Proofs.Ytciehejifdbpoaa.Rv
open Go.RowKit
open Go.Proofs.Ytciehejifdbpoaa.PRvcodeDecodes

/-- What the reference's shift does behind its five numbers. -/
def sh6 (h f3 rd ra im : Int) : Option (ByteArray × Int × Int × Int × Int) :=
  if f3 = 1 then burinref26_shift.j1 16 ⟨#[]⟩ h f3 16 (h == 0) ⟨#[]⟩ rd ra 0 im else burinref26_shift.j1 16 ⟨#[]⟩ h f3 16 false ⟨#[]⟩ rd ra 0 im
def sh5 (h f3 rd ra im : Int) : Option (ByteArray × Int × Int × Int × Int) :=
  if f3 = 1 then burinref26_shift.j1 15 ⟨#[119]⟩ h f3 32 (h == 0) ⟨#[]⟩ rd ra 0 im else burinref26_shift.j1 15 ⟨#[119]⟩ h f3 32 false ⟨#[]⟩ rd ra 0 im
theorem leafSw1 (x rd ra rb : Int) : readO x 27 rd 1 ra rb = (burinref26_shift.f 16 x 5).bind fun b => some (b.1, b.2.1, b.2.2.1, b.2.2.2.1, b.2.2.2.2) := by kernel_rfl
theorem leafSw5 (x rd ra rb : Int) : readO x 27 rd 5 ra rb = (burinref26_shift.f 16 x 5).bind fun b => some (b.1, b.2.1, b.2.2.1, b.2.2.2.1, b.2.2.2.2) := by kernel_rfl
theorem shift5' (x : Int) : burinref26_shift.f 16 x 5 = (burinref26_Bits.f x 7 5).bind fun rd => (burinref26_Bits.f x 15 5).bind fun ra => (burinref26_Bits.f x 20 5).bind fun im => (burinref26_Bits.f x 25 7).bind fun hi => (burinref26_Bits.f x 12 3).bind fun f3 => sh5 hi f3 rd ra im := by kernel_rfl
theorem shift6' (x : Int) : burinref26_shift.f 17 x 6 = (burinref26_Bits.f x 7 5).bind fun rd => (burinref26_Bits.f x 15 5).bind fun ra => (burinref26_Bits.f x 20 6).bind fun im => (burinref26_Bits.f x 26 6).bind fun hi => (burinref26_Bits.f x 12 3).bind fun f3 => sh6 hi f3 rd ra im := by kernel_rfl
theorem eta5 (o : Option (ByteArray × Int × Int × Int × Int)) : (o.bind fun b => some (b.1, b.2.1, b.2.2.1, b.2.2.2.1, b.2.2.2.2)) = o := by cases o <;> rfl

theorem foundH6 {n f3 : Nat} (h : n < 4294967296) (q0 : n % 128 = 19) (q1 : n / 4096 % 8 = f3) (hf : f3 = 1 ∨ f3 = 5) :
    burinref26_Read.f 20 (n : Int) = sh6 ((n / 67108864 % 64 : Nat) : Int) (f3 : Int) (rgN true (n : Int) 7) (rgN true (n : Int) 15) (gat 2 (n : Int)) := by
  have b1 : burinref26_Bits.f (n : Int) 7 5 = some ((n / 2 ^ 7 % 2 ^ 5 : Nat) : Int) := bits_val n 7 5 h (by decide) (by decide)
  have b2 : burinref26_Bits.f (n : Int) 15 5 = some ((n / 2 ^ 15 % 2 ^ 5 : Nat) : Int) := bits_val n 15 5 h (by decide) (by decide)
  have b3 : burinref26_Bits.f (n : Int) 20 6 = some ((n / 2 ^ 20 % 2 ^ 6 : Nat) : Int) := bits_val n 20 6 h (by decide) (by decide)
  have b4 : burinref26_Bits.f (n : Int) 26 6 = some ((n / 2 ^ 26 % 2 ^ 6 : Nat) : Int) := bits_val n 26 6 h (by decide) (by decide)
  have b5 : burinref26_Bits.f (n : Int) 12 3 = some ((n / 2 ^ 12 % 2 ^ 3 : Nat) : Int) := bits_val n 12 3 h (by decide) (by decide)
  obtain ⟨r1, r2, r3⟩ := rgs n h
  have e := shift6' (n : Int)
  rw [b1, Option.bind_some, b2, Option.bind_some, b3, Option.bind_some, b4, Option.bind_some, b5, Option.bind_some] at e
  rw [read_start n h, r1, r2, gat2 n h, q0, q1]
  have e1 : n / 2 ^ 7 % 2 ^ 5 = n / 128 % 32 := by clear b1 b2 b3 b4 b5 r1 r2 r3 e; omega
  have e2 : n / 2 ^ 15 % 2 ^ 5 = n / 32768 % 32 := by clear b1 b2 b3 b4 b5 r1 r2 r3 e; omega
  have e3 : n / 2 ^ 20 % 2 ^ 6 = n / 1048576 % 64 := by clear b1 b2 b3 b4 b5 r1 r2 r3 e; omega
  have e4 : n / 2 ^ 26 % 2 ^ 6 = n / 67108864 % 64 := by clear b1 b2 b3 b4 b5 r1 r2 r3 e; omega
  have e5 : n / 2 ^ 12 % 2 ^ 3 = f3 := by clear b1 b2 b3 b4 b5 r1 r2 r3 e; omega
  rw [e1, e2, e3, e4, e5] at e
  clear b1 b2 b3 b4 b5 r1 r2 r3 e1 e2 e3 e4 e5 q0 q1
  rcases hf with rfl | rfl
  · rw [show ((19 : Nat) : Int) = 19 from rfl, show ((1 : Nat) : Int) = 1 from rfl, leafSh1, eta5, e]; rfl
  · rw [show ((19 : Nat) : Int) = 19 from rfl, show ((5 : Nat) : Int) = 5 from rfl, leafSh5, eta5, e]; rfl
theorem foundH5 {n f3 : Nat} (h : n < 4294967296) (q0 : n % 128 = 27) (q1 : n / 4096 % 8 = f3) (hf : f3 = 1 ∨ f3 = 5) :
    burinref26_Read.f 20 (n : Int) = sh5 ((n / 33554432 % 128 : Nat) : Int) (f3 : Int) (rgN true (n : Int) 7) (rgN true (n : Int) 15) (gat 3 (n : Int)) := by
  have b1 : burinref26_Bits.f (n : Int) 7 5 = some ((n / 2 ^ 7 % 2 ^ 5 : Nat) : Int) := bits_val n 7 5 h (by decide) (by decide)
  have b2 : burinref26_Bits.f (n : Int) 15 5 = some ((n / 2 ^ 15 % 2 ^ 5 : Nat) : Int) := bits_val n 15 5 h (by decide) (by decide)
  have b3 : burinref26_Bits.f (n : Int) 20 5 = some ((n / 2 ^ 20 % 2 ^ 5 : Nat) : Int) := bits_val n 20 5 h (by decide) (by decide)
  have b4 : burinref26_Bits.f (n : Int) 25 7 = some ((n / 2 ^ 25 % 2 ^ 7 : Nat) : Int) := bits_val n 25 7 h (by decide) (by decide)
  have b5 : burinref26_Bits.f (n : Int) 12 3 = some ((n / 2 ^ 12 % 2 ^ 3 : Nat) : Int) := bits_val n 12 3 h (by decide) (by decide)
  obtain ⟨r1, r2, r3⟩ := rgs n h
  have e := shift5' (n : Int)
  rw [b1, Option.bind_some, b2, Option.bind_some, b3, Option.bind_some, b4, Option.bind_some, b5, Option.bind_some] at e
  rw [read_start n h, r1, r2, gat3 n h, q0, q1]
  have e1 : n / 2 ^ 7 % 2 ^ 5 = n / 128 % 32 := by clear b1 b2 b3 b4 b5 r1 r2 r3 e; omega
  have e2 : n / 2 ^ 15 % 2 ^ 5 = n / 32768 % 32 := by clear b1 b2 b3 b4 b5 r1 r2 r3 e; omega
  have e3 : n / 2 ^ 20 % 2 ^ 5 = n / 1048576 % 32 := by clear b1 b2 b3 b4 b5 r1 r2 r3 e; omega
  have e4 : n / 2 ^ 25 % 2 ^ 7 = n / 33554432 % 128 := by clear b1 b2 b3 b4 b5 r1 r2 r3 e; omega
  have e5 : n / 2 ^ 12 % 2 ^ 3 = f3 := by clear b1 b2 b3 b4 b5 r1 r2 r3 e; omega
  rw [e1, e2, e3, e4, e5] at e
  clear b1 b2 b3 b4 b5 r1 r2 r3 e1 e2 e3 e4 e5 q0 q1
  rcases hf with rfl | rfl
  · rw [show ((27 : Nat) : Int) = 27 from rfl, show ((1 : Nat) : Int) = 1 from rfl, leafSw1, eta5, e]; rfl
  · rw [show ((27 : Nat) : Int) = 27 from rfl, show ((5 : Nat) : Int) = 5 from rfl, leafSw5, eta5, e]; rfl
theorem found2 {n f3 f7 : Nat} {nm : ByteArray} (h : n < 4294967296) (hf : f3 = 1 ∨ f3 = 5) (hM : mat 2 n = 19 + f3 * 4096 + f7 * 67108864) (_h7 : f7 < 64)
    (hl : ∀ rd ra im, sh6 (f7 : Int) (f3 : Int) rd ra im = some (nm, rd, ra, 0, im)) :
    burinref26_Read.f 20 (n : Int) = some (nm, rgN true (n : Int) 7, rgN true (n : Int) 15, 0, gat 2 (n : Int)) := by
  have hM' : n % 128 + (n / 4096 % 8) * 4096 + (n / 67108864 % 64) * 67108864 = 19 + f3 * 4096 + f7 * 67108864 := hM
  clear hM
  have q0 : n % 128 = 19 := by omega
  have q1 : n / 4096 % 8 = f3 := by omega
  have q2 : n / 67108864 % 64 = f7 := by omega
  rw [foundH6 h q0 q1 hf, q2, hl]
theorem found3 {n f3 f7 : Nat} {nm : ByteArray} (h : n < 4294967296) (hf : f3 = 1 ∨ f3 = 5) (hM : mat 3 n = 27 + f3 * 4096 + f7 * 33554432) (_h7 : f7 < 128)
    (hl : ∀ rd ra im, sh5 (f7 : Int) (f3 : Int) rd ra im = some (nm, rd, ra, 0, im)) :
    burinref26_Read.f 20 (n : Int) = some (nm, rgN true (n : Int) 7, rgN true (n : Int) 15, 0, gat 3 (n : Int)) := by
  have hM' : n % 128 + (n / 4096 % 8) * 4096 + (n / 33554432 % 128) * 33554432 = 27 + f3 * 4096 + f7 * 33554432 := hM
  clear hM
  have q0 : n % 128 = 27 := by omega
  have q1 : n / 4096 % 8 = f3 := by omega
  have q2 : n / 33554432 % 128 = f7 := by omega
  rw [foundH5 h q0 q1 hf, q2, hl]
theorem leaf2a (rd ra im : Int) : sh6 0 1 rd ra im = some (⟨#[115, 108, 108, 105]⟩, rd, ra, 0, im) := by kernel_rfl
theorem leaf2b (rd ra im : Int) : sh6 0 5 rd ra im = some (⟨#[115, 114, 108, 105]⟩, rd, ra, 0, im) := by kernel_rfl
theorem leaf2c (rd ra im : Int) : sh6 16 5 rd ra im = some (⟨#[115, 114, 97, 105]⟩, rd, ra, 0, im) := by kernel_rfl
theorem leaf3a (rd ra im : Int) : sh5 0 1 rd ra im = some (⟨#[115, 108, 108, 105, 119]⟩, rd, ra, 0, im) := by kernel_rfl
theorem leaf3b (rd ra im : Int) : sh5 0 5 rd ra im = some (⟨#[115, 114, 108, 105, 119]⟩, rd, ra, 0, im) := by kernel_rfl
theorem leaf3c (rd ra im : Int) : sh5 32 5 rd ra im = some (⟨#[115, 114, 97, 105, 119]⟩, rd, ra, 0, im) := by kernel_rfl
end Go.Proofs.Ytciehejifdbpoaa.Rv
