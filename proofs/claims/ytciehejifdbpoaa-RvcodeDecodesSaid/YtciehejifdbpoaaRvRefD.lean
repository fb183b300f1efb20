import Derived.Test.YtciehejifdbpoaaRvRefC
namespace Go.Proofs.Ytciehejifdbpoaa.Rv
open Go.RowKit
open Go.Proofs.Ytciehejifdbpoaa.PRvcodeDecodes

/-- A word of form U. -/
theorem foundU {n o : Nat} {nm : ByteArray} (h : n < 4294967296) (hM : mat 6 n = o)
    (hl : ∀ x rd f3 ra rb, readO x (o : Int) rd f3 ra rb = (burinref26_Bits.f x 12 20).bind fun t => (burinref26_signed.f t 20).bind fun im => some (nm, rd, 0, 0, im)) :
    burinref26_Read.f 20 (n : Int) = some (nm, rgN true (n : Int) 7, 0, 0, gat 6 (n : Int)) := by
  have q0 : n % 128 = o := hM
  have b1 : burinref26_Bits.f (n : Int) 12 20 = some ((n / 2 ^ 12 % 2 ^ 20 : Nat) : Int) := bits_val n 12 20 h (by decide) (by decide)
  obtain ⟨r1, r2, r3⟩ := rgs n h
  rw [read_start n h, r1, q0, hl, b1, Option.bind_some]
  have hv : n / 2 ^ 12 % 2 ^ 20 < 2 ^ (19 + 1) := Nat.mod_lt _ (by decide)
  have s1 : burinref26_signed.f ((n / 2 ^ 12 % 2 ^ 20 : Nat) : Int) 20 = _ := signed_val (n / 2 ^ 12 % 2 ^ 20) 19 (by decide) hv
  rw [s1, Option.bind_some, gat6]
  clear r1 r2 r3 hM q0 b1 s1 hl
  refine congrArg (fun z : Int => some (nm, ((n / 128 % 32 : Nat) : Int), (0 : Int), (0 : Int), z)) ?_
  have e : n / 2 ^ 12 % 2 ^ 20 = n / 4096 := by omega
  rw [e] at hv ⊢
  unfold wrap32
  split <;> omega
/-- The two that stand alone. -/
theorem foundA {n c : Nat} {nm : ByteArray} (h : n < 4294967296) (hM : mat 8 n = c) (hc : c % 128 = 115)
    (hl : ∀ rd f3 ra rb, readO (c : Int) 115 rd f3 ra rb = some (nm, 0, 0, 0, 0)) :
    burinref26_Read.f 20 (n : Int) = some (nm, 0, 0, 0, 0) := by
  have q0 : n = c := hM
  subst q0
  rw [read_start n h, hc, show ((115 : Nat) : Int) = 115 from rfl, hl]
/-- A word of form B. -/
theorem foundB {n f3 : Nat} {nm : ByteArray} (h : n < 4294967296) (hM : mat 5 n = 99 + f3 * 4096) (_hf3 : f3 < 8)
    (hl : ∀ x rd ra rb, readO x 99 rd (f3 : Int) ra rb = (burinref26_Bits.f x 31 1).bind fun t1 => (burinref26_Bits.f x 7 1).bind fun t2 => (burinref26_Bits.f x 25 6).bind fun t3 => (burinref26_Bits.f x 8 4).bind fun t4 =>
      (burinref26_signed.f (wrap64 ((wrap64 ((wrap64 ((wrap64 (t1 * 4096)) + (wrap64 (t2 * 2048)))) + (wrap64 (t3 * 32)))) + (wrap64 (t4 * 2)))) 13).bind fun im => some (nm, 0, ra, rb, im)) :
    burinref26_Read.f 20 (n : Int) = some (nm, 0, rgN true (n : Int) 15, rgN true (n : Int) 20, gat 5 (n : Int)) := by
  have hM' : n % 128 + (n / 4096 % 8) * 4096 = 99 + f3 * 4096 := hM
  have b1 : burinref26_Bits.f (n : Int) 31 1 = some ((n / 2 ^ 31 % 2 ^ 1 : Nat) : Int) := bits_val n 31 1 h (by decide) (by decide)
  have b2 : burinref26_Bits.f (n : Int) 7 1 = some ((n / 2 ^ 7 % 2 ^ 1 : Nat) : Int) := bits_val n 7 1 h (by decide) (by decide)
  have b3 : burinref26_Bits.f (n : Int) 25 6 = some ((n / 2 ^ 25 % 2 ^ 6 : Nat) : Int) := bits_val n 25 6 h (by decide) (by decide)
  have b4 : burinref26_Bits.f (n : Int) 8 4 = some ((n / 2 ^ 8 % 2 ^ 4 : Nat) : Int) := bits_val n 8 4 h (by decide) (by decide)
  obtain ⟨r1, r2, r3⟩ := rgs n h
  rw [read_start n h, r2, r3, gat5 n h]
  have q0 : n % 128 = 99 := by clear b1 b2 b3 b4 r1 r2 r3; omega
  have q1 : n / 4096 % 8 = f3 := by clear b1 b2 b3 b4 r1 r2 r3; omega
  rw [q0, q1, show ((99 : Nat) : Int) = 99 from rfl, hl, b1, Option.bind_some, b2, Option.bind_some, b3, Option.bind_some, b4, Option.bind_some]
  clear b1 b2 b3 b4 r1 r2 r3 hM hM' q0 q1 hl
  have e1 : n / 2 ^ 31 % 2 ^ 1 = n / 2147483648 := by omega
  have e2 : n / 2 ^ 7 % 2 ^ 1 = n / 128 % 2 := by omega
  have e3 : n / 2 ^ 25 % 2 ^ 6 = n / 33554432 % 64 := by omega
  have e4 : n / 2 ^ 8 % 2 ^ 4 = n / 256 % 16 := by omega
  rw [e1, e2, e3, e4]
  clear e1 e2 e3 e4
  have hw : wrap32 (n : Int) / 2147483648 = - ((n / 2147483648 : Nat) : Int) := by unfold wrap32; omega
  rw [hw]
  have c1 : n / 2147483648 < 2 := by omega
  have c2 : n / 128 % 2 < 2 := by omega
  have c3 : n / 33554432 % 64 < 64 := by omega
  have c4 : n / 256 % 16 < 16 := by omega
  clear hw
  generalize n / 2147483648 = t at *
  generalize n / 128 % 2 = u at *
  generalize n / 33554432 % 64 = s at *
  generalize n / 256 % 16 = v at *
  have f1 : wrap64 ((t : Int) * 4096) = (t : Int) * 4096 := w64 _ (by omega) (by omega)
  have f2 : wrap64 ((u : Int) * 2048) = (u : Int) * 2048 := w64 _ (by omega) (by omega)
  have f3' : wrap64 ((s : Int) * 32) = (s : Int) * 32 := w64 _ (by omega) (by omega)
  have f4 : wrap64 ((v : Int) * 2) = (v : Int) * 2 := w64 _ (by omega) (by omega)
  have g1 : wrap64 ((t : Int) * 4096 + (u : Int) * 2048) = (t : Int) * 4096 + (u : Int) * 2048 := w64 _ (by omega) (by omega)
  have g2 : wrap64 ((t : Int) * 4096 + (u : Int) * 2048 + (s : Int) * 32) = (t : Int) * 4096 + (u : Int) * 2048 + (s : Int) * 32 := w64 _ (by omega) (by omega)
  have g3 : wrap64 ((t : Int) * 4096 + (u : Int) * 2048 + (s : Int) * 32 + (v : Int) * 2) = ((t * 4096 + u * 2048 + s * 32 + v * 2 : Nat) : Int) := by
    have g4 : wrap64 ((t : Int) * 4096 + (u : Int) * 2048 + (s : Int) * 32 + (v : Int) * 2) = (t : Int) * 4096 + (u : Int) * 2048 + (s : Int) * 32 + (v : Int) * 2 := w64 _ (by omega) (by omega)
    simp only [g4]
    clear f1 f2 f3' f4 g1 g2 g4
    omega
  simp only [f1, f2, f3', f4, g1, g2, g3]
  clear f1 f2 f3' f4 g1 g2 g3
  have hv : t * 4096 + u * 2048 + s * 32 + v * 2 < 2 ^ (12 + 1) := by show _ < 8192; omega
  have s1 : burinref26_signed.f ((t * 4096 + u * 2048 + s * 32 + v * 2 : Nat) : Int) 13 = _ := signed_val _ 12 (by decide) hv
  rw [s1, Option.bind_some]
  clear s1 hv
  refine congrArg (fun z : Int => some (nm, (0 : Int), ((n / 32768 % 32 : Nat) : Int), ((n / 1048576 % 32 : Nat) : Int), z)) ?_
  show (if 4096 ≤ t * 4096 + u * 2048 + s * 32 + v * 2 then ((t * 4096 + u * 2048 + s * 32 + v * 2 : Nat) : Int) - ((8192 : Nat) : Int) else _) = _
  split <;> omega
end Go.Proofs.Ytciehejifdbpoaa.Rv
