import Derived.Test.YtciehejifdbpoaaRvRefD
namespace Go.Proofs.Ytciehejifdbpoaa.Rv
open Go.RowKit
open Go.Proofs.Ytciehejifdbpoaa.PRvcodeDecodes

/-- A word of form J. -/
theorem foundJ {n : Nat} {nm : ByteArray} (h : n < 4294967296) (hM : mat 7 n = 111)
    (hl : ∀ x rd f3 ra rb, readO x 111 rd f3 ra rb = (burinref26_Bits.f x 31 1).bind fun t1 => (burinref26_Bits.f x 12 8).bind fun t2 => (burinref26_Bits.f x 20 1).bind fun t3 => (burinref26_Bits.f x 21 10).bind fun t4 =>
      (burinref26_signed.f (wrap64 ((wrap64 ((wrap64 ((wrap64 (t1 * 1048576)) + (wrap64 (t2 * 4096)))) + (wrap64 (t3 * 2048)))) + (wrap64 (t4 * 2)))) 21).bind fun im => some (nm, rd, 0, 0, im)) :
    burinref26_Read.f 20 (n : Int) = some (nm, rgN true (n : Int) 7, 0, 0, gat 7 (n : Int)) := by
  have q0 : n % 128 = 111 := hM
  have b1 : burinref26_Bits.f (n : Int) 31 1 = some ((n / 2 ^ 31 % 2 ^ 1 : Nat) : Int) := bits_val n 31 1 h (by decide) (by decide)
  have b2 : burinref26_Bits.f (n : Int) 12 8 = some ((n / 2 ^ 12 % 2 ^ 8 : Nat) : Int) := bits_val n 12 8 h (by decide) (by decide)
  have b3 : burinref26_Bits.f (n : Int) 20 1 = some ((n / 2 ^ 20 % 2 ^ 1 : Nat) : Int) := bits_val n 20 1 h (by decide) (by decide)
  have b4 : burinref26_Bits.f (n : Int) 21 10 = some ((n / 2 ^ 21 % 2 ^ 10 : Nat) : Int) := bits_val n 21 10 h (by decide) (by decide)
  obtain ⟨r1, r2, r3⟩ := rgs n h
  rw [read_start n h, r1, gat7 n h]
  rw [q0, show ((111 : Nat) : Int) = 111 from rfl, hl, b1, Option.bind_some, b2, Option.bind_some, b3, Option.bind_some, b4, Option.bind_some]
  clear b1 b2 b3 b4 r1 r2 r3 hM q0 hl
  have e1 : n / 2 ^ 31 % 2 ^ 1 = n / 2147483648 := by omega
  have e2 : n / 2 ^ 12 % 2 ^ 8 = n / 4096 % 256 := by omega
  have e3 : n / 2 ^ 20 % 2 ^ 1 = n / 1048576 % 2 := by omega
  have e4 : n / 2 ^ 21 % 2 ^ 10 = n / 2097152 % 1024 := by omega
  rw [e1, e2, e3, e4]
  clear e1 e2 e3 e4
  have hw : wrap32 (n : Int) / 2147483648 = - ((n / 2147483648 : Nat) : Int) := by unfold wrap32; omega
  rw [hw]
  have c1 : n / 2147483648 < 2 := by omega
  have c2 : n / 4096 % 256 < 256 := by omega
  have c3 : n / 1048576 % 2 < 2 := by omega
  have c4 : n / 2097152 % 1024 < 1024 := by omega
  clear hw
  generalize n / 2147483648 = t at *
  generalize n / 4096 % 256 = u at *
  generalize n / 1048576 % 2 = s at *
  generalize n / 2097152 % 1024 = v at *
  have f1 : wrap64 ((t : Int) * 1048576) = (t : Int) * 1048576 := w64 _ (by omega) (by omega)
  have f2 : wrap64 ((u : Int) * 4096) = (u : Int) * 4096 := w64 _ (by omega) (by omega)
  have f3' : wrap64 ((s : Int) * 2048) = (s : Int) * 2048 := w64 _ (by omega) (by omega)
  have f4 : wrap64 ((v : Int) * 2) = (v : Int) * 2 := w64 _ (by omega) (by omega)
  have g1 : wrap64 ((t : Int) * 1048576 + (u : Int) * 4096) = (t : Int) * 1048576 + (u : Int) * 4096 := w64 _ (by omega) (by omega)
  have g2 : wrap64 ((t : Int) * 1048576 + (u : Int) * 4096 + (s : Int) * 2048) = (t : Int) * 1048576 + (u : Int) * 4096 + (s : Int) * 2048 := w64 _ (by omega) (by omega)
  have g3 : wrap64 ((t : Int) * 1048576 + (u : Int) * 4096 + (s : Int) * 2048 + (v : Int) * 2) = ((t * 1048576 + u * 4096 + s * 2048 + v * 2 : Nat) : Int) := by
    have g4 : wrap64 ((t : Int) * 1048576 + (u : Int) * 4096 + (s : Int) * 2048 + (v : Int) * 2) = (t : Int) * 1048576 + (u : Int) * 4096 + (s : Int) * 2048 + (v : Int) * 2 := w64 _ (by omega) (by omega)
    simp only [g4]
    clear f1 f2 f3' f4 g1 g2 g4
    omega
  simp only [f1, f2, f3', f4, g1, g2, g3]
  clear f1 f2 f3' f4 g1 g2 g3
  have hv : t * 1048576 + u * 4096 + s * 2048 + v * 2 < 2 ^ (20 + 1) := by show _ < 2097152; omega
  have s1 : burinref26_signed.f ((t * 1048576 + u * 4096 + s * 2048 + v * 2 : Nat) : Int) 21 = _ := signed_val _ 20 (by decide) hv
  rw [s1, Option.bind_some]
  clear s1 hv
  refine congrArg (fun z : Int => some (nm, ((n / 128 % 32 : Nat) : Int), (0 : Int), (0 : Int), z)) ?_
  show (if 1048576 ≤ t * 1048576 + u * 4096 + s * 2048 + v * 2 then ((t * 1048576 + u * 4096 + s * 2048 + v * 2 : Nat) : Int) - ((2097152 : Nat) : Int) else _) = _
  split <;> omega
end Go.Proofs.Ytciehejifdbpoaa.Rv
