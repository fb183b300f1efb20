import Derived.Test.YtciehejifdbpoaaRvRefB
namespace Go.Proofs.Ytciehejifdbpoaa.Rv
open Go.RowKit
open Go.Proofs.Ytciehejifdbpoaa.PRvcodeDecodes

theorem rgs (n : Nat) (h : n < 4294967296) : rgN true (n : Int) 7 = ((n / 128 % 32 : Nat) : Int) ∧ rgN true (n : Int) 15 = ((n / 32768 % 32 : Nat) : Int) ∧ rgN true (n : Int) 20 = ((n / 1048576 % 32 : Nat) : Int) :=
  ⟨rd_at h rfl, ra_at h rfl, rb_at h rfl⟩

/-- A word of form R, as the reference reads it. -/
theorem foundR {n B o f3 f7 : Nat} {nm : ByteArray} (h : n < 4294967296) (ho : o = 51 ∨ o = 59) (hf3 : f3 < 8) (_hf7 : f7 < 128) (hB : B = o + f3 * 4096 + f7 * 33554432) (hM : mat 0 n = B)
    (hn : burinref26_opR.f 19 (o : Int) (f3 : Int) (f7 : Int) = some nm) : burinref26_Read.f 20 (n : Int) = some (nm, rgN true (n : Int) 7, rgN true (n : Int) 15, rgN true (n : Int) 20, 0) := by
  have hM' : n % 128 + (n / 4096 % 8) * 4096 + (n / 33554432 % 128) * 33554432 = B := hM
  have b1 : burinref26_Bits.f (n : Int) 25 7 = some ((n / 2 ^ 25 % 2 ^ 7 : Nat) : Int) := bits_val n 25 7 h (by decide) (by decide)
  obtain ⟨r1, r2, r3⟩ := rgs n h
  rw [read_start n h, r1, r2, r3]
  clear r1 r2 r3 hM
  have q0 : n % 128 = o := by omega
  have q1 : n / 4096 % 8 = f3 := by omega
  have q2 : n / 2 ^ 25 % 2 ^ 7 = f7 := by omega
  rw [q0, q1]
  rw [q2] at b1
  rcases ho with rfl | rfl
  · rw [show ((51 : Nat) : Int) = 51 from rfl] at hn ⊢
    rw [leafR, b1, Option.bind_some, hn]; rfl
  · rw [show ((59 : Nat) : Int) = 59 from rfl] at hn ⊢
    rw [leafRw, b1, Option.bind_some, hn]; rfl
/-- A word of another opcode's form with f3, its number of 12 bits on top. -/
theorem immI_val (n : Nat) (h : n < 4294967296) : ∃ t, burinref26_Bits.f (n : Int) 20 12 = some t ∧ burinref26_signed.f t 12 = some (gat 1 (n : Int)) := by
  have b1 : burinref26_Bits.f (n : Int) 20 12 = some ((n / 2 ^ 20 % 2 ^ 12 : Nat) : Int) := bits_val n 20 12 h (by decide) (by decide)
  have hv : n / 2 ^ 20 % 2 ^ 12 < 2 ^ (11 + 1) := Nat.mod_lt _ (by decide)
  have s1 : burinref26_signed.f ((n / 2 ^ 20 % 2 ^ 12 : Nat) : Int) 12 = _ := signed_val (n / 2 ^ 20 % 2 ^ 12) 11 (by decide) hv
  refine ⟨_, b1, ?_⟩
  rw [s1, gat1]
  clear b1 s1
  refine congrArg some ?_
  have e : n / 2 ^ 20 % 2 ^ 12 = n / 1048576 := by omega
  rw [e] at hv ⊢
  unfold wrap32
  split <;> omega
/-- A word of form I. -/
theorem foundI {n o f3 : Nat} {nm : ByteArray} (h : n < 4294967296) (ho : o < 128) (_hf3 : f3 < 8) (hM : mat 1 n = o + f3 * 4096)
    (hl : ∀ x rd ra rb, readO x (o : Int) rd (f3 : Int) ra rb = (burinref26_Bits.f x 20 12).bind fun t => (burinref26_signed.f t 12).bind fun im => some (nm, rd, ra, 0, im)) :
    burinref26_Read.f 20 (n : Int) = some (nm, rgN true (n : Int) 7, rgN true (n : Int) 15, 0, gat 1 (n : Int)) := by
  have hM' : n % 128 + (n / 4096 % 8) * 4096 = o + f3 * 4096 := hM
  obtain ⟨t, b1, b2⟩ := immI_val n h
  obtain ⟨r1, r2, r3⟩ := rgs n h
  rw [read_start n h, r1, r2]
  clear r1 r2 r3 hM
  have q0 : n % 128 = o := by omega
  have q1 : n / 4096 % 8 = f3 := by omega
  rw [q0, q1, hl, b1, Option.bind_some, b2]; rfl
/-- A word of form S. -/
theorem foundS {n f3 : Nat} {nm : ByteArray} (h : n < 4294967296) (_hf3 : f3 < 8) (hM : mat 4 n = 35 + f3 * 4096)
    (hl : ∀ x rd ra rb, readO x 35 rd (f3 : Int) ra rb = (burinref26_Bits.f x 25 7).bind fun t => (burinref26_signed.f (wrap64 ((wrap64 (t * 32)) + rd)) 12).bind fun im => some (nm, 0, ra, rb, im)) :
    burinref26_Read.f 20 (n : Int) = some (nm, 0, rgN true (n : Int) 15, rgN true (n : Int) 20, gat 4 (n : Int)) := by
  have hM' : n % 128 + (n / 4096 % 8) * 4096 = 35 + f3 * 4096 := hM
  have b1 : burinref26_Bits.f (n : Int) 25 7 = some ((n / 2 ^ 25 % 2 ^ 7 : Nat) : Int) := bits_val n 25 7 h (by decide) (by decide)
  obtain ⟨r1, r2, r3⟩ := rgs n h
  rw [read_start n h, r2, r3, gat4 n h]
  clear r1 r2 r3 hM
  have q0 : n % 128 = 35 := by omega
  have q1 : n / 4096 % 8 = f3 := by omega
  rw [q0, q1, show ((35 : Nat) : Int) = 35 from rfl, hl, b1, Option.bind_some]
  clear b1 hl hM' q0 q1
  have e1 : wrap64 (wrap64 (((n / 2 ^ 25 % 2 ^ 7 : Nat) : Int) * 32) + ((n / 128 % 32 : Nat) : Int)) = ((n / 33554432 * 32 + n / 128 % 32 : Nat) : Int) := by
    have e : n / 2 ^ 25 % 2 ^ 7 = n / 33554432 := by omega
    rw [e]
    have hb : n / 33554432 < 128 := by omega
    have hc : n / 128 % 32 < 32 := by omega
    generalize n / 33554432 = u at *
    generalize n / 128 % 32 = v at *
    rw [w64 ((u : Int) * 32) (by omega) (by omega), w64 _ (by omega) (by omega)]
    omega
  have hv : n / 33554432 * 32 + n / 128 % 32 < 2 ^ (11 + 1) := by
    show _ < 4096
    omega
  have s1 : burinref26_signed.f ((n / 33554432 * 32 + n / 128 % 32 : Nat) : Int) 12 = _ := signed_val _ 11 (by decide) hv
  rw [e1, s1, Option.bind_some]
  clear e1 s1 hv
  have hw : wrap32 (n : Int) / 33554432 = if 64 ≤ n / 33554432 then ((n / 33554432 : Nat) : Int) - 128 else ((n / 33554432 : Nat) : Int) := by
    unfold wrap32; split <;> omega
  rw [hw]
  have hc : n / 128 % 32 < 32 := by omega
  refine congrArg (fun z : Int => some (nm, (0 : Int), ((n / 32768 % 32 : Nat) : Int), ((n / 1048576 % 32 : Nat) : Int), z)) ?_
  generalize n / 33554432 = u at *
  generalize n / 128 % 32 = v at *
  clear hw h
  show (if 2048 ≤ u * 32 + v then ((u * 32 + v : Nat) : Int) - ((4096 : Nat) : Int) else _) = _
  split <;> split <;> omega
end Go.Proofs.Ytciehejifdbpoaa.Rv
