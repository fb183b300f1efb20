import Derived.Test.YtciehejifdbpoaaRvWord
namespace Go.Proofs.Ytciehejifdbpoaa.Rv
open Go.RowKit

/-! ### Words made: what is read off them -/
/-- Form R. -/
theorem mk0 {B r a b : Nat} (hB : mat 0 B = B) (hr : r < 32) (ha : a < 32) (hb : b < 32) :
    mat 0 (B + r * 128 + a * 32768 + b * 1048576) = B ∧ (B + r * 128 + a * 32768 + b * 1048576) / 128 % 32 = r ∧ (B + r * 128 + a * 32768 + b * 1048576) / 32768 % 32 = a ∧ (B + r * 128 + a * 32768 + b * 1048576) / 1048576 % 32 = b := by
  have hB' : B % 128 + (B / 4096 % 8) * 4096 + (B / 33554432 % 128) * 33554432 = B := hB
  obtain ⟨op, hop⟩ : ∃ x, B % 128 = x := ⟨_, rfl⟩
  obtain ⟨f3, hf3⟩ : ∃ x, B / 4096 % 8 = x := ⟨_, rfl⟩
  obtain ⟨f7, hf7⟩ : ∃ x, B / 33554432 % 128 = x := ⟨_, rfl⟩
  rw [hop, hf3, hf7] at hB'
  have h1 : op < 128 := by omega
  have h2 : f3 < 8 := by omega
  have h3 : f7 < 128 := by omega
  clear hop hf3 hf7 hB
  subst hB'
  show (_ % 128 + (_ / 4096 % 8) * 4096 + (_ / 33554432 % 128) * 33554432 = _) ∧ _
  refine ⟨?_, ?_, ?_, ?_⟩ <;> omega
theorem op3 {B : Nat} (hB : B % 128 + (B / 4096 % 8) * 4096 = B) : ∃ op f3, op < 128 ∧ f3 < 8 ∧ B = op + f3 * 4096 := ⟨B % 128, B / 4096 % 8, by omega, by omega, by omega⟩
/-- Form I. -/
theorem mk1 {B r a m : Nat} {imm : Int} (hB : mat 1 B = B) (hr : r < 32) (ha : a < 32) (hm : (m : Int) = imm % 4294967296) (h1 : -2048 ≤ imm) (h2 : imm ≤ 2047) :
    mat 1 (B + r * 128 + a * 32768 + m % 4096 * 1048576) = B ∧ (B + r * 128 + a * 32768 + m % 4096 * 1048576) / 128 % 32 = r ∧ (B + r * 128 + a * 32768 + m % 4096 * 1048576) / 32768 % 32 = a ∧
    wrap32 ((B + r * 128 + a * 32768 + m % 4096 * 1048576 : Nat) : Int) / 1048576 = imm := by
  obtain ⟨op, f3, o1, o2, rfl⟩ := op3 hB
  obtain ⟨v, hv⟩ : ∃ x, m % 4096 = x := ⟨_, rfl⟩
  have hv1 : v < 4096 := by omega
  have hv2 : (v : Int) = if imm < 0 then imm + 4096 else imm := by split <;> omega
  rw [hv]
  clear hB hm hv
  show (_ % 128 + (_ / 4096 % 8) * 4096 = _) ∧ _
  refine ⟨?_, ?_, ?_, ?_⟩
  · clear hv2; omega
  · clear hv2; omega
  · clear hv2; omega
  · unfold wrap32; split at hv2 <;> omega
/-- Shifts. -/
theorem mk2 {B r a m : Nat} (hB : mat 2 B = B) (hr : r < 32) (ha : a < 32) (hm : m < 64) :
    mat 2 (B + r * 128 + a * 32768 + m * 1048576) = B ∧ (B + r * 128 + a * 32768 + m * 1048576) / 128 % 32 = r ∧ (B + r * 128 + a * 32768 + m * 1048576) / 32768 % 32 = a ∧ (B + r * 128 + a * 32768 + m * 1048576) / 1048576 % 64 = m := by
  have hB' : B % 128 + (B / 4096 % 8) * 4096 + (B / 67108864 % 64) * 67108864 = B := hB
  obtain ⟨op, hop⟩ : ∃ x, B % 128 = x := ⟨_, rfl⟩
  obtain ⟨f3, hf3⟩ : ∃ x, B / 4096 % 8 = x := ⟨_, rfl⟩
  obtain ⟨f7, hf7⟩ : ∃ x, B / 67108864 % 64 = x := ⟨_, rfl⟩
  rw [hop, hf3, hf7] at hB'
  have h1 : op < 128 := by omega
  have h2 : f3 < 8 := by omega
  have h3 : f7 < 64 := by omega
  clear hop hf3 hf7 hB
  subst hB'
  show (_ % 128 + (_ / 4096 % 8) * 4096 + (_ / 67108864 % 64) * 67108864 = _) ∧ _
  refine ⟨?_, ?_, ?_, ?_⟩ <;> omega
/-- Form S. -/
theorem mk4 {B a b m : Nat} {imm : Int} (hB : mat 4 B = B) (ha : a < 32) (hb : b < 32) (hm : (m : Int) = imm % 4294967296) (h1 : -2048 ≤ imm) (h2 : imm ≤ 2047) :
    mat 4 (B + a * 32768 + b * 1048576 + (m % 32 * 128 + m / 32 % 128 * 33554432)) = B ∧ (B + a * 32768 + b * 1048576 + (m % 32 * 128 + m / 32 % 128 * 33554432)) / 32768 % 32 = a ∧ (B + a * 32768 + b * 1048576 + (m % 32 * 128 + m / 32 % 128 * 33554432)) / 1048576 % 32 = b ∧
    wrap32 ((B + a * 32768 + b * 1048576 + (m % 32 * 128 + m / 32 % 128 * 33554432) : Nat) : Int) / 33554432 * 32 + (((B + a * 32768 + b * 1048576 + (m % 32 * 128 + m / 32 % 128 * 33554432)) / 128 % 32 : Nat) : Int) = imm := by
  obtain ⟨op, f3, o1, o2, rfl⟩ := op3 hB
  obtain ⟨u, hu⟩ : ∃ x, m % 32 = x := ⟨_, rfl⟩
  obtain ⟨v, hv⟩ : ∃ x, m / 32 % 128 = x := ⟨_, rfl⟩
  have hu1 : u < 32 := by omega
  have hv1 : v < 128 := by omega
  have hv2 : imm = (u : Int) + v * 32 - (if v < 64 then 0 else 4096) := by split <;> omega
  rw [hv, hu]
  clear hB hm hv hu h1 h2
  subst hv2
  show (_ % 128 + (_ / 4096 % 8) * 4096 = _) ∧ _
  refine ⟨?_, ?_, ?_, ?_⟩
  · omega
  · omega
  · omega
  · unfold wrap32; split <;> omega
/-- Form B. -/
theorem mk5 {B a b m : Nat} {imm : Int} (hB : mat 5 B = B) (ha : a < 32) (hb : b < 32) (hm : (m : Int) = imm % 4294967296) (h1 : -4096 ≤ imm) (h2 : imm ≤ 4094) (h3 : imm % 2 = 0) :
    ∃ N, B + a * 32768 + b * 1048576 + (m / 2048 % 2 * 128 + m / 2 % 16 * 256 + m / 32 % 64 * 33554432 + m / 4096 % 2 * 2147483648) = N ∧
    mat 5 N = B ∧ N / 32768 % 32 = a ∧ N / 1048576 % 32 = b ∧
    wrap32 (N : Int) / 2147483648 * 4096 + ((N / 128 % 2 * 2048 + N / 33554432 % 64 * 32 + N / 256 % 16 * 2 : Nat) : Int) = imm := by
  refine ⟨_, rfl, ?_⟩
  obtain ⟨op, f3, o1, o2, rfl⟩ := op3 hB
  obtain ⟨u, hu⟩ : ∃ x, m / 2048 % 2 = x := ⟨_, rfl⟩
  obtain ⟨v, hv⟩ : ∃ x, m / 2 % 16 = x := ⟨_, rfl⟩
  obtain ⟨s, hs⟩ : ∃ x, m / 32 % 64 = x := ⟨_, rfl⟩
  obtain ⟨t, ht⟩ : ∃ x, m / 4096 % 2 = x := ⟨_, rfl⟩
  have hu1 : u < 2 := by omega
  have hv1 : v < 16 := by omega
  have hs1 : s < 64 := by omega
  have ht1 : t < 2 := by omega
  have hv2 : imm = (v : Int) * 2 + s * 32 + u * 2048 - t * 4096 := by omega
  rw [hv, hu, hs, ht]
  clear hB hm hv hu hs ht h1 h2 h3
  subst hv2
  show (_ % 128 + (_ / 4096 % 8) * 4096 = _) ∧ _
  refine ⟨?_, ?_, ?_, ?_⟩
  · omega
  · omega
  · omega
  · have ht2 : t = 0 ∨ t = 1 := by omega
    unfold wrap32; rcases ht2 with rfl | rfl <;> omega
/-- Form U. -/
theorem mk6 {B r m : Nat} {imm : Int} (hB : mat 6 B = B) (hr : r < 32) (hm : (m : Int) = imm % 4294967296) (h1 : -524288 ≤ imm) (h2 : imm ≤ 524287) :
    mat 6 (B + r * 128 + m % 1048576 * 4096) = B ∧ (B + r * 128 + m % 1048576 * 4096) / 128 % 32 = r ∧ wrap32 ((B + r * 128 + m % 1048576 * 4096 : Nat) : Int) / 4096 = imm := by
  have hB' : B % 128 = B := hB
  obtain ⟨v, hv⟩ : ∃ x, m % 1048576 = x := ⟨_, rfl⟩
  have hv1 : v < 1048576 := by omega
  have hv2 : (v : Int) = if imm < 0 then imm + 1048576 else imm := by split <;> omega
  rw [hv]
  clear hB hm hv
  show (_ % 128 = _) ∧ _
  refine ⟨?_, ?_, ?_⟩
  · clear hv2; omega
  · clear hv2; omega
  · unfold wrap32; split at hv2 <;> omega
theorem j_parts {m : Nat} (h : m % 2 = 0) : ∃ s v u t z, s < 1024 ∧ v < 2 ∧ u < 256 ∧ t < 2 ∧ m = s * 2 + v * 2048 + u * 4096 + t * 1048576 + z * 2097152 := by
  refine ⟨m / 2 % 1024, m / 2 / 1024 % 2, m / 2 / 1024 / 2 % 256, m / 2 / 1024 / 2 / 256 % 2, m / 2 / 1024 / 2 / 256 / 2, by omega, by omega, by omega, by omega, ?_⟩
  have h1 := Nat.div_add_mod m 2
  have h2 := Nat.div_add_mod (m / 2) 1024
  have h3 := Nat.div_add_mod (m / 2 / 1024) 2
  have h4 := Nat.div_add_mod (m / 2 / 1024 / 2) 256
  have h5 := Nat.div_add_mod (m / 2 / 1024 / 2 / 256) 2
  generalize m / 2 / 1024 / 2 / 256 / 2 = a at *
  generalize m / 2 / 1024 / 2 / 256 % 2 = a1 at *
  generalize m / 2 / 1024 / 2 / 256 = b at *
  generalize m / 2 / 1024 / 2 % 256 = b1 at *
  generalize m / 2 / 1024 / 2 = c at *
  generalize m / 2 / 1024 % 2 = c1 at *
  generalize m / 2 / 1024 = d at *
  generalize m / 2 % 1024 = d1 at *
  generalize m / 2 = e at *
  omega
/-- Form J. -/
theorem mk7 {B r m : Nat} {imm : Int} (hB : mat 7 B = B) (hr : r < 32) (hm : (m : Int) = imm % 4294967296) (h1 : -1048576 ≤ imm) (h2 : imm ≤ 1048574) (h3 : imm % 2 = 0) :
    ∃ N, B + r * 128 + (m / 4096 % 256 * 4096 + m / 2048 % 2 * 1048576 + m / 2 % 1024 * 2097152 + m / 1048576 % 2 * 2147483648) = N ∧
    mat 7 N = B ∧ N / 128 % 32 = r ∧
    wrap32 (N : Int) / 2147483648 * 1048576 + ((N / 4096 % 256 * 4096 + N / 1048576 % 2 * 2048 + N / 2097152 % 1024 * 2 : Nat) : Int) = imm := by
  refine ⟨_, rfl, ?_⟩
  have hB' : B % 128 = B := hB
  obtain ⟨s, v, u, t, z, hs1, hv1, hu1, ht1, hme⟩ : ∃ s v u t z, s < 1024 ∧ v < 2 ∧ u < 256 ∧ t < 2 ∧ m = s * 2 + v * 2048 + u * 4096 + t * 1048576 + z * 2097152 := j_parts (by clear hB hB' hr; omega)
  have hu : m / 4096 % 256 = u := by clear hm h1 h2 h3 hB hB' hr; omega
  have hv : m / 2048 % 2 = v := by clear hm h1 h2 h3 hB hB' hr hu; omega
  have hs : m / 2 % 1024 = s := by clear hm h1 h2 h3 hB hB' hr hu hv; omega
  have ht : m / 1048576 % 2 = t := by clear hm h1 h2 h3 hB hB' hr hu hv hs; omega
  have hv2 : imm = (s : Int) * 2 + v * 2048 + u * 4096 - t * 1048576 := by
    clear hu hv hs ht hB hB' hr
    by_cases hneg : imm < 0
    · have e : (m : Int) = imm + 4294967296 := by clear hme hs1 hv1 hu1 ht1; omega
      clear hm h3
      have hz : z = 2047 := by omega
      have htt : t = 1 := by omega
      omega
    · have e : (m : Int) = imm := by clear hme hs1 hv1 hu1 ht1; omega
      clear hm h3
      have hz : z = 0 := by omega
      have htt : t = 0 := by omega
      omega
  rw [hv, hu, hs, ht]
  clear hB hm hv hu hs ht h1 h2 h3 hme
  subst hv2
  have hB1 : B < 128 := by omega
  obtain ⟨L, hL, hL1⟩ : ∃ L, B + r * 128 = L ∧ L < 4096 := ⟨_, rfl, by omega⟩
  obtain ⟨M2, hM2⟩ : ∃ x, s + 1024 * t = x := ⟨_, rfl⟩
  obtain ⟨M, hM⟩ : ∃ x, v + 2 * M2 = x := ⟨_, rfl⟩
  obtain ⟨K, hK⟩ : ∃ x, u + 256 * M = x := ⟨_, rfl⟩
  have hN : B + r * 128 + (u * 4096 + v * 1048576 + s * 2097152 + t * 2147483648) = L + 4096 * K := by omega
  rw [hN]
  have n1 : (L + 4096 * K) / 4096 = K := by clear hN hK hM hM2 hL; omega
  have n2 : K / 256 = M := by clear hN n1 hM hM2 hL; omega
  have n3 : K % 256 = u := by clear hN n1 hM hM2 hL; omega
  have n4 : M / 2 = M2 := by clear hN n1 n2 n3 hK hM2 hL; omega
  have n5 : M % 2 = v := by clear hN n1 n2 n3 n4 hK hM2 hL; omega
  have n6 : M2 % 1024 = s := by clear hN n1 n2 n3 n4 n5 hK hM hL; omega
  have n7 : M2 / 1024 = t := by clear hN n1 n2 n3 n4 n5 n6 hK hM hL; omega
  have d1 : (L + 4096 * K) / 1048576 = M := by rw [show 1048576 = 4096 * 256 by decide, ← Nat.div_div_eq_div_mul, n1, n2]
  have d2 : (L + 4096 * K) / 2097152 = M2 := by rw [show 2097152 = 1048576 * 2 by decide, ← Nat.div_div_eq_div_mul, d1, n4]
  have d3 : (L + 4096 * K) / 2147483648 = t := by rw [show 2147483648 = 2097152 * 1024 by decide, ← Nat.div_div_eq_div_mul, d2, n7]
  have g1 : (L + 4096 * K) % 128 = B := by clear hN n1 n2 n3 n4 n5 n6 n7 d1 d2 d3 hM hM2 hK; omega
  have g2 : (L + 4096 * K) / 128 % 32 = r := by clear hN n1 n2 n3 n4 n5 n6 n7 d1 d2 d3 hM hM2 hK g1; omega
  have g3 : L + 4096 * K < 4294967296 := by clear n1 n2 n3 n4 n5 n6 n7 d1 d2 d3 g1 g2; omega
  refine ⟨g1, g2, ?_⟩
  rw [n1, d1, d2, n3, n5, n6]
  generalize L + 4096 * K = N at *
  clear hN n1 n2 n3 n4 n5 n6 n7 d1 d2 g1 g2 hM hM2 hK hL hL1 hB1 hB' hr
  have e4 : wrap32 (N : Int) / 2147483648 = - (t : Int) := by
    clear hs1 hv1 hu1
    unfold wrap32; omega
  rw [e4]
  clear e4 d3 g3
  omega
end Go.Proofs.Ytciehejifdbpoaa.Rv
