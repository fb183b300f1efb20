import Derived.Test.YtciehejifdbpoaaRvPureB
namespace Go.Proofs.Ytciehejifdbpoaa.Rv
open Go.RowKit Go.Proofs.YtciehejifdbpoaaW.PrintWords Go.Proofs.YtciehejifdbpoaaW.PrintLast Go.Proofs.YtciehejifdbpoaaW.PrintMore
open Go.Proofs.Ytciehejifdbpoaa.PRvcodeDecodes

theorem wrapu_nat (a : Nat) (h : a < 4294967296) : IntKind.u64.wrap (a : Int) = (a : Int) := by rw [IntKind.wrap_u64]; omega
theorem shr_nat (n a : Nat) (ha : a ≤ 60) : shr .i64 (n : Int) (a : Int) = ((n / 2 ^ a : Nat) : Int) := by
  unfold shr
  rw [Int.toNat_natCast, Nat.min_eq_left (by show a ≤ 64; omega)]
  simp
theorem shl_one (b : Nat) (hb : b ≤ 60) : shl .i64 1 (b : Int) = ((2 ^ b : Nat) : Int) := by
  unfold shl
  rw [Int.toNat_natCast, Nat.min_eq_left (by show b ≤ 64; omega), IntKind.wrap_i64]
  have hp : 2 ^ b ≤ 2 ^ 60 := Nat.pow_le_pow_right (by decide) hb
  have hpos : 0 < 2 ^ b := Nat.two_pow_pos b
  have : ((2 : Int) ^ b) = ((2 ^ b : Nat) : Int) := by simp
  rw [this]
  generalize 2 ^ b = z at *
  omega
/-- The reference's bits of a number. -/
theorem bits_val (n a b : Nat) (hn : n < 4294967296) (ha : a ≤ 31) (hb : b ≤ 31) : burinref26_Bits.f (n : Int) (a : Int) (b : Int) = some ((n / 2 ^ a % 2 ^ b : Nat) : Int) := by
  unfold burinref26_Bits.f
  rw [if_pos (wrapu _), if_pos (wrapu _), wrapu_nat a (by omega), wrapu_nat b (by omega), shr_nat n a (by omega), shl_one b (by omega)]
  have hp : 2 ^ b ≤ 2 ^ 31 := Nat.pow_le_pow_right (by decide) hb
  have hpos : 0 < 2 ^ b := Nat.two_pow_pos b
  have hle : n / 2 ^ a ≤ n := Nat.div_le_self _ _
  have e : wrap64 (((2 ^ b : Nat) : Int) - 1) = (2 : Int) ^ b - 1 := by
    have : ((2 : Int) ^ b) = ((2 ^ b : Nat) : Int) := by simp
    rw [this]
    generalize 2 ^ b = z at *
    exact w64 _ (by omega) (by omega)
  rw [e, bits_mask .i64 63 (by decide) wraps_i64 b (by omega) _ (Int.natCast_nonneg _) (by
    generalize n / 2 ^ a = z at *
    omega)]
  simp
/-- The reference's number with a sign. -/
theorem signed_val (v s : Nat) (hs : s ≤ 30) (hv : v < 2 ^ (s + 1)) : burinref26_signed.f (v : Int) ((s + 1 : Nat) : Int) = some (if 2 ^ s ≤ v then (v : Int) - ((2 ^ (s + 1) : Nat) : Int) else (v : Int)) := by
  unfold burinref26_signed.f
  have e1 : wrap64 (((s + 1 : Nat) : Int) - 1) = (s : Int) := by
    have : ((s + 1 : Nat) : Int) - 1 = (s : Int) := by omega
    rw [this]; exact w64 _ (by omega) (by omega)
  rw [if_pos (wrapu _), e1, wrapu_nat s (by omega), shr_nat v s (by omega)]
  have hp : 2 ^ s ≤ 2 ^ 30 := Nat.pow_le_pow_right (by decide) hs
  have hpos : 0 < 2 ^ s := Nat.two_pow_pos s
  have h2 : 2 ^ (s + 1) = 2 * 2 ^ s := by rw [Nat.pow_succ]; omega
  have hv' : v < 2 * 2 ^ s := by rw [← h2]; exact hv
  have hq : v / 2 ^ s < 2 := by rw [Nat.div_lt_iff_lt_mul hpos]; omega
  have e2 : Go.bits .and .i64 ((v / 2 ^ s : Nat) : Int) 1 = ((v / 2 ^ s : Nat) : Int) := by
    have := bits_mask .i64 63 (by decide) wraps_i64 1 (by decide) ((v / 2 ^ s : Nat) : Int) (Int.natCast_nonneg _) (by
      generalize v / 2 ^ s = z at *
      omega)
    rw [show (2 : Int) ^ 1 - 1 = 1 from rfl] at this
    rw [this]
    generalize v / 2 ^ s = z at *
    omega
  rw [e2]
  by_cases hc : 2 ^ s ≤ v
  · have : v / 2 ^ s = 1 := by
      have h1 : 1 ≤ v / 2 ^ s := (Nat.one_le_div_iff hpos).2 hc
      omega
    rw [this, if_pos (show ((1 : Nat) : Int) = 1 from rfl), if_pos (wrapu _), wrapu_nat (s + 1) (by omega), shl_one (s + 1) (by omega), if_pos hc]
    refine congrArg some ?_
    rw [h2]
    clear h2 e2 this hv
    generalize 2 ^ s = z at *
    exact w64 _ (by omega) (by omega)
  · have : v / 2 ^ s = 0 := Nat.div_eq_of_lt (by omega)
    rw [this, if_neg (show ¬ ((0 : Nat) : Int) = 1 by decide), if_neg hc]
end Go.Proofs.Ytciehejifdbpoaa.Rv
