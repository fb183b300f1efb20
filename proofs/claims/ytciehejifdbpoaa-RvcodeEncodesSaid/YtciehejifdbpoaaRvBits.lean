import Derived.Test.YtciehejifdbpoaaRvAr
namespace Go.Proofs.Ytciehejifdbpoaa.Rv
open Go.Proofs.YtciehejifdbpoaaW.PrintWords Go.Proofs.YtciehejifdbpoaaW.PrintLast Go.Proofs.YtciehejifdbpoaaW.PrintMore
open Go.Proofs.Ytciehejifdbpoaa.PRvcodeDecodes

/-! ### Parts of a word -/
theorem cut_val (n a b : Nat) (hn : n < 4294967296) (ha : a ≤ 31) (hb : b ≤ 31) : rvcode_cut.f (n : Int) (a : Int) (b : Int) = some ((n / 2 ^ a % 2 ^ b : Nat) : Int) := by
  unfold rvcode_cut.f
  have wa : IntKind.u64.wrap (a : Int) = (a : Int) := by rw [IntKind.wrap_u64]; omega
  have wb : IntKind.u64.wrap (b : Int) = (b : Int) := by rw [IntKind.wrap_u64]; omega
  rw [if_pos (wrapu _), if_pos (wrapu _), wa, wb]
  have hp : 2 ^ b ≤ 2 ^ 31 := Nat.pow_le_pow_right (by decide) hb
  have hpos : 0 < 2 ^ b := Nat.two_pow_pos b
  have e1 : shr .u32 (n : Int) (a : Int) = ((n / 2 ^ a : Nat) : Int) := by
    unfold shr
    rw [Int.toNat_natCast, Nat.min_eq_left (by show a ≤ 32; omega)]
    simp
  have e2 : (shl .u32 1 (b : Int) - 1) % 4294967296 = (2 : Int) ^ b - 1 := by
    unfold shl
    rw [Int.toNat_natCast, Nat.min_eq_left (by show b ≤ 32; omega), IntKind.wrap_u32]
    have : ((2 : Int) ^ b) = ((2 ^ b : Nat) : Int) := by simp
    rw [this]
    omega
  rw [e1, e2, bits_mask .u32 32 (by decide) wraps_u32 b (by omega) _ (Int.natCast_nonneg _) (by
    have : n / 2 ^ a ≤ n := Nat.div_le_self _ _
    omega)]
  simp

theorem cutI_val (n a b : Nat) (hn : n < 4294967296) (ha : a ≤ 31) (hb : b ≤ 31) : cutI (n : Int) (a : Int) (b : Int) = ((n / 2 ^ a % 2 ^ b : Nat) : Int) := by
  unfold cutI; rw [cut_val n a b hn ha hb]; rfl

/-- A number whose bits lie in a mask. -/
def Within (M a : Nat) : Prop := a &&& M = a
theorem within_zero (M : Nat) : Within M 0 := by simp [Within]
theorem within_field (v s k : Nat) (h : v < 2 ^ k) : Within ((2 ^ k - 1) <<< s) (v * 2 ^ s) := by
  unfold Within
  rw [and_field, Nat.shiftRight_eq_div_pow, Nat.mul_div_cancel _ (Nat.two_pow_pos s), Nat.mod_eq_of_lt h, Nat.shiftLeft_eq]
theorem within_or {M N a b : Nat} (h : Within M a) (h' : Within N b) : Within (M ||| N) (a ||| b) := by
  unfold Within at *
  rw [Nat.and_or_distrib_left, Nat.and_or_distrib_right, Nat.and_or_distrib_right]
  apply Nat.eq_of_testBit_eq
  intro i
  have h1 := congrArg (·.testBit i) h
  have h2 := congrArg (·.testBit i) h'
  simp only [Nat.testBit_and, Nat.testBit_or] at *
  revert h1 h2
  cases a.testBit i <;> cases b.testBit i <;> cases M.testBit i <;> cases N.testBit i <;> simp
theorem within_lt {M a : Nat} (h : Within M a) : a ≤ M := by
  unfold Within at h
  rw [← h]; exact Nat.and_le_right
theorem or_eq_add {a b : Nat} (h : a &&& b = 0) : a ||| b = a + b := by
  induction a using Nat.strongRecOn generalizing b with
  | _ a ih =>
    by_cases ha : a = 0
    · subst ha; simp
    · have h2 : a / 2 &&& b / 2 = 0 := by rw [← Nat.and_div_two, h]
      have h3 := ih (a / 2) (by omega) h2
      have h4 : a % 2 = 0 ∨ b % 2 = 0 := by
        have := congrArg (· % 2) h
        simp only [Nat.and_mod_two_pow (n := 1)] at this
        have e : a % 2 &&& b % 2 = 0 := by
          have e1 := Nat.and_mod_two_pow (a := a) (b := b) (n := 1)
          rw [h] at e1
          simpa using e1.symm
        rcases Nat.mod_two_eq_zero_or_one a with x | x <;> rcases Nat.mod_two_eq_zero_or_one b with y | y <;> simp_all
      have h5 : (a ||| b) / 2 = a / 2 + b / 2 := by rw [Nat.or_div_two, h3]
      have h6 : (a ||| b) % 2 = a % 2 ||| b % 2 := by
        have := Nat.or_mod_two_pow (a := a) (b := b) (n := 1)
        simpa using this
      have h7 : (a ||| b) % 2 = a % 2 + b % 2 := by
        rw [h6]
        rcases h4 with x | x <;> rw [x] <;> simp
      omega
theorem within_apart {M N a b : Nat} (h : Within M a) (h' : Within N b) (hd : M &&& N = 0) : a &&& b = 0 := by
  unfold Within at *
  rw [← h, ← h', show (a &&& M) &&& (b &&& N) = (a &&& b) &&& (M &&& N) by ac_rfl, hd]; simp

/-- Two parts that lie apart: their union is their sum. -/
theorem or_apart {M N a b : Nat} (h : Within M a) (h' : Within N b) (hd : M &&& N = 0) (hM : M < 4294967296) (hN : N < 4294967296) :
    Go.bits .or .u32 (a : Int) (b : Int) = ((a + b : Nat) : Int) ∧ Within (M ||| N) (a + b) := by
  have e := or_eq_add (within_apart h h' hd)
  have ha := within_lt h
  have hb := within_lt h'
  rw [or32 a b (by omega) (by omega), e]
  refine ⟨rfl, ?_⟩
  rw [← e]; exact within_or h h'
end Go.Proofs.Ytciehejifdbpoaa.Rv
